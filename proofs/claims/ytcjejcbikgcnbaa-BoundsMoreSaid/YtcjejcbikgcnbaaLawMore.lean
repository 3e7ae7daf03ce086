/- The law BoundsMore: the walk. -/
import Derived.Test.YtcjejcbikgcnbaaRightLaw
import Derived.Test.YtcjejcbikgcnbaaCloneT
import Derived.Test.YtcjejcbikgcnbaaEmb
import Derived.Test.YtcjejcbikgcnbaaLawPath
import Derived.Deep.AppendLies
import Derived.Deep.DeepCutAuto
namespace Go.Proofs.Ytcjejcbikgcnbaa
open Go.RowKit Go.Shelf

theorem new_cells (t : Task) (w : World) (j : Nat) (u : Value) (hu : t.cells[j]? = some u) :
    (w.alloc (.cells #[.string t.name, .int .i64 t.len, .int .i64 t.crew, .int .i64 t.pow, .slice t.ba t.bef.length t.bc] 41)).cell? ((Addr.mk w.heap.size 0 none).add j) = some u := by
  rw [add_lit, Nat.zero_add, World.cell?_alloc_new, List.getElem?_toArray]
  exact hu
theorem old_cells (t : Task) {w w' : World} {W : World} (hb : Below W.heap.size W w') (hW : W = (w.alloc (.cells #[.string t.name, .int .i64 t.len, .int .i64 t.crew, .int .i64 t.pow, .slice t.ba t.bef.length t.bc] 41)).drew := by rfl) (j : Nat) (u : Value) (hu : t.cells[j]? = some u) :
    w'.cell? ((Addr.mk w.heap.size 0 none).add j) = some u := by
  subst hW
  have h := new_cells t w j u hu
  rw [add_lit] at h ⊢
  exact (hb.cell (p := ⟨w.heap.size, 0 + j, none⟩) (by simp [World.drew])).trans h
theorem moreTasks {w : World} {base B n : Nat} {v v' : Value} {l : List Task} {t : Task} (h : w.ownsRow base 41 5 v' n (l.flatMap Task.cells ++ t.cells)) (hl : TasksAt w B v l) (hs : StrsAt w B t.bv t.bef) (ho : t.ok) (hB : B ≤ w.heap.size := by exact Nat.le_refl _) :
    TasksAt w w.heap.size v' (l ++ [t]) := by
  refine TasksAt.of_own (B := B) (n := n) (base := base) (by simpa using h) (fun t' ht' => ?_) hB (fun t' ht' => ?_)
  · rw [List.mem_append, List.mem_singleton] at ht'
    rcases ht' with h' | rfl
    · exact hl.2.1 t' h'
    · exact hs
  · rw [List.mem_append, List.mem_singleton] at ht'
    rcases ht' with h' | rfl
    · exact hl.2.2 t' h'
    · exact ho
/-- A slice of one task that has just been laid. -/
theorem oneTask (t : Task) (w : World) (hs : StrsAt w w.heap.size t.bv t.bef) (ho : t.ok) :
    TasksAt (w.alloc (.cells #[.string t.name, .int .i64 t.len, .int .i64 t.crew, .int .i64 t.pow, .slice t.ba t.bef.length t.bc] 41)) (w.heap.size + 1) (.slice (some ⟨w.heap.size, 0, none⟩) 1 1) [t] := by
  have hb : Below w.heap.size w (w.alloc (.cells #[.string t.name, .int .i64 t.len, .int .i64 t.crew, .int .i64 t.pow, .slice t.ba t.bef.length t.bc] 41)) := (Below.refl _ _).alloc (Nat.le_refl _) _
  refine ⟨⟨_, 1, rfl, Nat.le_refl _, by unfold maxLen; omega, fun _ => ⟨w.heap.size, 0, rfl, by omega, fun j u hu => ?_⟩⟩, fun t' ht' => ?_, fun t' ht' => ?_⟩
  · rw [Nat.zero_add, World.cell?_alloc_new, List.getElem?_toArray]
    simpa [Task.cells] using hu
  · obtain rfl : t' = t := by simpa using ht'
    exact (hs.below hb (Nat.le_refl _)).mono (by omega)
  · obtain rfl : t' = t := by simpa using ht'
    exact ho

/-- More crew and power: what Best says. -/
theorem best_limits {l : List Task} {c p y L K : Int} {z : List Nat} {s : Nat} {w w' : World} {e : Ending} (hg : givenN l c p = 0) (hy : 0 ≤ y) (hh : Heavy l c p (2 ^ l.length) K s) (hc : Covers l [l.length] L z) (h : BestPost l (c + y) (p + y) w e w') :
    ∃ X E, e = .returned (.tuple #[.int .i64 X, .int .i64 E]) ∧ (E = 1 ∨ E = 0 ∧ X ≤ max3 (workN l c p) L K) := by
  obtain ⟨-, ⟨hno, rfl⟩ | ⟨hz, L', K', z', s', hc', hh', rfl⟩⟩ := h
  · refine ⟨_, _, rfl, .inl ?_⟩
    obtain ⟨-, -, -, -, -, hfit⟩ := givenN_zero hg
    have ha : l.any (tooMuch (c + y) (p + y)) = false := by
      rw [List.any_eq_false]
      intro t ht
      have := hfit t ht
      unfold tooMuch
      simp only [Bool.or_eq_true, decide_eq_true_eq, not_or]
      omega
    unfold givenN at hno ⊢
    rw [ha] at hno ⊢
    cases hv : validB l (c + y) (p + y) with
    | false => rfl
    | true => rw [hv] at hno; exact absurd rfl hno
  · refine ⟨_, _, rfl, .inr ⟨rfl, ?_⟩⟩
    obtain ⟨rfl, -⟩ := hc.uniq hc'
    exact max3_mono (work_less hg hz (by omega) (by omega)) (Int.le_refl _) (heavy_less (by omega) (by omega) hh hh')
theorem best_turned {l : List Task} {c p L K : Int} {z : List Nat} {s : Nat} {w w' : World} {e : Ending} (hg : givenN l c p = 0) (hh : Heavy l c p (2 ^ l.length) K s) (hc : Covers l [l.length] L z) (h : BestPost l.reverse c p w e w') :
    e = .returned (.tuple #[.int .i64 (max3 (workN l c p) L K), .int .i64 0]) := by
  have hg' := given_rev hg
  obtain ⟨-, ⟨hno, rfl⟩ | ⟨-, L', K', z', s', hc', hh', rfl⟩⟩ := h
  · exact absurd hg' hno
  · have e1 : L' = L := Int.le_antisymm ((emb_rev' l).covers hc' hc) ((emb_rev l).covers hc hc')
    have e2 : K' = K := Int.le_antisymm ((emb_rev' l).heavy hh' hh) ((emb_rev l).heavy hh hh')
    have e3 : workN l.reverse c p = workN l c p := by unfold workN; rw [need_rev, need_rev]
    rw [e1, e2, e3]
theorem path_turned {l : List Task} {L : Int} {z : List Nat} {w w' : World} {e : Ending} (hR : RightT l) (hc : Covers l [l.length] L z) (h : PathPost l.reverse w e w') :
    ∃ v, e = .returned (.tuple #[.int .i64 L, v, .int .i64 0]) := by
  obtain ⟨-, ⟨hno, rfl⟩ | ⟨-, L', z', v, hc', rfl, -⟩⟩ := h
  · rw [(right_iff _).2 (right_rev hR)] at hno; cases hno
  · have e1 : L' = L := Int.le_antisymm ((emb_rev' l).covers hc' hc) ((emb_rev l).covers hc hc')
    exact ⟨v, by rw [e1]⟩
theorem best_further {l : List Task} {x : Task} {c p L K : Int} {z : List Nat} {s : Nat} {w w' : World} {e : Ending} (hg : givenN l c p = 0) (hgm : givenN (l ++ [x]) c p = 0) (hh : Heavy l c p (2 ^ l.length) K s) (hc : Covers l [l.length] L z)
    (h : BestPost (l ++ [x]) c p w e w') : ∃ Y, ∃ _ : True, e = .returned (.tuple #[.int .i64 Y, .int .i64 0]) ∧ max3 (workN l c p) L K ≤ Y ∧ RightT (l ++ [x]) := by
  have hR := (givenN_zero hgm).1
  obtain ⟨-, ⟨hno, rfl⟩ | ⟨-, L', K', z', s', hc', hh', rfl⟩⟩ := h
  · exact absurd hgm hno
  · refine ⟨_, trivial, rfl, ?_, hR⟩
    have hf := field_mem hR (show x ∈ l ++ [x] by simp)
    have h1 := fieldB_crew hf
    have h2 := fieldB_pow hf
    have h3 := fieldB_len hf
    have e1 : 0 ≤ x.crew * x.len := Int.mul_nonneg h1.1 (by omega)
    have e2 : 0 ≤ x.pow * x.len := Int.mul_nonneg h2.1 (by omega)
    exact max3_mono (work_more hg hgm (by rw [need_more]; omega) (by rw [need_more]; omega)) ((emb_more l x).covers hc hc') ((emb_more l x).heavy hh hh')
theorem path_further {l : List Task} {x : Task} {L : Int} {z : List Nat} {w w' : World} {e : Ending} (hR : RightT (l ++ [x])) (hc : Covers l [l.length] L z) (h : PathPost (l ++ [x]) w e w') :
    ∃ N v, e = .returned (.tuple #[.int .i64 N, v, .int .i64 0]) ∧ L ≤ N := by
  obtain ⟨-, ⟨hno, rfl⟩ | ⟨-, L', z', v, hc', rfl, -⟩⟩ := h
  · rw [(right_iff _).2 hR] at hno; cases hno
  · exact ⟨L', v, rfl, (emb_more l x).covers hc hc'⟩
theorem max3_facts (a b c : Int) : a ≤ max3 a b c ∧ b ≤ max3 a b c ∧ c ≤ max3 a b c ∧ (max3 a b c = a ∨ max3 a b c = b ∨ max3 a b c = c) := by
  unfold max3
  repeat' split
  all_goals omega
theorem Heavy.uniqH' {l : List Task} {c p : Int} {L L' : Int} {s s' : Nat} (h : Heavy l c p (2 ^ l.length) L s) (h' : Heavy l c p (2 ^ l.length) L' s') : L = L' ∧ s = s' := h.uniq h'

set_option maxRecDepth 100000 in
set_option maxHeartbeats 8000000 in
theorem lawBoundsMore (v : Value) (l : List Task) (c p y : Int) (x : Task) (w : World) (hl : TasksAt w w.heap.size v l) (hy : 0 ≤ y ∧ y ≤ 255) (hx : StrsAt w w.heap.size x.bv x.bef) (hxo : x.ok) :
    Calls Try.prog 5 #[v, .int .i64 c, .int .i64 p, .int .u8 y, x.val] w fun e w' => e = .returned (.bool true) ∧ Below w.heap.size w w' := by
  have HT : Hid (∀ w1, Below w.heap.size w w1 → TasksAt w1 w1.heap.size v l) := fun w1 hb => (hl.below hb (Nat.le_refl _)).mono hb.size
  have HX : Hid (∀ w1, Below w.heap.size w w1 → StrsAt w1 w1.heap.size x.bv x.bef) := fun w1 hb => (hx.below hb (Nat.le_refl _)).mono hb.size
  have HO := Lib.hid hxo
  have hb0 : Below w.heap.size w (w.alloc (.cells #[.string x.name, .int .i64 x.len, .int .i64 x.crew, .int .i64 x.pow, .slice x.ba x.bef.length x.bc] 41)) := (Below.refl _ _).alloc (Nat.le_refl _) _
  have hA := lawAwake (w.alloc (.cells #[.string x.name, .int .i64 x.len, .int .i64 x.crew, .int .i64 x.pow, .slice x.ba x.bef.length x.bc] 41))
  have hRL := fun w1 hb => lawRight v l c p w1 (HT.out w1 hb)
  have HBox : Hid (∀ W, Below (w.alloc (.cells #[.string x.name, .int .i64 x.len, .int .i64 x.crew, .int .i64 x.pow, .slice x.ba x.bef.length x.bc] 41)).heap.size (w.alloc (.cells #[.string x.name, .int .i64 x.len, .int .i64 x.crew, .int .i64 x.pow, .slice x.ba x.bef.length x.bc] 41)) W → TaskCells W w.heap.size 0 x) := fun W hb => by
    have xb := World.cell?_alloc_new w #[.string x.name, .int .i64 x.len, .int .i64 x.crew, .int .i64 x.pow, .slice x.ba x.bef.length x.bc] 41
    refine TaskCells.below ⟨?_, ?_, ?_, ?_, ?_⟩ hb (by simp)
    · exact xb 0
    · exact xb 1
    · exact xb 2
    · exact xb 3
    · exact xb 4
  unfold Task.val
  clear hl hx hxo
  obtain ⟨hy1, hy2⟩ := hy
  cases hsm : smallB l c p with
  | false =>
    rw [hsm] at hRL
    clear hsm
    go_enter Try.func5, Try.ntmps5
    go_wp2_with fail
    refine hA.mono ?_
    rintro e w1 ⟨rfl, hb1⟩
    have hb := hb0.trans (hb1.mono hb0.size)
    go_wp2_with fail
    refine (hRL _ hb).mono ?_
    rintro e w2 ⟨rfl, hb2⟩
    go_wp2_with fail
    go_ret
    exact ⟨rfl, hb.trans (hb2.mono hb.size)⟩
  | true =>
    rw [hsm] at hRL
    obtain ⟨h6, hg⟩ := smallB_yes hsm
    obtain ⟨hR, hc1, hp1, hc0, hp0, hfit⟩ := givenN_zero hg
    have Hg := Lib.hid hg
    have HR := Lib.hid hR
    clear hsm hg hR hfit
    have hxl : ∀ (w2 : World), Below w.heap.size w w2 → Calls Try.prog 17 #[.slice (some ⟨w2.heap.size, 0, none⟩) 1 1] (w2.alloc (.cells #[.string x.name, .int .i64 x.len, .int .i64 x.crew, .int .i64 x.pow, .slice x.ba x.bef.length x.bc] 41)) fun e w' => e = .returned (.bool (longL [x])) ∧ Below w2.heap.size w2 w' := fun w2 hb =>
      (lawLong _ [x] _ (by simpa using oneTask x w2 (HX.out w2 hb) HO.out)).mono fun e w' h => ⟨h.1, ((Below.refl _ _).alloc (Nat.le_refl _) _).trans (h.2.mono (by simp))⟩
    cases hlx : longL [x] with
    | true =>
      rw [hlx] at hxl
      clear hlx
      go_enter Try.func5, Try.ntmps5
      go_wp2_with fail
      refine hA.mono ?_
      rintro e w1 ⟨rfl, hb1⟩
      have hb := hb0.trans (hb1.mono hb0.size)
      go_wp2_with fail
      refine (hRL _ hb).mono ?_
      rintro e w2 ⟨rfl, hb2⟩
      have hz := hb1.trans (hb2.mono hb1.size)
      have hbw := hb.trans (hb2.mono hb.size)
      obtain ⟨x0, x1, x2, x3, x4⟩ := HBox.out _ hz
      have hxl2 := hxl _ hbw
      go_wp2_with fail
      refine hxl2.mono ?_
      rintro e w3 ⟨rfl, hb3⟩
      go_wp2_with fail
      go_ret
      exact ⟨rfl, hbw.trans (hb3.mono hbw.size)⟩
    | false =>
      rw [hlx] at hxl
      clear hlx
      go_enter Try.func5, Try.ntmps5
      go_wp2_with fail
      refine hA.mono ?_
      rintro e w1 ⟨rfl, hb1⟩
      have hb := hb0.trans (hb1.mono hb0.size)
      go_wp2_with fail
      refine (hRL _ hb).mono ?_
      rintro e w2 ⟨rfl, hb2⟩
      have hz := hb1.trans (hb2.mono hb1.size)
      have hbw := hb.trans (hb2.mono hb.size)
      obtain ⟨x0, x1, x2, x3, x4⟩ := HBox.out _ hz
      have hxl2 := hxl _ hbw
      clear hxl hRL hA hb1 hb2 hb
      go_wp2_with fail
      refine hxl2.mono ?_
      rintro e w3 ⟨rfl, hb3⟩
      have hz := hz.trans (hb3.mono hz.size)
      have hbw := hbw.trans (hb3.mono hbw.size)
      clear hb3 hxl2 x0 x1 x2 x3 x4
      go_wp2_with fail
      refine (boundsBest v l c p w3 (HT.out _ hbw)).mono ?_
      rintro e w4 ⟨hb4, hpost⟩
      rcases hpost with ⟨hno, _⟩ | ⟨_, L, K, yy, s, hcv, hhv, rfl⟩
      · exact absurd Hg.out hno
      have Hc := Lib.hid hcv
      have Hh := Lib.hid hhv
      have hz := hz.trans (hb4.mono hz.size)
      have hbw := hbw.trans (hb4.mono hbw.size)
      clear hb4 hcv hhv
      have hWk := boundsWork v l c p w4 (HT.out _ hbw)
      unfold WorkPost at hWk
      rw [Hg.out, if_pos rfl] at hWk
      obtain ⟨WW, hWW⟩ : ∃ WW, WW = workN l c p := ⟨_, rfl⟩
      have HWW := Lib.hid hWW
      rw [← hWW] at hWk ⊢
      clear hWW
      obtain ⟨M, hM⟩ : ∃ M, M = max3 WW L K := ⟨_, rfl⟩
      have HM := Lib.hid hM
      rw [← hM] at ⊢
      have Hmx : Hid (WW ≤ M ∧ L ≤ M ∧ K ≤ M ∧ (M = WW ∨ M = L ∨ M = K)) := by rw [hM]; exact max3_facts WW L K
      clear hM
      go_wp2_with fail
      refine hWk.mono ?_
      rintro e w5 ⟨rfl, hb5⟩
      have hz := hz.trans (hb5.mono hz.size)
      have hbw := hbw.trans (hb5.mono hbw.size)
      clear hb5 hWk
      go_wp2_with fail
      refine (boundsClique v l c p w5 (HT.out _ hbw)).mono ?_
      rintro e w6 ⟨hb6, hpost⟩
      rcases hpost with ⟨hno, _⟩ | ⟨_, K', s', v6, hhv, rfl, -⟩
      · exact absurd Hg.out hno
      obtain ⟨rfl, rfl⟩ := Hh.out.uniqH' hhv
      have hz := hz.trans (hb6.mono hz.size)
      have hbw := hbw.trans (hb6.mono hbw.size)
      clear hb6 hhv
      go_wp2_with fail
      refine (boundsPath v l w6 (HT.out _ hbw)).mono ?_
      rintro e w7 ⟨hb7, hpost⟩
      rcases hpost with ⟨hno, _⟩ | ⟨_, L', yy', v7, hcv, rfl, -⟩
      · rw [(right_iff l).2 HR.out] at hno; cases hno
      obtain ⟨rfl, rfl⟩ := Hc.out.uniqH hcv
      have hz := hz.trans (hb7.mono hz.size)
      have hbw := hbw.trans (hb7.mono hbw.size)
      clear hb7 hcv
      have hm1 := Hmx.out.1
      have hm2 := Hmx.out.2.1
      have hm3 := Hmx.out.2.2.1
      have hmx : (M != (if (if WW < K then K else WW) < L then L else if WW < K then K else WW)) = false := by
        have h := Hmx.out.2.2.2
        have e : M = (if (if WW < K then K else WW) < L then L else if WW < K then K else WW) := by
          repeat' split
          all_goals omega
        rw [← e]
        simp
      go_upto_region 9 with fail
      go_cut [111] (fun s wx => s = .bool false ∧ wx = w7)
      case first =>
        go_wp2_with fail
        all_goals
          go_meet
          exact ⟨congrArg Value.bool (by simp; omega), rfl⟩
      case rest =>
        obtain ⟨rfl, rfl⟩ := hcut
        clear hm1 hm2 hm3 hmx
        go_wp2_with fail
        refine (boundsBest v l (c + y) (p + y) _ (HT.out _ hbw)).mono ?_
        rintro e w8 ⟨hb8, hpost⟩
        obtain ⟨XX, EE, rfl, hXE⟩ := best_limits Hg.out hy1 Hh.out Hc.out ⟨hb8, hpost⟩
        have hz := hz.trans (hb8.mono hz.size)
        have hbw := hbw.trans (hb8.mono hbw.size)
        rw [← HWW.out, ← HM.out] at hXE
        clear hb8 hpost
        go_upto_region 12 with fail
        go_cut [135] (fun s wx => s = .bool false ∧ wx = w8)
        case first =>
          rcases hXE with rfl | ⟨rfl, hXM⟩
          · go_wp2_with fail
            go_meet
            exact ⟨rfl, rfl⟩
          · go_wp2_with fail
            go_meet
            exact ⟨congrArg Value.bool (by simp; omega), rfl⟩
        case rest =>
          obtain ⟨rfl, rfl⟩ := hcut
          clear hXE
          go_wp2_with fail
          refine (cloneTasks v l _ (HT.out _ hbw) (by omega)).mono ?_
          rintro e w9 ⟨v9, rfl, hown9, hb9⟩
          go_wp2_with fail
          refine (reverseTasks v9 l _ w9 hown9).mono ?_
          rintro e w10 ⟨rfl, hfl, hgr⟩
          have hb10 := hb9.grown hgr hb9.size (fun k hk => (hown9.lt k hk).1)
          have hz := hz.trans (hb10.mono hz.size)
          have hbw := hbw.trans (hb10.mono hbw.size)
          have hTr : Hid (∀ w1, Below w10.heap.size w10 w1 → TasksAt w1 w1.heap.size v9 l.reverse) := fun w1 hb => by
            have h := HT.out w10 hbw
            have : TasksAt w10 w10.heap.size v9 l.reverse := ⟨by rw [List.length_reverse]; exact hfl, fun t ht => h.2.1 t (List.mem_reverse.1 ht), fun t ht => h.2.2 t (List.mem_reverse.1 ht)⟩
            exact (this.below hb (Nat.le_refl _)).mono hb.size
          clear hb9 hown9 hfl hgr hb10
          go_wp2_with fail
          refine (boundsBest v9 l.reverse c p w10 (hTr.out _ (Below.refl _ _))).mono ?_
          rintro e w11 ⟨hb11, hpost⟩
          obtain rfl := best_turned Hg.out Hh.out Hc.out ⟨hb11, hpost⟩
          rw [← HWW.out, ← HM.out]
          clear hpost
          go_wp2_with fail
          refine (boundsPath v9 l.reverse w11 (hTr.out _ hb11)).mono ?_
          rintro e w12 ⟨hb12, hpost⟩
          obtain ⟨v12, rfl⟩ := path_turned HR.out Hc.out ⟨hb12, hpost⟩
          have hb1x := hb11.trans (hb12.mono hb11.size)
          have hz := hz.trans (hb1x.mono hz.size)
          have hbw := hbw.trans (hb1x.mono hbw.size)
          clear hb11 hb12 hb1x hpost hTr
          have hMM : (M != M) = false := by simp
          have hLL : (L != L) = false := by simp
          obtain ⟨x0, x1, x2, x3, x4⟩ := HBox.out _ hz
          obtain ⟨wq, rfl⟩ : ∃ wq : World, wq = w12 := ⟨_, rfl⟩
          go_upto_region 20 with fail
          go_cut [29] (fun s wx => Hid (TasksAt wx wx.heap.size s (l ++ [x]) ∧ Below w.heap.size w wx))
          case first =>
            have hbd := hbw.drew
            have hba : ∀ o, Below w.heap.size w (wq.alloc o).drew := fun o => (hbw.alloc hbw.size o).drew
            obtain ⟨i0, hi0, hz0, hz1, hz2⟩ := info_parts info_task
            have HI := Lib.hid hi0
            have H0 := Lib.hid hz0
            have H2 := Lib.hid hz2
            have H1 := Lib.hid hz1
            clear hMM hLL hi0 hz0 hz1 hz2
            have hzd := hz.drew
            have hza := fun o => (hz.alloc hz.size o).drew
            have hone : ∀ u ∈ x.cells, u.oneCell' = true := fun u hu => flat_one [x] u (by simpa using hu)
            have hlen6 : l.length ≤ 6 := h6
            go_region_law (first
              | (go_simp; go_at_call 31; refine (cloneTasks v l _ (HT.out _ (by first | exact hbd | exact hba _)) (by omega)).mono ?_; rintro e wk ⟨vk, rfl, hok, hbk⟩; have hbwk : Below w.heap.size w wk := (by first | exact hbd.trans (hbk.mono hbd.size) | exact (hba _).trans (hbk.mono (hba _).size)); have hok' := own_mono hok (by first | exact hbd.size | exact (hba _).size); obtain ⟨k0, k1, k2, k3, k4⟩ := HBox.out wk (by first | exact hzd.trans (hbk.mono hzd.size) | exact (hza _).trans (hbk.mono (hza _).size)))
              | (refine step_append_lies _ rfl (.tmp 170) (.tmp 172) 22 rfl w.heap.size 41 i0 _ 5 64 Try.underlying22 HI.out H0.out H1.out H2.out rfl (by decide) vk l.length (l.flatMap Task.cells) (by go_simp) (hok'.alloc _) ⟨wk.heap.size, 0, none⟩ 1 1 x.cells (by go_simp) rfl (new_cells x wk) hone (by omega) (by unfold maxLen; omega) (by omega) (Nat.le_trans hbwk.size (by simp)) _ rfl ?_; intro gg cap wz hoz hgz hgg hlt; have hbz := (hbwk.alloc hbwk.size _).grown hgz (Nat.le_trans hbwk.size (by simp)) (fun k hk => (hok'.lt k hk).1); have hTz := Lib.hid (moreTasks hoz (HT.out wz hbz) (HX.out wz hbz) HO.out))
              | (refine step_append_lies _ rfl (.tmp 170) (.tmp 172) 22 rfl w.heap.size 41 i0 _ 5 64 Try.underlying22 HI.out H0.out H1.out H2.out rfl (by decide) vk l.length (l.flatMap Task.cells) (by go_simp) hok' ⟨wq.heap.size, 0, none⟩ 1 1 x.cells (by go_simp) rfl (old_cells x hbk) hone (by omega) (by unfold maxLen; omega) (by omega) hbwk.size _ rfl ?_; intro gg cap wz hoz hgz hgg hlt; have hbz := hbwk.grown hgz hbwk.size (fun k hk => (hok'.lt k hk).1); have hTz := Lib.hid (moreTasks hoz (HT.out wz hbz) (HX.out wz hbz) HO.out)))
            all_goals
              go_simp
              go_wp2_with fail
              go_meet
              exact ⟨hTz.out, hbz⟩
          case rest =>
            clear x0 x1 x2 x3 x4
            obtain ⟨hTm, hbm⟩ := hcut.out
            have HTm : Hid (∀ w1, Below wc.heap.size wc w1 → TasksAt w1 w1.heap.size _ (l ++ [x])) := fun w1 hb => (hTm.below hb (Nat.le_refl _)).mono hb.size
            clear hcut hTm hMM hLL hz
            go_wp2_with fail
            refine (boundsBest _ (l ++ [x]) c p _ (HTm.out _ (Below.refl _ _))).mono ?_
            rintro e w14 ⟨hb14, hpost⟩
            by_cases hgm : givenN (l ++ [x]) c p = 0
            · obtain ⟨Y, P2, rfl, hY, hRm⟩ := best_further Hg.out hgm Hh.out Hc.out ⟨hb14, hpost⟩
              have hpth := boundsPath _ (l ++ [x]) w14 (HTm.out _ hb14)
              rw [← HWW.out, ← HM.out] at hY
              have Hgm := Lib.hid hgm
              have HRm := Lib.hid hRm
              clear hpost hgm hRm
              go_wp2_with fail
              refine hpth.mono ?_
              rintro e w15 ⟨hb15, hpost⟩
              obtain ⟨N2, v15, rfl, hN2⟩ := path_further HRm.out Hc.out ⟨hb15, hpost⟩
              clear hpost hpth
              have hbe := hbm.trans ((hb14.trans (hb15.mono hb14.size)).mono hbm.size)
              go_wp2_with fail
              go_ret
              exact ⟨rfl, hbe⟩
            · rcases hpost with ⟨_, rfl⟩ | ⟨hno, _⟩
              rotate_left
              · exact absurd hno hgm
              have Hgm := Lib.hid hgm
              generalize givenN (l ++ [x]) c p = gm at *
              have hgb : (gm != 0) = true := by simpa using Hgm.out
              clear hgm
              go_wp2_with fail
              go_ret
              exact ⟨rfl, hbm.trans (hb14.mono hbm.size)⟩

end Go.Proofs.Ytcjejcbikgcnbaa
