/- bounds.comes: the walk. -/
import Derived.Test.YtcjejcbikgcnbaaMat
namespace Go.Proofs.Ytcjejcbikgcnbaa
open Go.RowKit Go.Shelf

theorem info_sliceB : (Try.prog.info? 89).map (fun i => (i.zero, i.size, i.bytes)) = some (some (.slice none 0 0), 1, 24) := by kernel_rfl
theorem own_blk {w : World} {B e g n : Nat} {xs : List Value} (h : w.ownsRow B e 1 (.slice (some ⟨g, 0, none⟩) n n) n xs) : B ≤ g ∧ ∃ cs, Blk w g e cs ∧ cs.size = n ∧ ∀ k : Nat, k < n → cs[k]? = xs[k]? := by
  rcases h.2 with ⟨e', _⟩ | ⟨g', cap', cur, hv, h1, h2, h3, h4, h5, h6⟩
  · injection e' with e1; cases e1
  · injection hv with e1 e2 e3
    injection e1 with e1
    injection e1 with e1
    subst e1 e3
    refine ⟨h1, cur, h2, by omega, fun k hk => ?_⟩
    rw [← h6]
    simp [hk]
    all_goals omega

/-- The table while it is filled: all pairs ahead of (i, k) are done. -/
structure Fill (l : List Task) (i k : Nat) (b : Nat → Nat → Bool) : Prop where
  sound : ∀ x y, b x y = true → edge l x y
  full : ∀ x y, x < l.length → y < l.length → x < i ∨ x = i ∧ y < k → edge l x y → b x y = true
  rest : ∀ x y, ¬ (x < i ∨ x = i ∧ y < k) → b x y = false
theorem Fill.start (l : List Task) : Fill l 0 0 fun _ _ => false := ⟨(fun _ _ h => absurd h (by decide)), (fun x y _ _ h => by omega), (fun _ _ _ => rfl)⟩
theorem Fill.step {l : List Task} {i k : Nat} {b : Nat → Nat → Bool} (h : Fill l i k b) {v : Bool} (hv : v = true ↔ edge l i k) : Fill l i (k + 1) (setB b i k v) := by
  refine ⟨fun x y hb => ?_, fun x y hx hy hd he => ?_, fun x y hd => ?_⟩
  · unfold setB at hb
    split at hb
    · rename_i e; obtain ⟨rfl, rfl⟩ := e; exact hv.1 hb
    · exact h.sound x y hb
  · unfold setB
    split
    · rename_i e; obtain ⟨rfl, rfl⟩ := e; exact hv.2 he
    · rename_i e; exact h.full x y hx hy (by omega) he
  · unfold setB
    rw [if_neg (by omega)]
    exact h.rest x y (by omega)
theorem Fill.row {l : List Task} {i : Nat} {b : Nat → Nat → Bool} (h : Fill l i l.length b) (hlow : ∀ x y, b x y = true → y < l.length) : Fill l (i + 1) 0 b := by
  refine ⟨h.sound, fun x y hx hy hd he => h.full x y hx hy (by omega) he, fun x y hd => ?_⟩
  cases hb : b x y with
  | false => rfl
  | true =>
    have := hlow x y hb
    have := h.rest x y (by omega)
    rw [hb] at this
    exact this
theorem Fill.row' {l : List Task} {i : Nat} {b : Nat → Nat → Bool} (h : Fill l i l.length b) : Fill l (i + 1) 0 b := h.row fun x y hb => (h.sound x y hb).2.1
theorem Fill.stage {l : List Task} {b : Nat → Nat → Bool} (h : Fill l l.length 0 b) : Stage l 0 0 0 b :=
  Stage.start (fun x y hb => reach_one (h.sound x y hb)) fun x y hx hy hv => h.full x y hx hy (by omega) hv

/-- What comes leaves: the table of what comes before what. -/
def ComesPost (l : List Task) (w : World) (e : Ending) (w' : World) : Prop :=
  Below w.heap.size w w' ∧ ∃ M D b, e = .returned (.slice (some ⟨M, 0, none⟩) l.length l.length) ∧ MatR w' w.heap.size M D l.length l.length b ∧ Stage l l.length 0 0 b

set_option maxRecDepth 100000 in
set_option maxHeartbeats 4000000 in
theorem boundsComes (v : Value) (l : List Task) (w : World) (hl : TasksAt w w.heap.size v l) (h8 : l.length ≤ 8) :
    Calls Try.prog 75 #[v] w (ComesPost l w) := by
  have HL := Lib.hid hl
  obtain ⟨A, c, rfl, hc1, hc2, -⟩ := hl.open_
  unfold maxLen at hc2
  clear hl
  obtain ⟨i0, hi0, hz0, hz1, hz2⟩ := info_parts info_sliceB
  have hbytes : i0.bytes * l.length ≤ 281474976710656 := by rw [hz2]; omega
  obtain ⟨j0, hj0, hy0, hy1, hy2⟩ := info_parts info_bool
  have hbytes2 : j0.bytes * l.length ≤ 281474976710656 := by rw [hy2]; omega
  go_enter Try.func75, Try.ntmps75
  go_wp2_with (at_make; refine wpList_make_full _ rfl _ _ 87 rfl w.heap.size 89 i0 (.slice none 0 0) 1 Try.underlying87 hi0 hz0 hz1 .i64 .i64 _ _ l.length rfl rfl rfl rfl hbytes (by unfold maxLen; omega) (Nat.le_refl _) ?_; intro w2 hown2 hgrow2)
  rw [made_nil] at hown2
  have hM0 : MatR w2 w.heap.size w.heap.size (fun _ => 0) l.length 0 (fun _ _ => false) := by
    obtain ⟨hlo, cs, h1, h2, h3⟩ := own_blk hown2
    exact ⟨⟨cs, h1, h2, fun i hi => absurd hi (Nat.not_lt_zero i)⟩, fun i hi => absurd hi (Nat.not_lt_zero i), fun i j hi => absurd hi (Nat.not_lt_zero i), Nat.le_refl _, fun i hi => absurd hi (Nat.not_lt_zero i)⟩
  have hb2 : Below w.heap.size w w2 := (Below.refl _ _).grown hgrow2 (Nat.le_refl _) (fun k hk => by cases hk)
  clear hown2 hgrow2 hbytes hi0 hz0 hz1 hz2
  obtain ⟨M, hMe⟩ : ∃ M : Nat, M = w.heap.size := ⟨_, rfl⟩
  have HMe := Lib.hid hMe
  go_loopw [15] (fun s wr => ∃ (i : Nat) (D : Nat → Nat) (b : Nat → Nat → Bool), i ≤ l.length ∧ s = .int .i64 i ∧ MatR wr w.heap.size w.heap.size D l.length i b ∧ Hid (Fill l i 0 b) ∧ Below w.heap.size w wr) (fun s _ => l.length - (intOf s).toNat)
  case atStart => exact ⟨0, _, _, by omega, rfl, hM0, Fill.start l, hb2⟩
  case round =>
    clear hM0 hb2
    obtain ⟨i, D, b, hi, rfl, hM, HF, hbel⟩ := hrel
    by_cases hil : i < l.length
    · have hsz := hbel.size
      have htl := hM.topLt
      go_wp2_with (at_make; refine wpList_make_full _ rfl _ _ 89 rfl w.heap.size 4 j0 (.bool false) 1 Try.underlying89 hj0 hy0 hy1 .i64 .i64 _ _ l.length rfl rfl rfl rfl hbytes2 (by unfold maxLen; omega) hbel.size ?_; intro w3 hown3 hgrow3; have hM3 := hM.below ((Below.refl wr.heap.size wr).grown hgrow3 (Nat.le_refl _) (fun k hk => by cases hk)) (Nat.le_refl _); obtain ⟨⟨v3, hv3⟩, hf3⟩ := hM3.topFree hil; have htl3 := hM3.topLt)
      have hM4 : ∃ D', MatR (w3.setCell ⟨w.heap.size, i, none⟩ (.slice (some ⟨wr.heap.size, 0, none⟩) l.length l.length)) w.heap.size w.heap.size D' l.length (i + 1) b := by
        obtain ⟨hlo, cs, h1, h2, h3⟩ := own_blk hown3
        refine ⟨_, hM3.lay hil h1 h2 (fun k hk => ?_) hsz (fun x hx => ?_)⟩
        · rw [h3 k hk, made_false, HF.out.rest i k (by omega)]
          simp [hk]
        · have := hM.rowLt hx
          omega
      have hb4 : Below w.heap.size w (w3.setCell ⟨w.heap.size, i, none⟩ (.slice (some ⟨wr.heap.size, 0, none⟩) l.length l.length)) := (hbel.grown hgrow3 hbel.size (fun k hk => by cases hk)).setCell (p := ⟨w.heap.size, i, none⟩) (Nat.le_refl _) _
      obtain ⟨D', hM4⟩ := hM4
      clear hown3 hgrow3 hM3 hv3 hf3 htl3 htl hM hbel
      generalize (w3.setCell ⟨w.heap.size, i, none⟩ (.slice (some ⟨wr.heap.size, 0, none⟩) l.length l.length)) = w4 at *
      go_loopw [26] (fun s wi => ∃ (k : Nat) (b : Nat → Nat → Bool), k ≤ l.length ∧ s = .int .i64 k ∧ MatR wi w.heap.size w.heap.size D' l.length (i + 1) b ∧ Hid (Fill l i k b) ∧ Below w.heap.size w wi) (fun s _ => l.length - (intOf s).toNat)
      case atStart => exact ⟨0, b, by omega, rfl, hM4, HF, hb4⟩
      case round =>
        clear hM4 hb4 HF
        obtain ⟨k, b, hk, rfl, hM, HF, hbel⟩ := hrel
        by_cases hkl : k < l.length
        · have HTk := HL.out.below hbel (Nat.le_refl _)
          obtain ⟨b0, off, rfl, hb0, hcell⟩ := HTk.cells hkl
          obtain ⟨t0, t1, t2, t3, t4⟩ := hcell k hkl
          have hni := (hcell i hil).1
          clear hcell
          have hbt := hbel.alloc hbel.size (.cells #[.string l[k].name, .int .i64 l[k].len, .int .i64 l[k].crew, .int .i64 l[k].pow, .slice l[k].ba l[k].bef.length l[k].bc] 41)
          have hsz := hbel.size
          have hni' := (World.cell?_alloc_lt wr (.cells #[.string l[k].name, .int .i64 l[k].len, .int .i64 l[k].crew, .int .i64 l[k].pow, .slice l[k].ba l[k].bef.length l[k].bc] 41) ⟨b0, off + i * 5, none⟩ (by simp; omega)).trans hni
          have hMt := hM.alloc (.cells #[.string l[k].name, .int .i64 l[k].len, .int .i64 l[k].crew, .int .i64 l[k].pow, .slice l[k].ba l[k].bef.length l[k].bc] 41)
          have y4 := World.cell?_alloc_new wr #[.string l[k].name, .int .i64 l[k].len, .int .i64 l[k].crew, .int .i64 l[k].pow, .slice l[k].ba l[k].bef.length l[k].bc] 41 4
          simp only [List.getElem?_toArray, List.getElem?_cons_succ, List.getElem?_cons_zero] at y4
          go_wp2_with fail
          have hcon := containsStr l[k].bv l[k].bef l[i].name w.heap.size (wr.alloc (.cells #[.string l[k].name, .int .i64 l[k].len, .int .i64 l[k].crew, .int .i64 l[k].pow, .slice l[k].ba l[k].bef.length l[k].bc] 41)).drew ((HL.out.below hbt.drew (Nat.le_refl _)).bef hkl)
          have hcall : Calls Try.prog 48 #[.slice l[k].ba l[k].bef.length l[k].bc, .string l[i].name] (wr.alloc (.cells #[.string l[k].name, .int .i64 l[k].len, .int .i64 l[k].crew, .int .i64 l[k].pow, .slice l[k].ba l[k].bef.length l[k].bc] 41)).drew fun e w' => e = .returned (.bool (decide (l[i].name ∈ l[k].bef))) ∧ w' = (wr.alloc (.cells #[.string l[k].name, .int .i64 l[k].len, .int .i64 l[k].crew, .int .i64 l[k].pow, .slice l[k].ba l[k].bef.length l[k].bc] 41)).drew := hcon.mono fun e w' h => ⟨h.1, h.2.symm⟩
          have hF1 := Lib.hid (HF.out.step (v := decide (l[i].name ∈ l[k].bef)) (by simp only [decide_eq_true_eq]; exact ⟨fun h => ⟨hil, hkl, h⟩, fun h => h.2.2⟩))
          have hMf : Hid (∀ x, MatR ((wr.alloc (.cells #[.string l[k].name, .int .i64 l[k].len, .int .i64 l[k].crew, .int .i64 l[k].pow, .slice l[k].ba l[k].bef.length l[k].bc] 41)).drew.setCell ⟨D' i, k, none⟩ (.bool x)) w.heap.size w.heap.size D' l.length (i + 1) (setB b i k x)) := fun x => (hMt.drewN 1).set_ (by omega) hkl x
          have hbf : Hid (∀ x, Below w.heap.size w ((wr.alloc (.cells #[.string l[k].name, .int .i64 l[k].len, .int .i64 l[k].crew, .int .i64 l[k].pow, .slice l[k].ba l[k].bef.length l[k].bc] 41)).drew.setCell ⟨D' i, k, none⟩ (.bool x))) := fun x => hbt.drew.setCell (p := ⟨D' i, k, none⟩) (hM.los i (by omega)) _
          have c0 := hMt.topCell (show i < i + 1 by omega)
          have c1 := hMt.cell (show i < i + 1 by omega) hkl
          have c2 := hMt.frozen (show i < i + 1 by omega) k
          generalize decide (l[i].name ∈ l[k].bef) = dv at *
          clear hcon hM HTk t0 t1 t2 t3 t4 hni hbt hMt
          generalize wr.alloc (.cells #[.string l[k].name, .int .i64 l[k].len, .int .i64 l[k].crew, .int .i64 l[k].pow, .slice l[k].ba l[k].bef.length l[k].bc] 41) = wt at *
          generalize wr.heap.size = gt at *
          generalize b i k = bik at c1
          have i1 : (0 : Int) ≤ (i : Int) := Int.natCast_nonneg _
          have i2 : (i : Int) < (l.length : Int) := by omega
          have i3 : (0 : Int) ≤ (k : Int) := Int.natCast_nonneg _
          have i4 : (k : Int) < (l.length : Int) := by omega
          refine wp_region_tail 14 (by kernel_rfl) (by kernel_rfl) ?_
          simp only [List.take_succ_cons, List.take_zero, List.drop_succ_cons, List.drop_zero]
          repeat (first | go_big_quiet_skip | (go_big_quiet_want; go_big_quiet_op; first | go_big_quiet_on | (apply Exists.intro; refine ⟨?_, ?_⟩; (go_at_call 48; exact hcall); go_big_quiet_on)))
          refine wpQuiet_nil ?_
          go_wp2
          go_roundw
          case rel => exact ⟨k + 1, _, by omega, by go_num, hMf.out dv, hF1, hbf.out dv⟩
          case measure => simp [intOf]; omega
        · have hke : k = l.length := by omega
          subst hke
          have HF' := Lib.hid HF.out.row'
          go_wp2_with fail
          go_roundw
          case rel => exact ⟨i + 1, D', b, by omega, by go_num, hM, HF', hbel⟩
          case measure => simp [intOf]; omega
    · have hie : i = l.length := by omega
      subst hie
      have HS := Lib.hid HF.out.stage
      go_wp2_with fail
      clear HF
      go_loopw [49] (fun s wr => ∃ (m : Nat) (b : Nat → Nat → Bool), m ≤ l.length ∧ s = .int .i64 m ∧ MatR wr w.heap.size w.heap.size D l.length l.length b ∧ Hid (Stage l m 0 0 b) ∧ Below w.heap.size w wr) (fun s _ => l.length - (intOf s).toNat)
      case atStart => exact ⟨0, b, by omega, rfl, hM, HS, hbel⟩
      case round =>
        clear hM HS hbel
        obtain ⟨m, b, hm, rfl, hM, HS, hbel⟩ := hrel
        by_cases hml : m < l.length
        · go_wp2_with fail
          go_loopw [54] (fun s wr => ∃ (i : Nat) (b : Nat → Nat → Bool), i ≤ l.length ∧ s = .int .i64 i ∧ MatR wr w.heap.size w.heap.size D l.length l.length b ∧ Hid (Stage l m i 0 b) ∧ Below w.heap.size w wr) (fun s _ => l.length - (intOf s).toNat)
          case atStart => exact ⟨0, b, by omega, rfl, hM, HS, hbel⟩
          case round =>
            clear hM HS hbel
            obtain ⟨i, b, hi, rfl, hM, HS, hbel⟩ := hrel
            by_cases hil : i < l.length
            · go_wp2_with fail
              go_loopw [59] (fun s wr => ∃ (k : Nat) (b : Nat → Nat → Bool), k ≤ l.length ∧ s = .int .i64 k ∧ MatR wr w.heap.size w.heap.size D l.length l.length b ∧ Hid (Stage l m i k b) ∧ Below w.heap.size w wr) (fun s _ => l.length - (intOf s).toNat)
              case atStart => exact ⟨0, b, by omega, rfl, hM, HS, hbel⟩
              case round =>
                clear hM HS hbel
                obtain ⟨k, b, hk, rfl, hM, HS, hbel⟩ := hrel
                by_cases hkl : k < l.length
                · have hS1 := Lib.hid (HS.out.step hml hil hkl)
                  have hMf : Hid (∀ x, MatR (wr.drew.setCell ⟨D i, k, none⟩ (.bool x)) w.heap.size w.heap.size D l.length l.length (setB b i k x)) := fun x => (hM.drewN 1).set_ hil hkl x
                  have hbf : Hid (∀ x, Below w.heap.size w (wr.drew.setCell ⟨D i, k, none⟩ (.bool x))) := fun x => hbel.drew.setCell (p := ⟨D i, k, none⟩) (hM.los i hil) _
                  have c0 := hM.topCell hil
                  have c1 := hM.topCell hml
                  have c2 := hM.cell hil hkl
                  have c3 := hM.cell hil hml
                  have c4 := hM.cell hml hkl
                  have c5 := hM.frozen hil k
                  have i1 : (0 : Int) ≤ (i : Int) := Int.natCast_nonneg _
                  have i2 : (i : Int) < (l.length : Int) := by omega
                  have i3 : (0 : Int) ≤ (k : Int) := Int.natCast_nonneg _
                  have i4 : (k : Int) < (l.length : Int) := by omega
                  have i5 : (0 : Int) ≤ (m : Int) := Int.natCast_nonneg _
                  have i6 : (m : Int) < (l.length : Int) := by omega
                  clear hM hbel HS
                  cases e1 : b i k with
                  | true =>
                    rw [e1] at hS1 c2
                    simp only [Bool.true_or] at hS1
                    clear e1
                    generalize D i = di at *
                    generalize D m = dm at *
                    go_wp2_with fail
                    refine wp_region_tail 31 (by kernel_rfl) (by kernel_rfl) ?_
                    simp only [List.take_succ_cons, List.take_zero, List.drop_succ_cons, List.drop_zero]
                    repeat (go_big_quiet_step (fail))
                    refine wpQuiet_nil ?_
                    go_wp2
                    go_roundw
                    case rel => exact ⟨k + 1, _, by omega, by go_num, hMf.out true, hS1, hbf.out true⟩
                    case measure => simp [intOf]; omega
                  | false =>
                    rw [e1] at hS1 c2
                    simp only [Bool.false_or] at hS1
                    clear e1
                    cases e2 : b i m with
                    | false =>
                      rw [e2] at hS1 c3
                      simp only [Bool.false_and] at hS1
                      clear e2
                      generalize D i = di at *
                      generalize D m = dm at *
                      go_wp2_with fail
                      refine wp_region_tail 31 (by kernel_rfl) (by kernel_rfl) ?_
                      simp only [List.take_succ_cons, List.take_zero, List.drop_succ_cons, List.drop_zero]
                      repeat (go_big_quiet_step (fail))
                      refine wpQuiet_nil ?_
                      go_wp2
                      go_roundw
                      case rel => exact ⟨k + 1, _, by omega, by go_num, hMf.out false, hS1, hbf.out false⟩
                      case measure => simp [intOf]; omega
                    | true =>
                      rw [e2] at hS1 c3
                      simp only [Bool.true_and] at hS1
                      clear e2
                      generalize b m k = bmk at *
                      generalize D i = di at *
                      generalize D m = dm at *
                      go_wp2_with fail
                      refine wp_region_tail 31 (by kernel_rfl) (by kernel_rfl) ?_
                      simp only [List.take_succ_cons, List.take_zero, List.drop_succ_cons, List.drop_zero]
                      repeat (go_big_quiet_step (fail))
                      refine wpQuiet_nil ?_
                      go_wp2
                      go_roundw
                      case rel => exact ⟨k + 1, _, by omega, by go_num, hMf.out bmk, hS1, hbf.out bmk⟩
                      case measure => simp [intOf]; omega
                · have hke : k = l.length := by omega
                  subst hke
                  have HS' := Lib.hid HS.out.row
                  go_wp2_with fail
                  go_roundw
                  case rel => exact ⟨i + 1, b, by omega, by go_num, hM, HS', hbel⟩
                  case measure => simp [intOf]; omega
            · have hie : i = l.length := by omega
              subst hie
              have HS' := Lib.hid HS.out.up
              go_wp2_with fail
              go_roundw
              case rel => exact ⟨m + 1, b, by omega, by go_num, hM, HS', hbel⟩
              case measure => simp [intOf]; omega
        · have hme : m = l.length := by omega
          subst hme
          go_wp2_with fail
          go_ret
          exact ⟨hbel, _, D, b, rfl, hM, HS.out⟩

end Go.Proofs.Ytcjejcbikgcnbaa
