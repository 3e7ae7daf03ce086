/- For every input the law returns true, and its arguments read as they did: GoneP, GoneW, RefGone, LawWithout, RowWithout. -/
import Derived.Test.YtfcfphamecbcgaaG1
import Derived.Test.YtfcfphamecbcgaaG16
import Derived.Test.YtfcfphamecbcgaaG17
import Derived.Test.YtfcfphamecbcgaaG18
import Derived.Test.YtfcfphamecbcgaaG19
import Derived.Test.YtfcfphamecbcgaaG7

/- Tasks without some: what is meant; the set of names in memory; the reference's index. -/
namespace Go.Proofs.Ytfcfphamecbcgaa
open Go.RowKit Go.Shelf Go.WideMaps Go.Maps

/-- The first error among the first names. -/
noncomputable def goneTo (l : List Task) (L : List ByteArray) : Nat → Int
  | 0 => 0
  | k + 1 => if goneTo l L k = 0 then (if pl l (L.getD k default) < 0 then 9 else if L.getD k default ∈ L.take k then 10 else 0) else goneTo l L k
/-- The error's number. -/
noncomputable def withoutE (l : List Task) (L : List ByteArray) : Int := if rightR l = true then goneTo l L L.length else 1
/-- A task that no longer waits for these. -/
def wTask (L : List ByteArray) (t : Task) : Task := ⟨t.name, t.len, t.crew, t.pow, none, 0, t.bef.filter fun x => !decide (x ∈ L)⟩
def withoutN (l : List Task) (L : List ByteArray) : List Task := (l.filter fun t => !decide (t.name ∈ L)).map (wTask L)
/-- What Without gives. -/
def WithoutPost (l : List Task) (L : List ByteArray) (w : World) (e : Ending) (w' : World) : Prop :=
  Below w.heap.size w w' ∧ ((withoutE l L ≠ 0 ∧ e = .returned (.tuple #[.slice none 0 0, .int .i64 (withoutE l L)])) ∨
    (withoutE l L = 0 ∧ ∃ ov ms, e = .returned (.tuple #[ov, .int .i64 0]) ∧ TasksAt w' w'.heap.size ov ms ∧ norms ms = withoutN l L))
theorem goneTo_stays {l : List Task} {L : List ByteArray} {k : Nat} (h : goneTo l L k ≠ 0) : ∀ m, k ≤ m → goneTo l L m = goneTo l L k
  | 0, hk => by rw [show k = 0 by omega]
  | m + 1, hk => by
    by_cases e : k = m + 1
    · rw [e]
    · have ih := goneTo_stays (k := k) h m (by omega)
      rw [goneTo, ih, if_neg h]
theorem goneTo_bad {l : List Task} {L : List ByteArray} {k : Nat} (hk : k < L.length) (h : goneTo l L k = 0) (hp : pl l L[k] < 0) : goneTo l L L.length = 9 := by
  have hg : L.getD k default = L[k] := by rw [List.getD_eq_getElem?_getD, List.getElem?_eq_getElem hk]; rfl
  have h1 : goneTo l L (k + 1) = 9 := by rw [goneTo, if_pos h, hg, if_pos hp]
  rw [goneTo_stays (k := k + 1) (by rw [h1]; decide) _ (by omega), h1]
theorem goneTo_twice {l : List Task} {L : List ByteArray} {k : Nat} (hk : k < L.length) (h : goneTo l L k = 0) (hp : ¬ pl l L[k] < 0) (ht : L[k] ∈ L.take k) : goneTo l L L.length = 10 := by
  have hg : L.getD k default = L[k] := by rw [List.getD_eq_getElem?_getD, List.getElem?_eq_getElem hk]; rfl
  have h1 : goneTo l L (k + 1) = 10 := by rw [goneTo, if_pos h, hg, if_neg hp, if_pos ht]
  rw [goneTo_stays (k := k + 1) (by rw [h1]; decide) _ (by omega), h1]
theorem goneTo_ok {l : List Task} {L : List ByteArray} {k : Nat} (hk : k < L.length) (h : goneTo l L k = 0) (hp : ¬ pl l L[k] < 0) (ht : L[k] ∉ L.take k) : goneTo l L (k + 1) = 0 := by
  have hg : L.getD k default = L[k] := by rw [List.getD_eq_getElem?_getD, List.getElem?_eq_getElem hk]; rfl
  rw [goneTo, if_pos h, hg, if_neg hp, if_neg ht]

/-- The datum of the set of the first j names. -/
structure GoneD (L : List ByteArray) (j : Nat) (D : DataW Unit) : Prop where
  has : ∀ s, Maps.has D (keyS s) = decide (s ∈ L.take j)
def GoneMap (w : World) (b : Nat) (L : List ByteArray) (j : Nat) : Prop := ∃ D, w.ownsMap Try.prog 9 (unitElem (H := Unit)) b j D ∧ GoneD L j D
theorem GoneD.start (L : List ByteArray) : GoneD L 0 (.map []) := ⟨fun s => by simp [Maps.has]⟩
theorem GoneD.step {L : List ByteArray} {j : Nat} {D : DataW Unit} (h : GoneD L j D) (hj : j < L.length) (hm : IsMap D) : GoneD L (j + 1) (D.put (keyS L[j]) (.agg [])) := by
  refine ⟨fun s => ?_⟩
  rw [take_snoc L j hj]
  by_cases e : s = L[j]
  · subst e
    rw [Maps.has_put_same hm (keyS_key _)]
    exact (decide_eq_true (List.mem_append_right _ (List.mem_singleton.2 rfl))).symm
  · rw [Maps.has_put_other (fun e' => e (keyS_inj e')), h.has]
    exact decide_eq_decide.2 ⟨fun h => List.mem_append_left _ h, fun h => (List.mem_append.1 h).resolve_right fun h => e (List.mem_singleton.1 h)⟩
theorem zeroUnit (w : World) : (zeroValue 86).run Try.prog w = .ok (.agg #[]) w := by kernel_rfl
theorem GoneMap.kept {w w' : World} {b : Nat} {L : List ByteArray} {j : Nat} (h : GoneMap w b L j) {row : Option Nat} (hg : w.grownBy w' row) (hne : some b ≠ row) : GoneMap w' b L j := by
  obtain ⟨D, hown, hD⟩ := h
  exact ⟨D, hown.kept hg hne, hD⟩
theorem GoneMap.lt {w : World} {b : Nat} {L : List ByteArray} {j : Nat} (h : GoneMap w b L j) : b < w.heap.size := by
  obtain ⟨D, hown, -⟩ := h
  exact hown.lt
theorem GoneMap.below {w w' : World} {b : Nat} {L : List ByteArray} {j : Nat} (h : GoneMap w b L j) (hb : Below w.heap.size w w') : GoneMap w' b L j := h.kept (grown_below (row := none) hb) (by simp)

theorem entersGone : ∀ args w, (callFunc 60 args).run Try.prog w = .ok (.enter 60 args) w := enters_of Try.func60 (by kernel_rfl) rfl
set_option maxHeartbeats 1000000 in
theorem goneClosure (x : ByteArray) (b P : Nat) (L : List ByteArray) (w : World) (hx : x.size ≤ maxLen) (hm : GoneMap w b L L.length) (hP : w.cell? ⟨P, 0, none⟩ = some (.map (some b))) :
    Calls Try.prog 60 #[.string x, .pointer (some ⟨P, 0, none⟩)] w fun e w' => e = .returned (.bool (decide (x ∈ L))) ∧ Below w.heap.size w w' := by
  obtain ⟨D, hown, hD⟩ := hm
  have hh := hD.has x
  rw [List.take_length] at hh
  have hkey := keyOf_s hx
  have HH := Lib.hid hh
  clear hh hD
  go_enter Try.func60, Try.ntmps60
  go_wp2_with (at_lookup; refine wpList_lookup_own_unit _ rfl _ _ 85 rfl 9 86 keyLaw Try.underlying85 (zeroUnit _) b L.length D rfl hown _ _ rfl hkey ?_)
  go_ret
  exact ⟨by rw [HH.out]; rfl, (Below.refl _ _).alloc (Nat.le_refl _) _⟩

set_option maxHeartbeats 1000000 in
theorem refIndex (v : Value) (L : List ByteArray) (s : ByteArray) (w : World) (B : Nat) (hl : StrsAt w B v L) :
    Calls Try.prog 62 #[v, .string s] w fun e w' => e = .returned (.int .i64 (idxOf (L.findIdx? fun t => decide (t = s)))) ∧ w = w' := by
  obtain ⟨A, c, rfl, hc1, hc2, hcell⟩ := hl.open_
  unfold maxLen at hc2
  go_enter Try.func62, Try.ntmps62
  go_wp2
  go_loopw [5] (fun x wr => ∃ j : Nat, j ≤ L.length ∧ x = .int .i64 j ∧ ((L.take j).findIdx? fun t => decide (t = s)) = none ∧ w = wr) (fun x _ => L.length - (intOf x).toNat)
  case atStart => exact ⟨0, Nat.zero_le _, rfl, by simp, rfl⟩
  case round =>
    obtain ⟨j, hj, rfl, hnm, rfl⟩ := hrel
    have Hnm := Lib.hid hnm
    clear hnm
    by_cases hlt : j < L.length
    · obtain ⟨b, off, rfl, hb, hcell⟩ := hcell j hlt
      have h0 := hcell j hlt
      clear hcell
      by_cases hq : L[j] = s
      · have ht : (L[j].toList == s.toList) = true := by rw [str_beq]; simpa using hq
        go_wp2
        go_ret
        exact ⟨by rw [find_hit Hnm.out hlt (by simpa using hq)]; rfl, rfl⟩
      · have ht : (L[j].toList == s.toList) = false := by rw [str_beq]; simpa using hq
        go_wp2
        go_roundw
        case rel => exact ⟨j + 1, by omega, by go_num, find_miss Hnm.out hlt (by simpa using hq), by trivial⟩
        case measure => simp [intOf]; omega
    · have hje : j = L.length := by omega
      subst hje
      go_wp2
      go_ret
      exact ⟨by rw [← List.take_length (l := L), Hnm.out]; rfl, rfl⟩

end Go.Proofs.Ytfcfphamecbcgaa

/- replan.Without. -/
namespace Go.Proofs.Ytfcfphamecbcgaa
open Go.RowKit Go.Shelf Go.WideMaps Go.Maps

/-- The tasks so far. -/
structure WoSt (W w : World) (l : List Task) (L : List ByteArray) (mb P : Nat) (k : Nat) (ov : Value) (ms : List Task) : Prop where
  out : w.ownsRow W.heap.size 38 5 ov ms.length (ms.flatMap Task.cells)
  strs : ∀ t ∈ ms, w.ownsRow W.heap.size 9 1 t.bv t.bef.length (t.bef.map Value.string)
  ok : ∀ t ∈ ms, t.ok
  norm : norms ms = ((l.take k).filter fun t => !decide (t.name ∈ L)).map (wTask L)
  map : GoneMap w mb L L.length
  P0 : Blk w P 85 #[.map (some mb)]
  mlt : mb < W.heap.size
  bel : Below W.heap.size W w
section
variable {W w w' : World} {l : List Task} {L : List ByteArray} {mb P k : Nat} {ov nv : Value} {ms : List Task} {t : Task}
theorem WoSt.below (h : WoSt W w l L mb P k ov ms) (hb : Below w.heap.size w w') : WoSt W w' l L mb P k ov ms :=
  ⟨own_past h.out hb, fun t ht => own_past (h.strs t ht) hb, h.ok, h.norm, h.map.below hb, h.P0.below hb h.P0.lt, h.mlt, h.bel.trans (hb.mono h.bel.size)⟩
theorem WoSt.short (h : WoSt W w l L mb P k ov ms) : ms.length ≤ l.length := by
  have h1 := norms_len ms
  rw [h.norm, List.length_map] at h1
  have h2 := List.length_filter_le (fun t => !decide (t.name ∈ L)) (l.take k)
  rw [List.length_take] at h2
  omega
theorem without_snoc (hk : k < l.length) : ((l.take (k + 1)).filter fun t => !decide (t.name ∈ L)).map (wTask L) = ((l.take k).filter fun t => !decide (t.name ∈ L)).map (wTask L) ++ if (!decide (l[k].name ∈ L)) = true then [wTask L l[k]] else [] := by
  rw [filter_snoc hk, List.map_append]
  congr 1
  split <;> rfl
theorem WoSt.skip (h : WoSt W w l L mb P k ov ms) (hk : k < l.length) (hl : decide (l[k].name ∈ L) = true) : WoSt W w l L mb P (k + 1) ov ms :=
  ⟨h.out, h.strs, h.ok, by rw [without_snoc hk, hl, h.norm]; simp, h.map, h.P0, h.mlt, h.bel⟩
theorem WoSt.push (h : WoSt W w l L mb P k ov ms) (hk : k < l.length) (hl : decide (l[k].name ∈ L) = false) (hgrow : w.grownBy w' ov.ownBlock) (ho : w'.ownsRow W.heap.size 38 5 nv (ms.length + 1) ((ms ++ [t]).flatMap Task.cells))
    (hs : w.ownsRow W.heap.size 9 1 t.bv t.bef.length (t.bef.map Value.string)) (hok : t.ok) (hn : t.norm = wTask L l[k]) : WoSt W w' l L mb P (k + 1) nv (ms ++ [t]) := by
  have hgr : Below W.heap.size W w' := h.bel.grown hgrow h.bel.size (fun k hk => (h.out.lt k hk).1)
  have hkp : ∀ {e : TypeId} {n : Nat} {x : Value} {xs : List Value}, e ≠ 38 → w.ownsRow W.heap.size e 1 x n xs → w'.ownsRow W.heap.size e 1 x n xs := fun he hx => hx.kept hgrow (own_ne hx h.out he)
  refine ⟨by rw [List.length_append, List.length_singleton]; exact ho, fun t' ht' => ?_, fun t' ht' => ?_, ?_, h.map.kept hgrow (fun e => ?_), h.P0.kept hgrow (h.P0.ne_own h.out (by decide)), h.mlt, hgr⟩
  · rcases List.mem_append.1 ht' with ht' | ht'
    · exact hkp (by decide) (h.strs t' ht')
    · rw [List.mem_singleton.1 ht']; exact hkp (by decide) hs
  · rcases List.mem_append.1 ht' with ht' | ht'
    · exact h.ok t' ht'
    · rw [List.mem_singleton.1 ht']; exact hok
  · rw [without_snoc hk, hl, if_pos (show (!false) = true from rfl), ← h.norm]
    unfold norms
    rw [List.map_append, List.map_singleton, hn]
  · have h1 := (h.out.lt mb e.symm).1
    have h2 := h.mlt
    omega
theorem WoSt.tasks (h : WoSt W w l L mb P k ov ms) : TasksAt w w.heap.size ov ms :=
  TasksAt.of_own h.out (fun t ht => RowAt.of_own (h.strs t ht)) (Nat.le_refl _) h.ok
end

/-- Whether a name is among these. -/
def goneL (L : List ByteArray) (x : ByteArray) : Bool := decide (x ∈ L)
set_option maxRecDepth 100000 in
set_option maxHeartbeats 8000000 in
theorem rpWithoutTop (v u : Value) (l : List Task) (L : List ByteArray) (w : World) (hl : TasksAt w w.heap.size v l) (hs : StrsAt w w.heap.size u L) (hz : ∀ x ∈ L, x.size ≤ maxLen) :
    Calls Try.prog 24 #[v, u] w (WithoutPost l L w) := by
  have hV := schedValid v l 0 0 w hl
  have HT : Hid (∀ w1, Below w.heap.size w w1 → TasksAt w1 w1.heap.size v l) := fun w1 hb => (hl.below hb (Nat.le_refl _)).mono hb.size
  have HTw : Hid (∀ w1, Below w.heap.size w w1 → TasksAt w1 w.heap.size v l) := fun w1 hb => hl.below hb (Nat.le_refl _)
  have HOk : Hid (∀ k (_ : k < l.length), l[k].ok) := fun k hk => hl.ok hk
  have HZ := Lib.hid hz
  have HFind : Hid (∀ x w1, Below w.heap.size w w1 → Calls Try.prog 47 #[v, .string x] w1 fun e w'' => e = .returned (.int .i64 (pl l x)) ∧ Below w1.heap.size w1 w'') := fun x w1 hb => rpFind v l x w1 (HT.out w1 hb)
  obtain ⟨A, cc, rfl, hA1, hA2, -⟩ := hl.open_
  obtain ⟨A1, c1, rfl, hB1, hB2, hBc⟩ := hs.open_
  have HC : Hid (∀ k (hk : k < L.length), ∃ b1 off1, A1 = some ⟨b1, off1, none⟩ ∧ ∀ w', Below w.heap.size w w' → w'.cell? ⟨b1, off1 + k, none⟩ = some (.string L[k])) := fun k hk => by
    obtain ⟨b1, off1, e, hb, hc⟩ := hBc k hk
    exact ⟨b1, off1, e, fun w' hb' => (hb'.cell (p := ⟨b1, off1 + k, none⟩) hb).trans (hc k hk)⟩
  have hB3 := hB2
  unfold maxLen at hA2 hB3
  have hv0 : validB l 0 0 = rightR l := by unfold validB betweenB; cases rightR l <;> rfl
  rw [hv0] at hV
  clear hl hs hz hBc hv0
  have hmm := @run_makeMap Try.prog
  go_enter Try.func24, Try.ntmps24
  go_wp2_with fail
  refine hV.mono ?_
  rintro e w1 ⟨rfl, hb1⟩
  clear hV
  cases hr : rightR l with
  | false =>
    have HE : Hid (withoutE l L = 1) := by unfold Hid withoutE; rw [hr, if_neg (by simp)]
    clear hr
    go_wp2_with fail
    refine bodyPost_ret (results_tmp2 rfl _ _ _) (by rfl) ?_
    exact ⟨hb1, .inl ⟨by rw [HE.out]; decide, by rw [HE.out]; rfl⟩⟩
  | true =>
    have hR : RightT l := (right_iff l).1 hr
    have h8 := hR.len
    have HR := Lib.hid hR
    have HE : Hid (withoutE l L = goneTo l L L.length) := by unfold Hid withoutE; rw [hr, if_pos rfl]
    clear hr hR
    go_wp2_with fail
    have Hbm : Below w.heap.size w ((w1.alloc (.map #[] 0)).alloc (.cells #[.map (some w1.heap.size)] 85)) := (hb1.alloc hb1.size _).alloc (by have := hb1.size; simp; omega) _
    have HM0 : Hid (GoneMap ((w1.alloc (.map #[] 0)).alloc (.cells #[.map (some w1.heap.size)] 85)) w1.heap.size L 0) := ⟨_, (World.ownsMap_made w1 _ _ _).alloc _, GoneD.start L⟩
    have HP0 : Hid (Blk ((w1.alloc (.map #[] 0)).alloc (.cells #[.map (some w1.heap.size)] 85)) (w1.heap.size + 1) 85 #[.map (some w1.heap.size)]) := by
      have := Blk.new (w1.alloc (.map #[] 0)) 85 #[.map (some w1.heap.size)]
      unfold Hid
      simpa using this
    have hm0 : w.heap.size ≤ w1.heap.size := hb1.size
    generalize (w1.alloc (.map #[] 0)).alloc (.cells #[.map (some w1.heap.size)] 85) = w2 at *
    clear hb1
    generalize w1.heap.size = mb at *
    go_loopw [21] (fun ix wr => ∃ k : Nat, k ≤ L.length ∧ ix = .int .i64 k ∧ Hid (goneTo l L k = 0) ∧ Hid (GoneMap wr mb L k) ∧ Hid (Blk wr (mb + 1) 85 #[.map (some mb)]) ∧ Below w.heap.size w wr) (fun ix _ => L.length - (intOf ix).toNat)
    case atStart => exact ⟨0, Nat.zero_le _, rfl, rfl, HM0, HP0, Hbm⟩
    case round =>
      clear HM0 HP0 Hbm
      obtain ⟨k, hk, rfl, HG, HM, HP, hbel⟩ := hrel
      by_cases hkl : k < L.length
      · obtain ⟨b1, off1, rfl, hsc⟩ := HC.out k hkl
        have h0 := hsc wr hbel
        have p0 := HP.out.cell 0
        simp only [List.getElem?_toArray, List.getElem?_cons_zero] at p0
        obtain ⟨D, hown, hD⟩ := HM.out
        have hkey := keyOf_s (HZ.out _ (List.getElem_mem hkl))
        have HH := Lib.hid (hD.has L[k])
        have HSt := Lib.hid (hD.step hkl hown.isMap)
        have hF := HFind.out L[k]
        have HBad := Lib.hid (goneTo_bad (l := l) hkl HG.out)
        have HTwi := Lib.hid (goneTo_twice (l := l) hkl HG.out)
        have HGo := Lib.hid (goneTo_ok (l := l) hkl HG.out)
        have i1 : (0 : Int) ≤ (k : Int) := Int.natCast_nonneg _
        have i2 : (k : Int) < (L.length : Int) := by omega
        have hba : Below w.heap.size w (wr.alloc (.cells #[] 86)) := hbel.alloc hbel.size _
        clear hsc hD
        generalize hx : pl l L[k] = x at *
        clear hx
        go_wp2_with (at_lookup; refine wpList_lookup_own_unit _ rfl _ _ 85 rfl 9 86 keyLaw Try.underlying85 (zeroUnit _) mb k D rfl hown _ _ rfl hkey ?_)
        refine (hF _ hba).mono ?_
        rintro e w4 ⟨rfl, hb4⟩
        have hbx4 := hba.trans (hb4.mono hba.size)
        have HK4 : Below wr.heap.size wr w4 := ((Below.refl _ _).alloc (Nat.le_refl _) _).trans (hb4.mono (by simp))
        have hown4 := hown.kept (grown_below (row := none) HK4) (by simp)
        have HP4 := Lib.hid (HP.out.below HK4 HP.out.lt)
        have p4 := HP4.out.cell 0
        simp only [List.getElem?_toArray, List.getElem?_cons_zero] at p4
        clear hF hba hb4 HK4 hown p0 h0 HP HM hbel
        generalize Maps.has D (keyS L[k]) = q at *
        by_cases hxn : x < 0
        · have hd : decide (x < 0) = true := decide_eq_true hxn
          have HE' : Hid (withoutE l L = 9) := by unfold Hid; rw [HE.out]; exact HBad.out hxn
          clear hxn HE
          go_wp2_with fail
          refine bodyPost_ret (results_tmp2 rfl _ _ _) (by rfl) ?_
          exact ⟨hbx4, .inl ⟨by rw [HE'.out]; decide, by rw [HE'.out]; rfl⟩⟩
        · have hd : decide (x < 0) = false := decide_eq_false hxn
          cases q with
          | true =>
            have HE' : Hid (withoutE l L = 10) := by unfold Hid; rw [HE.out]; exact HTwi.out (by omega) (of_decide_eq_true HH.out.symm)
            clear hxn HE
            go_wp2_with fail
            refine bodyPost_ret (results_tmp2 rfl _ _ _) (by rfl) ?_
            exact ⟨hbx4, .inl ⟨by rw [HE'.out]; decide, by rw [HE'.out]; rfl⟩⟩
          | false =>
            have HG' := Lib.hid (HGo.out (by omega) (of_decide_eq_false HH.out.symm))
            clear hxn HG HBad HTwi HGo
            go_wp2_with (at_mapUpdate; refine wpList_mapUpdate_own _ rfl _ _ _ 85 rfl 9 86 keyLaw Try.underlying85 _ mb k _ rfl hown4 (by unfold maxLen; omega) _ _ _ rfl rfl hkey (.agg []) [] unitElem_mk ?_; intro w5 hown5 hgrow5)
            have HP5 := Lib.hid (HP4.out.kept hgrow5 (by simp))
            have hb5 := hbx4.grown hgrow5 hbx4.size (fun k hk => by cases hk; exact hm0)
            have HM5 : Hid (GoneMap w5 mb L (k + 1)) := ⟨_, hown5, HSt.out⟩
            clear hown5 hgrow5 hown4
            go_wp2_with fail
            go_roundw
            case rel => exact ⟨k + 1, by omega, by go_num, HG', HM5, HP5, hb5⟩
            case measure => simp [intOf]; omega
      · obtain rfl : k = L.length := by omega
        have HE2 : Hid (withoutE l L = 0) := by unfold Hid; rw [HE.out]; exact HG.out
        have hsz := hbel.size
        have HS0 : Hid (WoSt wr wr l L mb (mb + 1) 0 (.slice none 0 0) []) := ⟨World.ownsRow_nil _ _ _ _, by simp, by simp, rfl, HM.out, HP.out, HM.out.lt, Below.refl _ _⟩
        clear HG HM HP HE hkl hk
        go_wp2_with fail
        obtain ⟨w3, rfl⟩ : ∃ w3, w3 = wr := ⟨wr, rfl⟩
        go_loopw [45, 12] (fun ix ov wr => ∃ (k : Nat) (ms : List Task) (o2 : Value), k ≤ l.length ∧ ix = .int .i64 k ∧ o2 = ov ∧ Hid (WoSt w3 wr l L mb (mb + 1) k o2 ms)) (fun ix _ _ => l.length - (intOf ix).toNat)
        case atStart => exact ⟨0, [], _, Nat.zero_le _, rfl, rfl, HS0⟩
        case round =>
          clear HS0
          obtain ⟨k, ms, o2, hk, rfl, rfl, HSS⟩ := hrel
          have k1 : (0 : Int) ≤ (k : Int) := Int.natCast_nonneg _
          by_cases hkl : k < l.length
          · have hbw := hbel.trans (HSS.out.bel.mono hsz)
            have hTr := HTw.out _ hbw
            obtain ⟨b0, off0, rfl, hb0, hct⟩ := hTr.cells hkl
            obtain ⟨t0, t1, t2, t3, t4⟩ := hct k hkl
            obtain ⟨hm1, hm2, -⟩ := hTr.open_bef hkl
            unfold maxLen at hm2
            have hb8 : l[k].bef.length ≤ 1000 := by
              have := (((befOK_iff l).1 HR.out.bef _ (List.getElem_mem hkl))).le
              omega
            have HStr : Hid (∀ w', Below w.heap.size w w' → StrsAt w' w'.heap.size l[k].bv l[k].bef) := fun w' hb => (HT.out w' hb).bef hkl
            have hokk := HOk.out k hkl
            have i2 : (k : Int) < (l.length : Int) := by omega
            have hbG : Below wr.heap.size wr (wr.alloc (.cells #[.string l[k].name, .int .i64 l[k].len, .int .i64 l[k].crew, .int .i64 l[k].pow, .slice l[k].ba l[k].bef.length l[k].bc] 38)) := (Below.refl _ _).alloc (Nat.le_refl _) _
            have HG := Lib.hid (Blk.new wr 38 #[.string l[k].name, .int .i64 l[k].len, .int .i64 l[k].crew, .int .i64 l[k].pow, .slice l[k].ba l[k].bef.length l[k].bc])
            have HKeep : Hid (∀ w', Below wr.heap.size wr w' → WoSt w3 w' l L mb (mb + 1) k o2 ms) := fun w' hb => HSS.out.below hb
            have HCl : Hid (∀ x w', x.size ≤ maxLen → Below wr.heap.size wr w' → Calls Try.prog 60 #[.string x, .pointer (some ⟨mb + 1, 0, none⟩)] w' fun e w'' => e = .returned (.bool (goneL L x)) ∧ Below w'.heap.size w' w'') := fun x w' hx hb => by
              have hK := HKeep.out w' hb
              have p0 := hK.P0.cell 0
              simp only [List.getElem?_toArray, List.getElem?_cons_zero] at p0
              exact goneClosure x mb (mb + 1) L w' hx hK.map p0
            have HWo : Hid (∀ w', Below wr.heap.size wr w' → Calls Try.prog 61 #[.slice l[k].ba l[k].bef.length l[k].bc, .func (.func 60) #[] #[.pointer (some ⟨mb + 1, 0, none⟩)]] w' fun e w'' =>
                (∃ A8 cap8, e = .returned (.slice A8 (l[k].bef.filter fun x => !goneL L x).length cap8) ∧ w''.ownsRow w3.heap.size 9 1 (.slice A8 (l[k].bef.filter fun x => !goneL L x).length cap8) (l[k].bef.filter fun x => !goneL L x).length ((l[k].bef.filter fun x => !goneL L x).map Value.string)) ∧ Below w'.heap.size w' w'') := fun w' hb => by
              have hK := HKeep.out w' hb
              refine (rpWithout l[k].bv l[k].bef 60 #[.pointer (some ⟨mb + 1, 0, none⟩)] (goneL L) entersGone w' (HStr.out w' (hbel.trans (hK.bel.mono hsz))) hb8 (fun x hx w'' hb'' => HCl.out x w'' (hokk.bef x hx) (hb.trans (hb''.mono hb.size)))).mono ?_
              rintro e w'' ⟨⟨A8, cap8, he, ho⟩, hb2⟩
              exact ⟨⟨A8, cap8, he, own_mono ho hK.bel.size⟩, hb2⟩
            have hCn := HCl.out l[k].name _ hokk.name hbG
            have HNorm : Hid (∀ A8 cap8, (⟨l[k].name, l[k].len, l[k].crew, l[k].pow, A8, cap8, l[k].bef.filter fun x => !goneL L x⟩ : Task).norm = wTask L l[k]) := fun A8 cap8 => rfl
            have HOkT : Hid (∀ A8 cap8, (⟨l[k].name, l[k].len, l[k].crew, l[k].pow, A8, cap8, l[k].bef.filter fun x => !goneL L x⟩ : Task).ok) := fun A8 cap8 =>
              ⟨hokk.name, fun x hx => hokk.bef x (List.mem_filter.1 hx).1, hokk.len, hokk.crew, hokk.pow⟩
            have hms := HSS.out.short
            have hGx := HG.out.lt
            have HSkip : Hid (decide (l[k].name ∈ L) = true → ∀ w', Below wr.heap.size wr w' → WoSt w3 w' l L mb (mb + 1) (k + 1) o2 ms) := fun h w' hb => (HSS.out.skip hkl h).below hb
            clear hct hTr hokk hbw HStr HCl HSS
            cases hq : goneL L l[k].name with
            | true =>
              have HSk := Lib.hid (HSkip.out hq)
              rw [hq] at hCn
              clear hq HSkip HWo HNorm HOkT
              go_wp2_with fail
              refine hCn.mono ?_
              rintro e w5 ⟨rfl, hb5⟩
              have HS5 := Lib.hid (HSk.out w5 (hbG.trans (hb5.mono (by simp))))
              clear hCn HKeep HG hbG HSk
              go_wp2_with fail
              go_roundw
              case rel => exact ⟨k + 1, ms, _, by omega, by go_num, rfl, HS5⟩
              case measure => simp [intOf]; omega
            | false =>
              rw [hq] at hCn
              go_wp2_with fail
              refine hCn.mono ?_
              rintro e w5 ⟨rfl, hb5⟩
              have hbx : Below wr.heap.size wr w5 := hbG.trans (hb5.mono (by simp))
              have HG5 := Lib.hid (HG.out.below hb5 HG.out.lt)
              have u0 := HG5.out.cell 0
              have u1 := HG5.out.cell 1
              have u2 := HG5.out.cell 2
              have u3 := HG5.out.cell 3
              have u4 := HG5.out.cell 4
              simp only [List.getElem?_toArray, List.getElem?_cons_succ, List.getElem?_cons_zero] at u0 u1 u2 u3 u4
              have HPush : Hid (∀ (w8 w9 : World) (nv : Value) (t : Task), Below wr.heap.size wr w8 → w8.grownBy w9 o2.ownBlock → w9.ownsRow w3.heap.size 38 5 nv (ms.length + 1) ((ms ++ [t]).flatMap Task.cells) →
                  w8.ownsRow w3.heap.size 9 1 t.bv t.bef.length (t.bef.map Value.string) → t.ok → t.norm = wTask L l[k] → WoSt w3 w9 l L mb (mb + 1) (k + 1) nv (ms ++ [t])) := fun w8 w9 nv t hb hg ho hs hok hn => (HKeep.out w8 hb).push hkl hq hg ho hs hok hn
              generalize hGz : wr.heap.size = G at *
              have HGz := Lib.hid hGz
              clear hGz hb5 HSkip hCn HG hq hbG hGx
              generalize (l[k].bef.filter fun x => !goneL L x) = bf at *
              go_wp2_with fail
              clear u0 u1 u2 u3 u4
              refine (HWo.out _ hbx).mono ?_
              rintro e w8 ⟨⟨A8, cap8, rfl, hown8⟩, hb8'⟩
              have hGl5 := HG5.out.lt
              have HG8 := Lib.hid (HG5.out.below hb8' hGl5)
              have hbx8 : Below G wr w8 := hbx.trans (hb8'.mono (Nat.le_of_lt hGl5))
              have HOw8 := Lib.hid hown8
              have u0 := HG8.out.cell 0
              have u1 := HG8.out.cell 1
              have u2 := HG8.out.cell 2
              have u3 := HG8.out.cell 3
              have u4 := HG8.out.cell 4
              have f4 := HG8.out.frozen 4
              simp only [List.getElem?_toArray, List.getElem?_cons_succ, List.getElem?_cons_zero] at u0 u1 u2 u3 u4
              have HG9 : Hid (Blk (w8.setCell ⟨G, 4, none⟩ (.slice A8 bf.length cap8)) G 38 #[.string l[k].name, .int .i64 l[k].len, .int .i64 l[k].crew, .int .i64 l[k].pow, .slice A8 bf.length cap8]) := by
                have := HG8.out.set_ 4 (.slice A8 bf.length cap8)
                unfold Hid
                simpa using this
              have hb9 : Below G wr (w8.setCell ⟨G, 4, none⟩ (.slice A8 bf.length cap8)) := hbx8.setCell (p := ⟨G, 4, none⟩) (Nat.le_refl _) _
              have x0 := HG9.out.cell 0
              have x1 := HG9.out.cell 1
              have x2 := HG9.out.cell 2
              have x3 := HG9.out.cell 3
              have x4 := HG9.out.cell 4
              simp only [List.getElem?_toArray, List.getElem?_cons_succ, List.getElem?_cons_zero] at x0 x1 x2 x3 x4
              have HS9 := Lib.hid (HKeep.out _ hb9)
              have hOs : (w8.setCell ⟨G, 4, none⟩ (.slice A8 bf.length cap8)).ownsRow w3.heap.size 9 1 (.slice A8 bf.length cap8) bf.length (bf.map Value.string) := own_setBlk HOw8.out HG8.out (by decide)
              have HOs := Lib.hid hOs
              have HNw : Hid (Blk ((w8.setCell ⟨G, 4, none⟩ (.slice A8 bf.length cap8)).alloc (.cells #[.string l[k].name, .int .i64 l[k].len, .int .i64 l[k].crew, .int .i64 l[k].pow, .slice A8 bf.length cap8] 38)) w8.heap.size 38 (Task.cells ⟨l[k].name, l[k].len, l[k].crew, l[k].pow, A8, cap8, bf⟩).toArray) := by
                have e : (w8.setCell ⟨G, 4, none⟩ (.slice A8 bf.length cap8)).heap.size = w8.heap.size := by simp [World.setCell]
                unfold Hid
                rw [← e]
                exact Blk.new _ _ _
              have hGG : G ≤ w8.heap.size := by have := HG8.out.lt; omega
              clear hown8 hOs hb8' hbx hbx8 HG5 hGl5
              go_wp2_with (at_builtin; refine wpList_appT _ rfl (.tmp 59) (.tmp 61) rfl w3.heap.size _ ms (HS9.out.out.alloc _) (Nat.le_trans HS9.out.bel.size (by simp)) ⟨l[k].name, l[k].len, l[k].crew, l[k].pow, A8, cap8, bf⟩ w8.heap.size HNw.out rfl rfl (by omega) ?_; intro g9 cap9 w9 hown9 hgr9)
              have HP9 := Lib.hid (HPush.out _ w9 _ ⟨l[k].name, l[k].len, l[k].crew, l[k].pow, A8, cap8, bf⟩ (hb9.alloc (by simp [World.setCell]; exact hGG) _) hgr9 hown9 (HOs.out.alloc _) (HOkT.out _ _) (HNorm.out _ _))
              clear hown9 hgr9 u0 u1 u2 u3 u4 f4 x0 x1 x2 x3 x4
              go_wp2_with fail
              go_roundw
              case rel => exact ⟨k + 1, _, _, by omega, by go_num, rfl, HP9⟩
              case measure => simp [intOf]; omega
          · obtain rfl : k = l.length := by omega
            have HP := Lib.hid HSS.out.tasks
            have HN : Hid (norms ms = withoutN l L) := by
              have := HSS.out.norm
              rw [List.take_length] at this
              exact this
            have HB := Lib.hid (hbel.trans (HSS.out.bel.mono hsz))
            go_wp2_with fail
            refine bodyPost_ret (results_tmp2 rfl _ _ _) (by rfl) ?_
            exact ⟨HB.out, .inr ⟨HE2.out, _, ms, rfl, HP.out, HN.out⟩⟩

end Go.Proofs.Ytfcfphamecbcgaa

/- The reference's Without of layer 45. -/
namespace Go.Proofs.Ytfcfphamecbcgaa
open Go.RowKit Go.Shelf

/-- The first place of a name among these. -/
def ixL (L : List ByteArray) (s : ByteArray) : Int := idxOf (L.findIdx? fun t => decide (t = s))
theorem ixL_le {L : List ByteArray} {s : ByteArray} {k : Nat} (hk : k < L.length) (e : L[k] = s) : 0 ≤ ixL L s ∧ ixL L s ≤ k := by
  unfold ixL
  cases h : L.findIdx? fun t => decide (t = s) with
  | none =>
    rw [List.findIdx?_eq_none_iff] at h
    have := h _ (List.getElem_mem hk)
    rw [decide_eq_false_iff_not] at this
    exact absurd e this
  | some i =>
    rw [List.findIdx?_eq_some_iff_getElem] at h
    obtain ⟨hi, hp, hq⟩ := h
    refine ⟨by simp [idxOf], ?_⟩
    by_cases hki : k < i
    · have := hq k hki
      simp [e] at this
    · show (i : Int) ≤ k
      omega
theorem ixL_get {L : List ByteArray} {s : ByteArray} (h : 0 ≤ ixL L s) : ∃ i, ∃ hi : i < L.length, ixL L s = (i : Int) ∧ L[i] = s := by
  unfold ixL at h ⊢
  cases e : L.findIdx? fun t => decide (t = s) with
  | none => rw [e] at h; simp [idxOf] at h
  | some i =>
    rw [List.findIdx?_eq_some_iff_getElem] at e
    obtain ⟨hi, hp, -⟩ := e
    exact ⟨i, hi, rfl, of_decide_eq_true hp⟩
theorem ixL_mem (L : List ByteArray) (s : ByteArray) : decide (0 ≤ ixL L s) = goneL L s := by
  unfold goneL
  refine decide_eq_decide.2 ⟨fun h => ?_, fun h => ?_⟩
  · obtain ⟨i, hi, -, e⟩ := ixL_get h
    exact e ▸ List.getElem_mem hi
  · obtain ⟨i, hi, e⟩ := List.mem_iff_getElem.1 h
    exact (ixL_le hi e).1
theorem ixL_not (L : List ByteArray) (s : ByteArray) : decide (ixL L s < 0) = !goneL L s := by
  rw [← ixL_mem, ← decide_not]
  exact decide_eq_decide.2 (by omega)
theorem ixL_twice {L : List ByteArray} {k : Nat} (hk : k < L.length) : ixL L L[k] < (k : Int) ↔ L[k] ∈ L.take k := by
  refine ⟨fun h => ?_, fun h => ?_⟩
  · obtain ⟨i, hi, hx, e⟩ := ixL_get (ixL_le hk rfl).1
    rw [hx] at h
    have hik : i < k := by omega
    rw [← e, List.mem_take_iff_getElem]
    exact ⟨i, by omega, rfl⟩
  · obtain ⟨i, hi, e⟩ := List.mem_take_iff_getElem.1 h
    have := (ixL_le (show i < L.length by omega) e).2
    omega

/-- The tasks so far. -/
structure WoR (W w : World) (l : List Task) (L : List ByteArray) (k : Nat) (ov : Value) (ms : List Task) : Prop where
  out : w.ownsRow W.heap.size 38 5 ov ms.length (ms.flatMap Task.cells)
  strs : ∀ t ∈ ms, w.ownsRow W.heap.size 9 1 t.bv t.bef.length (t.bef.map Value.string)
  ok : ∀ t ∈ ms, t.ok
  norm : norms ms = ((l.take k).filter fun t => !decide (t.name ∈ L)).map (wTask L)
  bel : Below W.heap.size W w
section
variable {W w w' : World} {l : List Task} {L : List ByteArray} {k : Nat} {ov nv : Value} {ms : List Task} {t : Task}
theorem WoR.below (h : WoR W w l L k ov ms) (hb : Below w.heap.size w w') : WoR W w' l L k ov ms :=
  ⟨own_past h.out hb, fun t ht => own_past (h.strs t ht) hb, h.ok, h.norm, h.bel.trans (hb.mono h.bel.size)⟩
theorem WoR.short (h : WoR W w l L k ov ms) : ms.length ≤ l.length := by
  have h1 := norms_len ms
  rw [h.norm, List.length_map] at h1
  have h2 := List.length_filter_le (fun t => !decide (t.name ∈ L)) (l.take k)
  rw [List.length_take] at h2
  omega
theorem WoR.skip (h : WoR W w l L k ov ms) (hk : k < l.length) (hl : decide (l[k].name ∈ L) = true) : WoR W w l L (k + 1) ov ms :=
  ⟨h.out, h.strs, h.ok, by rw [without_snoc hk, hl, h.norm]; simp, h.bel⟩
theorem WoR.push (h : WoR W w l L k ov ms) (hk : k < l.length) (hl : decide (l[k].name ∈ L) = false) (hgrow : w.grownBy w' ov.ownBlock) (ho : w'.ownsRow W.heap.size 38 5 nv (ms.length + 1) ((ms ++ [t]).flatMap Task.cells))
    (hs : w.ownsRow W.heap.size 9 1 t.bv t.bef.length (t.bef.map Value.string)) (hok : t.ok) (hn : t.norm = wTask L l[k]) : WoR W w' l L (k + 1) nv (ms ++ [t]) := by
  have hgr : Below W.heap.size W w' := h.bel.grown hgrow h.bel.size (fun k hk => (h.out.lt k hk).1)
  have hkp : ∀ {e : TypeId} {n : Nat} {x : Value} {xs : List Value}, e ≠ 38 → w.ownsRow W.heap.size e 1 x n xs → w'.ownsRow W.heap.size e 1 x n xs := fun he hx => hx.kept hgrow (own_ne hx h.out he)
  refine ⟨by rw [List.length_append, List.length_singleton]; exact ho, fun t' ht' => ?_, fun t' ht' => ?_, ?_, hgr⟩
  · rcases List.mem_append.1 ht' with ht' | ht'
    · exact hkp (by decide) (h.strs t' ht')
    · rw [List.mem_singleton.1 ht']; exact hkp (by decide) hs
  · rcases List.mem_append.1 ht' with ht' | ht'
    · exact h.ok t' ht'
    · rw [List.mem_singleton.1 ht']; exact hok
  · rw [without_snoc hk, hl, if_pos (show (!false) = true from rfl), ← h.norm]
    unfold norms
    rw [List.map_append, List.map_singleton, hn]
theorem WoR.tasks (h : WoR W w l L k ov ms) : TasksAt w w.heap.size ov ms :=
  TasksAt.of_own h.out (fun t ht => RowAt.of_own (h.strs t ht)) (Nat.le_refl _) h.ok
end

set_option maxRecDepth 100000 in
set_option maxHeartbeats 8000000 in
theorem refGoneTop (v u : Value) (l : List Task) (L : List ByteArray) (w : World) (hl : TasksAt w w.heap.size v l) (hs : StrsAt w w.heap.size u L) :
    Calls Try.prog 25 #[v, u] w (WithoutPost l L w) := by
  have hRt := refRight v l w hl
  have HTw : Hid (∀ w1, Below w.heap.size w w1 → TasksAt w1 w.heap.size v l) := fun w1 hb => hl.below hb (Nat.le_refl _)
  have HOk := Lib.hid hl.2.2
  have HFind : Hid (∀ x w1, Below w.heap.size w w1 → Calls Try.prog 42 #[v, .string x] w1 fun e w'' => e = .returned (.int .i64 (pl l x)) ∧ w1 = w'') := fun x w1 hb => refFind v l x w1 w.heap.size (hl.below hb (Nat.le_refl _))
  have HIx : Hid (∀ x w1, Below w.heap.size w w1 → Calls Try.prog 62 #[u, .string x] w1 fun e w'' => e = .returned (.int .i64 (ixL L x)) ∧ w1 = w'') := fun x w1 hb => refIndex u L x w1 w.heap.size (hs.below hb (Nat.le_refl _))
  obtain ⟨A, cc, rfl, hA1, hA2, -⟩ := hl.open_
  obtain ⟨A1, c1, rfl, hB1, hB2, hBc⟩ := hs.open_
  have HC : Hid (∀ k (hk : k < L.length), ∃ b1 off1, A1 = some ⟨b1, off1, none⟩ ∧ ∀ w', Below w.heap.size w w' → w'.cell? ⟨b1, off1 + k, none⟩ = some (.string L[k])) := fun k hk => by
    obtain ⟨b1, off1, e, hb, hc⟩ := hBc k hk
    exact ⟨b1, off1, e, fun w' hb' => (hb'.cell (p := ⟨b1, off1 + k, none⟩) hb).trans (hc k hk)⟩
  unfold maxLen at hA2 hB2
  clear hl hs hBc
  go_enter Try.func25, Try.ntmps25
  go_wp2_with fail
  refine hRt.mono ?_
  rintro e w1 ⟨rfl, hb1⟩
  clear hRt
  cases hr : rightR l with
  | false =>
    have HE : Hid (withoutE l L = 1) := by unfold Hid withoutE; rw [hr, if_neg (by simp)]
    clear hr
    go_wp2_with fail
    refine bodyPost_ret (results_tmp2 rfl _ _ _) (by rfl) ?_
    exact ⟨hb1, .inl ⟨by rw [HE.out]; decide, by rw [HE.out]; rfl⟩⟩
  | true =>
    have hR : RightT l := (right_iff l).1 hr
    have h8 := hR.len
    have HR := Lib.hid hR
    have HE : Hid (withoutE l L = goneTo l L L.length) := by unfold Hid withoutE; rw [hr, if_pos rfl]
    clear hr hR
    go_wp2_with fail
    have Hb1 := Lib.hid hb1
    clear hb1
    go_loopw [6] (fun ix wr => ∃ k : Nat, k ≤ L.length ∧ ix = .int .i64 k ∧ Hid (goneTo l L k = 0) ∧ w1 = wr) (fun ix _ => L.length - (intOf ix).toNat)
    case atStart => exact ⟨0, Nat.zero_le _, rfl, rfl, rfl⟩
    case round =>
      obtain ⟨k, hk, rfl, HG, rfl⟩ := hrel
      by_cases hkl : k < L.length
      · obtain ⟨b1, off1, rfl, hsc⟩ := HC.out k hkl
        have h0 := hsc _ Hb1.out
        have hF := HFind.out L[k] _ Hb1.out
        have hI := HIx.out L[k] _ Hb1.out
        have HBad := Lib.hid (goneTo_bad (l := l) hkl HG.out)
        have HTwi := Lib.hid (goneTo_twice (l := l) hkl HG.out)
        have HGo := Lib.hid (goneTo_ok (l := l) hkl HG.out)
        have HT2 := Lib.hid (ixL_twice hkl)
        have i1 : (0 : Int) ≤ (k : Int) := Int.natCast_nonneg _
        have i2 : (k : Int) < (L.length : Int) := by omega
        clear hsc
        generalize hx : pl l L[k] = x at *
        clear hx
        generalize hy : ixL L L[k] = y at *
        clear hy
        by_cases hxn : x < 0
        · have hd : decide (x < 0) = true := decide_eq_true hxn
          have HE' : Hid (withoutE l L = 9) := by unfold Hid; rw [HE.out]; exact HBad.out hxn
          clear hxn HE hI
          go_wp2_with (go_at_call 42; refine hF.mono ?_; rintro e w' ⟨rfl, rfl⟩)
          refine bodyPost_ret (results_tmp2 rfl _ _ _) (by rfl) ?_
          exact ⟨Hb1.out, .inl ⟨by rw [HE'.out]; decide, by rw [HE'.out]; rfl⟩⟩
        · have hd : decide (x < 0) = false := decide_eq_false hxn
          by_cases hq : y < (k : Int)
          · have hd2 : decide (y < (k : Int)) = true := decide_eq_true hq
            have HE' : Hid (withoutE l L = 10) := by unfold Hid; rw [HE.out]; exact HTwi.out (by omega) (HT2.out.1 hq)
            clear hxn HE hq
            go_wp2_with (first
              | (go_at_call 42; refine hF.mono ?_; rintro e w' ⟨rfl, rfl⟩)
              | (go_at_call 62; refine hI.mono ?_; rintro e w' ⟨rfl, rfl⟩))
            refine bodyPost_ret (results_tmp2 rfl _ _ _) (by rfl) ?_
            exact ⟨Hb1.out, .inl ⟨by rw [HE'.out]; decide, by rw [HE'.out]; rfl⟩⟩
          · have hd2 : decide (y < (k : Int)) = false := decide_eq_false hq
            have HG' := Lib.hid (HGo.out (by omega) (fun h => hq (HT2.out.2 h)))
            clear hxn HG HBad HTwi HGo HT2 hq
            go_wp2_with (first
              | (go_at_call 42; refine hF.mono ?_; rintro e w' ⟨rfl, rfl⟩)
              | (go_at_call 62; refine hI.mono ?_; rintro e w' ⟨rfl, rfl⟩))
            go_roundw
            case rel => exact ⟨k + 1, by omega, by go_num, HG', by trivial⟩
            case measure => simp [intOf]; omega
      · obtain rfl : k = L.length := by omega
        have HE2 : Hid (withoutE l L = 0) := by unfold Hid; rw [HE.out]; exact HG.out
        have H0 : Hid (WoR w1 w1 l L 0 (.slice none 0 0) []) := ⟨World.ownsRow_nil _ _ _ _, by simp, by simp, rfl, Below.refl _ _⟩
        clear HG HE hkl hk
        have hsz := Hb1.out.size
        go_wp2_with fail
        obtain ⟨w3, rfl⟩ : ∃ w3, w3 = w1 := ⟨w1, rfl⟩
        go_loopw [8, 7] (fun ix ov wr => ∃ (k : Nat) (ms : List Task), k ≤ l.length ∧ ix = .int .i64 k ∧ Hid (WoR w3 wr l L k ov ms)) (fun ix _ _ => l.length - (intOf ix).toNat)
        case atStart => exact ⟨0, [], Nat.zero_le _, rfl, H0⟩
        case round =>
          clear H0
          obtain ⟨k, ms, hk, rfl, HSS⟩ := hrel
          have k1 : (0 : Int) ≤ (k : Int) := Int.natCast_nonneg _
          by_cases hkl : k < l.length
          · have HWr : Hid (Below w.heap.size w wr) := Hb1.out.trans (HSS.out.bel.mono hsz)
            have hTr := HTw.out wr HWr.out
            have hIk := HIx.out l[k].name wr HWr.out
            have HLv := Lib.hid (ixL_mem L l[k].name)
            have i2 : (k : Int) < (l.length : Int) := by omega
            obtain ⟨b0, off0, rfl, hb0, hct⟩ := hTr.cells hkl
            obtain ⟨t0, t1, t2, t3, t4⟩ := hct k hkl
            cases hlv : goneL L l[k].name with
            | true =>
              have HSk := Lib.hid (HSS.out.skip hkl hlv)
              have hd : decide (0 ≤ ixL L l[k].name) = true := by rw [HLv.out, hlv]
              clear hlv hTr HLv HSS hct t1 t2 t3 t4 HWr
              generalize ixL L l[k].name = ixk at *
              go_wp2_with (go_at_call 62; refine hIk.mono ?_; rintro e w' ⟨rfl, rfl⟩)
              go_roundw
              case rel => exact ⟨k + 1, ms, by omega, by go_num, HSk⟩
              case measure => simp [intOf]; omega
            | false =>
              have hd : decide (0 ≤ ixL L l[k].name) = false := by rw [HLv.out, hlv]
              obtain ⟨hm1, hm2, -⟩ := hTr.open_bef hkl
              unfold maxLen at hm2
              have hb8 : l[k].bef.length ≤ 1000 := by
                have := (((befOK_iff l).1 HR.out.bef _ (List.getElem_mem hkl))).le
                omega
              have hokk := HOk.out _ (List.getElem_mem hkl)
              have hms := HSS.out.short
              have HPush : Hid (∀ (w8 w9 : World) (ov nv : Value) (t : Task), WoR w3 w8 l L k ov ms → w8.grownBy w9 ov.ownBlock → w9.ownsRow w3.heap.size 38 5 nv (ms.length + 1) ((ms ++ [t]).flatMap Task.cells) →
                  w8.ownsRow w3.heap.size 9 1 t.bv t.bef.length (t.bef.map Value.string) → t.ok → t.norm = wTask L l[k] → WoR w3 w9 l L (k + 1) nv (ms ++ [t])) := fun w8 w9 ov nv t hw hg ho hs hok hn => hw.push hkl hlv hg ho hs hok hn
              have HKq := Lib.hid (fun w' (hb : Below wr.heap.size wr w') => HSS.out.below hb)
              have HNorm : Hid (∀ A8 cap8, (⟨l[k].name, l[k].len, l[k].crew, l[k].pow, A8, cap8, l[k].bef.filter fun x => !goneL L x⟩ : Task).norm = wTask L l[k]) := fun A8 cap8 => rfl
              have HOkT : Hid (∀ A8 cap8, (⟨l[k].name, l[k].len, l[k].crew, l[k].pow, A8, cap8, l[k].bef.filter fun x => !goneL L x⟩ : Task).ok) := fun A8 cap8 =>
                ⟨hokk.name, fun x hx => hokk.bef x (List.mem_filter.1 hx).1, hokk.len, hokk.crew, hokk.pow⟩
              have HBf : Hid (∀ i (_ : i < l[k].bef.length), ∃ b off, l[k].ba = some ⟨b, off, none⟩ ∧ ∀ w', Below w.heap.size w w' → ∀ j (hj : j < l[k].bef.length), w'.cell? ⟨b, off + j, none⟩ = some (.string l[k].bef[j])) := fun i hi => by
                obtain ⟨-, -, h⟩ := (HTw.out w (Below.refl _ _)).open_bef hkl
                obtain ⟨b, off, e, hb, hc⟩ := h i hi
                exact ⟨b, off, e, fun w' hb' j hj => (hb'.cell (p := ⟨b, off + j, none⟩) hb).trans (hc j hj)⟩
              have HB4 : Hid (∀ w', Below w.heap.size w w' → w'.cell? ⟨b0, off0 + k * 5 + 4, none⟩ = some (.slice l[k].ba l[k].bef.length l[k].bc)) := fun w' hb => by
                obtain ⟨b9, off9, e9, -, h9⟩ := (HTw.out w' hb).cells hkl
                injection e9 with e9
                injection e9 with e10 e11
                subst e10 e11
                exact (h9 k hkl).2.2.2.2
              have hGW := HSS.out.bel.size
              clear hct hTr HSS hokk hlv HLv
              generalize l[k].ba = ba at *
              generalize ixL L l[k].name = ixk at *
              go_wp2_with fail
              refine hIk.mono ?_
              rintro e w' ⟨rfl, rfl⟩
              obtain ⟨wq, rfl⟩ : ∃ wq, wq = wr := ⟨wr, rfl⟩
              have hbG : Below wq.heap.size wq (wq.alloc (.cells #[.string l[k].name, .int .i64 l[k].len, .int .i64 l[k].crew, .int .i64 l[k].pow, .slice ba l[k].bef.length l[k].bc] 38)) := (Below.refl _ _).alloc (Nat.le_refl _) _
              have HG := Lib.hid (Blk.new wq 38 #[.string l[k].name, .int .i64 l[k].len, .int .i64 l[k].crew, .int .i64 l[k].pow, .slice ba l[k].bef.length l[k].bc])
              have u0 := HG.out.cell 0
              have u1 := HG.out.cell 1
              have u2 := HG.out.cell 2
              have u3 := HG.out.cell 3
              have u4 := HG.out.cell 4
              have f4 := HG.out.frozen 4
              simp only [List.getElem?_toArray, List.getElem?_cons_succ, List.getElem?_cons_zero] at u0 u1 u2 u3 u4
              go_wp2_with fail
              have HBS : Hid (BefSt wq (wq.alloc (.cells #[.string l[k].name, .int .i64 l[k].len, .int .i64 l[k].crew, .int .i64 l[k].pow, .slice none 0 0] 38)) wq.heap.size l[k] l[k].len (fun x => !goneL L x) 0 none 0 0) := ⟨(Below.refl _ _).alloc (Nat.le_refl _) _, Blk.new _ _ _, rfl, World.ownsRow_nil _ _ _ _⟩
              clear hbG HG u0 u1 u2 u3 u4 f4 t0 t1 t2 t3 t4 hIk hd
              generalize wq.alloc (.cells #[.string l[k].name, .int .i64 l[k].len, .int .i64 l[k].crew, .int .i64 l[k].pow, .slice none 0 0] 38) = w4 at *
              have HWq2 := Lib.hid (fun w' (hb : Below wq.heap.size wq w') => HWr.out.trans (hb.mono HWr.out.size))
              obtain ⟨G, hG⟩ : ∃ G, wq.heap.size = G := ⟨_, rfl⟩
              rw [hG] at HBS
              have hGq : wq.heap.size ≤ G := Nat.le_of_eq hG
              have HGq := Lib.hid hGq
              simp only [hG]
              clear hG hGq HWr
              go_loopw [10] (fun ix wx => ∃ (j m cap : Nat) (bA : Option Addr), j ≤ l[k].bef.length ∧ ix = .int .i64 j ∧ Hid (BefSt wq wx G l[k] l[k].len (fun x => !goneL L x) j bA m cap)) (fun ix _ => l[k].bef.length - (intOf ix).toNat)
              case atStart => exact ⟨0, 0, 0, none, Nat.zero_le _, rfl, HBS⟩
              case round =>
                clear HBS
                obtain ⟨j, m, cap, bA, hj, rfl, HBS⟩ := hrel
                have j0 : (0 : Int) ≤ (j : Int) := Int.natCast_nonneg _
                have c4 := HB4.out _ (HWq2.out _ HBS.out.bel)
                by_cases hjl : j < l[k].bef.length
                · obtain ⟨b', off', rfl, hs'⟩ := HBf.out j hjl
                  have hst := hs' _ (HWq2.out _ HBS.out.bel) j hjl
                  have hI := HIx.out l[k].bef[j] _ (HWq2.out _ HBS.out.bel)
                  have j1 : (j : Int) < (l[k].bef.length : Int) := by omega
                  have HLv := Lib.hid (ixL_not L l[k].bef[j])
                  cases hq : goneL L l[k].bef[j] with
                  | true =>
                    have hd : decide (ixL L l[k].bef[j] < 0) = false := by rw [HLv.out, hq]; rfl
                    have HSk := Lib.hid (HBS.out.skip hjl (by show (!goneL L _) = false; rw [hq]; rfl))
                    clear hq HLv HBS hs'
                    generalize ixL L l[k].bef[j] = ixj at *
                    go_wp2_with (go_at_call 62; refine hI.mono ?_; rintro e w' ⟨rfl, rfl⟩)
                    go_roundw
                    case rel => exact ⟨j + 1, m, cap, bA, by omega, by go_num, HSk⟩
                    case measure => simp [intOf]; omega
                  | false =>
                    have hd : decide (ixL L l[k].bef[j] < 0) = true := by rw [HLv.out, hq]; rfl
                    have Hqq : Hid ((!goneL L l[k].bef[j]) = true) := by unfold Hid; rw [hq]; rfl
                    clear hq HLv
                    generalize ixL L l[k].bef[j] = ixj at *
                    have d4 := fun o => HB4.out _ (HWq2.out _ (HBS.out.bel.alloc HBS.out.bel.size o))
                    have e4 := HBS.out.blk.cell 4
                    have e4' := fun o => (HBS.out.blk.alloc o).cell 4
                    simp only [List.getElem?_toArray, List.getElem?_cons_succ, List.getElem?_cons_zero] at e4 e4'
                    have hmj : m ≤ 1000 := by
                      have h1 := HBS.out.len
                      have h2 := List.length_filter_le (fun x => !goneL L x) (l[k].bef.take j)
                      rw [List.length_take] at h2
                      omega
                    have HBa : BefSt wq ((wr.alloc (.cells #[.string l[k].bef[j]] 9)).drew) G l[k] l[k].len (fun x => !goneL L x) j bA m cap := HBS.out.allocDrew _
                    have HStore : Hid (∀ wz, ((wr.alloc (.cells #[.string l[k].bef[j]] 9)).drew).grownBy wz (Value.slice bA m cap).ownBlock → wz.frozen? ⟨G, 4, none⟩ = false ∧ wz.cell? ⟨G, 4, none⟩ = some (.slice bA m cap)) := fun wz hgz => by
                      have HGz := HBa.blk.kept hgz (HBa.blk.ne_own HBa.own (by decide))
                      exact ⟨HGz.frozen 4, HGz.cell 4⟩
                    have HPu : Hid (∀ wz g3 cap3, ((wr.alloc (.cells #[.string l[k].bef[j]] 9)).drew).grownBy wz (Value.slice bA m cap).ownBlock → wz.ownsRow wq.heap.size 9 1 (.slice (some ⟨g3, 0, none⟩) (m + 1) cap3) (m + 1) (((l[k].bef.take j).filter fun x => !goneL L x).map Value.string ++ [.string l[k].bef[j]]) →
                        BefSt wq (wz.setCell ⟨G, 4, none⟩ (.slice (some ⟨g3, 0, none⟩) (m + 1) cap3)) G l[k] l[k].len (fun x => !goneL L x) (j + 1) (some ⟨g3, 0, none⟩) (m + 1) cap3) := fun wz g3 cap3 hgz hoz => HBa.push hjl Hqq.out HGq.out hgz hoz
                    have HOw : Hid (((wr.alloc (.cells #[.string l[k].bef[j]] 9)).drew).ownsRow wq.heap.size 9 1 (.slice bA m cap) m (((l[k].bef.take j).filter fun x => !goneL L x).map Value.string) ∧ wq.heap.size ≤ ((wr.alloc (.cells #[.string l[k].bef[j]] 9)).drew).heap.size ∧ Blk ((wr.alloc (.cells #[.string l[k].bef[j]] 9)).drew) wr.heap.size 9 #[.string l[k].bef[j]]) := ⟨HBa.own, HBa.bel.size, Blk.drew1 (Blk.new _ _ _)⟩
                    clear hs' HBa HBS
                    go_wp2_with (go_at_call 62; refine hI.mono ?_; rintro e w' ⟨rfl, rfl⟩)
                    go_region_law (refine step_appS rfl (.tmp 76) (.tmp 85) rfl HOw.out.1 HOw.out.2.1 HOw.out.2.2 (by go_simp) (by go_simp) hmj ?_; intro g3 cap3 wz hoz hgz; obtain ⟨fz, cz⟩ := HStore.out wz hgz; have HPz := Lib.hid (HPu.out wz g3 cap3 hgz hoz); clear hoz hgz)
                    all_goals
                      clear c4 d4 e4 e4' hst fz cz HStore HPu HOw
                      go_simp
                      go_wp2_with fail
                      go_roundw
                      case rel => exact ⟨j + 1, m + 1, cap3, some ⟨g3, 0, none⟩, by omega, by go_num, HPz⟩
                      case measure => simp [intOf]; omega
                · have hje : j = l[k].bef.length := by omega
                  subst hje
                  have hlen := HBS.out.len
                  have hown := HBS.out.own
                  have hblk := HBS.out.blk
                  have HKx := Lib.hid (HKq.out _ HBS.out.bel)
                  rw [List.take_length] at hlen hown
                  clear HBS
                  generalize (l[k].bef.filter fun x => !goneL L x) = bf at *
                  subst hlen
                  have u0 := hblk.cell 0
                  have u1 := hblk.cell 1
                  have u2 := hblk.cell 2
                  have u3 := hblk.cell 3
                  have u4 := hblk.cell 4
                  simp only [List.getElem?_toArray, List.getElem?_cons_succ, List.getElem?_cons_zero] at u0 u1 u2 u3 u4
                  have HOw := Lib.hid hown
                  clear hblk hown
                  go_wp2_with (at_builtin; refine wpList_appT _ rfl (.tmp 88) (.tmp 90) rfl w3.heap.size _ ms (HKx.out.out.alloc _) (Nat.le_trans HKx.out.bel.size (by simp)) ⟨l[k].name, l[k].len, l[k].crew, l[k].pow, bA, cap, bf⟩ _ (Blk.new _ _ _) rfl rfl (by omega) ?_; intro g9 cap9 w9 hown9 hgr9)
                  have HP9 := Lib.hid (HPush.out _ w9 _ _ ⟨l[k].name, l[k].len, l[k].crew, l[k].pow, bA, cap, bf⟩ (HKx.out.below ((Below.refl _ _).alloc (Nat.le_refl _) _)) hgr9 hown9 (own_mono (HOw.out.alloc _) hGW) (HOkT.out _ _) (HNorm.out _ _))
                  clear hown9 hgr9 u0 u1 u2 u3 u4 c4
                  go_wp2_with fail
                  go_roundw
                  case rel => exact ⟨k + 1, _, by omega, by go_num, HP9⟩
                  case measure => simp [intOf]; omega
          · obtain rfl : k = l.length := by omega
            have HP := Lib.hid HSS.out.tasks
            have HN : Hid (norms ms = withoutN l L) := by
              have := HSS.out.norm
              rw [List.take_length] at this
              exact this
            have HB := Lib.hid (Hb1.out.trans (HSS.out.bel.mono hsz))
            go_wp2_with fail
            refine bodyPost_ret (results_tmp2 rfl _ _ _) (by rfl) ?_
            exact ⟨HB.out, .inr ⟨HE2.out, _, ms, rfl, HP.out, HN.out⟩⟩

end Go.Proofs.Ytfcfphamecbcgaa

/- The law ReplanWithout: the walk. -/
namespace Go.Proofs.Ytfcfphamecbcgaa
open Go.RowKit Go.Shelf

theorem entersWoS : ∀ args w, (callFunc 23 args).run Try.prog w = .ok (.enter 23 args) w := enters_of Try.func23 (by kernel_rfl) rfl
set_option maxHeartbeats 1000000 in
theorem woStr (s : ByteArray) (w : World) (hs : s.size ≤ maxLen) : Calls Try.prog 23 #[.string s] w fun e w' => e = .returned (.bool (longS s)) ∧ Below w.heap.size w w' := by
  unfold maxLen at hs
  by_cases h : 60 < s.size
  · have HV : Hid (longS s = true) := by unfold Hid longS; simp [h]
    have hb : decide ((60 : Int) < s.size) = true := by simp; omega
    go_enter Try.func23, Try.ntmps23
    go_wp2
    go_ret
    exact ⟨ret_bool HV.out.symm, Below.refl _ _⟩
  · have HV : Hid (longS s = false) := by unfold Hid longS; simp [h]
    have hb : decide ((60 : Int) < s.size) = false := by simp; omega
    go_enter Try.func23, Try.ntmps23
    go_wp2
    go_ret
    exact ⟨ret_bool HV.out.symm, Below.refl _ _⟩

theorem noTasks45 (w : World) : TasksAt w w.heap.size (.slice none 0 0) [] := ⟨⟨none, 0, rfl, Nat.le_refl _, Nat.zero_le _, fun h => absurd h (by simp)⟩, by simp, by simp⟩
set_option maxRecDepth 100000 in
set_option maxHeartbeats 8000000 in
theorem lawReplanWithout (v u : Value) (l : List Task) (L : List ByteArray) (w : World) (hl : TasksAt w w.heap.size v l) (hs : StrsAt w w.heap.size u L) (hz : ∀ x ∈ L, x.size ≤ maxLen) :
    Calls Try.prog 7 #[v, u] w fun e w' => e = .returned (.bool true) ∧ Below w.heap.size w w' := by
  have hA := lawAwake45 w
  have HT : Hid (∀ w1, Below w.heap.size w w1 → TasksAt w1 w1.heap.size v l) := fun w1 hb => (hl.below hb (Nat.le_refl _)).mono hb.size
  have HS : Hid (∀ w1, Below w.heap.size w w1 → StrsAt w1 w1.heap.size u L) := fun w1 hb => (hs.below hb (Nat.le_refl _)).mono hb.size
  have hLong := fun w1 hb => lawLarge v l w1 (HT.out w1 hb)
  have hCf : ∀ w1, Below w.heap.size w w1 → Calls Try.prog 22 #[u, .func (.func 23) #[] #[]] w1 fun e w' => e = .returned (.bool (L.any longS)) ∧ Below w1.heap.size w1 w' := fun w1 hb =>
    containsFuncStr u L 23 #[] longS entersWoS w1 (HS.out w1 hb) (fun s hs w' _ => woStr s w' (hz s hs))
  have HW : Hid (∀ w1, Below w.heap.size w w1 → Calls Try.prog 24 #[v, u] w1 (WithoutPost l L w1)) := fun w1 hb => rpWithoutTop v u l L w1 (HT.out w1 hb) (HS.out w1 hb) hz
  have HR : Hid (∀ w1, Below w.heap.size w w1 → Calls Try.prog 25 #[v, u] w1 (WithoutPost l L w1)) := fun w1 hb => refGoneTop v u l L w1 (HT.out w1 hb) (HS.out w1 hb)
  obtain ⟨A, cc, rfl, hA1, hA2, -⟩ := hl.open_
  obtain ⟨A1, c1, rfl, hB1, hB2, -⟩ := hs.open_
  unfold maxLen at hA2 hB2
  clear hl hs hz
  cases hlg : largeB l with
  | true =>
    rw [hlg] at hLong
    clear hlg hCf
    go_enter Try.func7, Try.ntmps7
    go_wp2_with (first
      | (go_at_call 9; refine hA.mono ?_; rintro e w1 ⟨rfl, hb1⟩)
      | (go_at_call 10; refine (hLong _ hb1).mono ?_; rintro e w2 ⟨rfl, hb2⟩))
    go_ret
    exact ⟨rfl, hb1.trans (hb2.mono hb1.size)⟩
  | false =>
    rw [hlg] at hLong
    clear hlg
    by_cases h20 : 12 < L.length
    · have h20b : decide ((12 : Int) < L.length) = true := by simp; omega
      clear hCf
      go_enter Try.func7, Try.ntmps7
      go_wp2_with (first
        | (go_at_call 9; refine hA.mono ?_; rintro e w1 ⟨rfl, hb1⟩)
        | (go_at_call 10; refine (hLong _ hb1).mono ?_; rintro e w2 ⟨rfl, hb2⟩))
      go_ret
      exact ⟨rfl, hb1.trans (hb2.mono hb1.size)⟩
    have h20b : decide ((12 : Int) < L.length) = false := by simp; omega
    clear h20
    cases hlo : L.any longS with
    | true =>
      rw [hlo] at hCf
      clear hlo
      go_enter Try.func7, Try.ntmps7
      go_wp2_with (first
        | (go_at_call 9; refine hA.mono ?_; rintro e w1 ⟨rfl, hb1⟩)
        | (go_at_call 10; refine (hLong _ hb1).mono ?_; rintro e w2 ⟨rfl, hb2⟩; have hbx := hb1.trans (hb2.mono hb1.size); clear hb1 hb2 hA hLong)
        | (go_at_call 22; refine (hCf _ hbx).mono ?_; rintro e w3 ⟨rfl, hb3⟩))
      go_ret
      exact ⟨rfl, hbx.trans (hb3.mono hbx.size)⟩
    | false =>
      rw [hlo] at hCf
      clear hlo
      go_enter Try.func7, Try.ntmps7
      go_wp2_with (first
        | (go_at_call 9; refine hA.mono ?_; rintro e w1 ⟨rfl, hb1⟩)
        | (go_at_call 10; refine (hLong _ hb1).mono ?_; rintro e w2 ⟨rfl, hb2⟩; have hbx := hb1.trans (hb2.mono hb1.size); clear hb1 hb2 hA hLong)
        | (go_at_call 22; refine (hCf _ hbx).mono ?_; rintro e w3 ⟨rfl, hb3⟩; have hbz := hbx.trans (hb3.mono hbx.size); clear hbx hb3 hCf))
      refine (HW.out _ hbz).mono ?_
      rintro e w4 ⟨hb4, hpost⟩
      have hbx4 := hbz.trans (hb4.mono hbz.size)
      have hR4 := HR.out _ hbx4
      rcases hpost with ⟨hg, rfl⟩ | ⟨hg, va, ms, rfl, hT, hN⟩
      · have Hg := Lib.hid hg
        clear hg
        generalize hE : withoutE l L = x at *
        have HE := Lib.hid hE
        clear hE
        go_wp2_with fail
        refine hR4.mono ?_
        rintro e w5 ⟨hb5, hpost⟩
        have hbx5 := hbx4.trans (hb5.mono hbx4.size)
        rcases hpost with ⟨hg, rfl⟩ | ⟨hg, -⟩
        · rw [HE.out]
          have hSm := refSame (.slice none 0 0) (.slice none 0 0) [] [] w5 (noTasks45 _) (noTasks45 _) rfl
          have hxe : (x == x) = true := beq_self_eq_true x
          clear hg hR4 Hg HE
          go_wp2_with (go_at_call 13; refine hSm.mono ?_; rintro e w6 ⟨rfl, hb6⟩)
          go_ret
          exact ⟨rfl, hbx5.trans (hb6.mono hbx5.size)⟩
        · exact absurd (HE.out.symm.trans hg) Hg.out
      · have HT3 := Lib.hid hT
        have HN3 := Lib.hid hN
        have Hg := Lib.hid hg
        obtain ⟨A3, c3, rfl, -, -, -⟩ := hT.open_
        clear hg hT hN
        go_wp2_with fail
        refine hR4.mono ?_
        rintro e w5 ⟨hb5, hpost⟩
        have hbx5 := hbx4.trans (hb5.mono hbx4.size)
        rcases hpost with ⟨hg, rfl⟩ | ⟨hg, vb, mr, rfl, hT5, hN5⟩
        · exact absurd Hg.out hg
        · have hSm := refSame _ _ ms mr w5 ((HT3.out.below hb5 (Nat.le_refl _)).mono hb5.size) hT5 (HN3.out.trans hN5.symm)
          obtain ⟨A5, c5, rfl, -, -, -⟩ := hT5.open_
          clear hT5 hN5 hg hR4
          go_wp2_with (go_at_call 13; refine hSm.mono ?_; rintro e w6 ⟨rfl, hb6⟩)
          go_ret
          exact ⟨rfl, hbx5.trans (hb6.mono hbx5.size)⟩

end Go.Proofs.Ytfcfphamecbcgaa

/- ReplanWithout: for every input the law returns true, and its arguments read as they did. -/
namespace Go.Proofs.Ytfcfphamecbcgaa
open Go.ChangeShapes Go.WideShapes Go.ChangeAt Go.RowKit

set_option maxRecDepth 100000 in
theorem replanWithout_lifted (os : Os) (started : os.Started) (H : Type) (enc : TypeId × Value → H) :
    ReturnsInHanded {} Try.checked os 7 .any (Rows.replanWithoutSpec.pre6 enc Try.prog Try.f7 Rows.replanWithoutRow.domain false) (Rows.replanWithoutSpec.post enc Try.prog Try.f7 false true false false) := by
  refine law_lifted started (by kernel_rfl) Try.func7 rfl (by kernel_rfl) ?_ ?_ (ChangeSpec.witness6 (enc := enc) (C := Try.checked) false ⟨#[], #[.slice none 0 0, .slice none 0 0], []⟩ 8 (by kernel_rfl) (by kernel_rfl) (by kernel_rfl) (by kernel_rfl)) ?_
  · rw [Try.params7]
    intro t ht
    simp only [List.mem_cons, List.not_mem_nil, or_false] at ht
    rcases ht with rfl | rfl <;> exact ⟨by kernel_rfl, of_decide_eq_true (by kernel_rfl)⟩
  · intro ds hds
    match ds, hds with
    | [d0, d1], _ => exact ⟨rfl, rfl, rfl⟩
  · intro W base args ds ps hval hA
    rw [Try.params7] at hA hval
    obtain ⟨v0, vs0, d0, ds0, p0, q0, hargs, rfl, rfl, h0, r0⟩ := trodAll_cons hA
    obtain ⟨v1, vs1, d1, ds1, p1, q1, rfl, rfl, rfl, h1, r1⟩ := trodAll_cons r0
    obtain ⟨rfl, rfl, rfl⟩ := trodAll_nil r1
    obtain rfl : args = #[v0, v1] := by cases args; simp_all
    obtain ⟨a0, n0, c0, rfl⟩ := okWide_slice Try.underlying22 (hval 0 22 v0 rfl rfl)
    obtain ⟨fuel0, hf0⟩ := h0
    obtain ⟨x0, hx0⟩ := tasks_of_trod hf0
    obtain ⟨a1, n1, c1, rfl⟩ := okWide_slice Try.underlying36 (hval 1 36 v1 rfl rfl)
    obtain ⟨fuel1, hf1⟩ := h1
    obtain ⟨x1, hx1, hw1, -⟩ := strs_of_trod hf1
    exact lawReplanWithout _ _ x0 x1 W hx0 hx1 hw1

theorem replanWithout_holds : Rows.ReplanWithoutSaid :=
  OpenClaim.holds_of_wide 7 Try.f7 rfl rfl rfl rfl rfl rfl rfl ⟨rfl, rfl, rfl, rfl, rfl⟩ rfl rfl rfl rfl rfl (by kernel_rfl) Try.func7 (by kernel_rfl)
    (of_decide_eq_true (by kernel_rfl)) (by unfold Func.isWrapper; first | (rw [if_pos (by decide +kernel)]; kernel_rfl) | (rw [if_neg (by decide +kernel)]; exact ⟨rfl, rfl⟩))
    (fun os started H enc _ => replanWithout_lifted os started H enc)
#print axioms replanWithout_holds

end Go.Proofs.Ytfcfphamecbcgaa
