/- For every input the law returns true, and its arguments read as they did: GoneP, GoneW, RefGone, LeavesP, LawLeaves, RowLeaves. -/
import Derived.Deep.DeepCutAuto
import Derived.Deep.RegionHeld3
import Derived.Test.YtfcfphamecbcgaaG1
import Derived.Test.YtfcfphamecbcgaaG14
import Derived.Test.YtfcfphamecbcgaaG16
import Derived.Test.YtfcfphamecbcgaaG17
import Derived.Test.YtfcfphamecbcgaaG18
import Derived.Test.YtfcfphamecbcgaaG19
import Derived.Test.YtfcfphamecbcgaaG7

/- Tasks without some: what is meant; the set of names in memory; the reference's index. -/
namespace Go.Proofs.Ytfcfphamecbcgaa
open Go.RowKit Go.Shelf Go.WideMaps Go.Maps

/-- The first error among the first names. -/
noncomputable def goneTo (l : List Task) (L : List ByteArray) : Nat → Int
  | 0 => 0
  | k + 1 => if goneTo l L k = 0 then (if pl l (L.getD k default) < 0 then 9 else if L.getD k default ∈ L.take k then 10 else 0) else goneTo l L k
/-- The error's number. -/
noncomputable def withoutE (l : List Task) (L : List ByteArray) : Int := if rightR l = true then goneTo l L L.length else 1
/-- A task that no longer waits for these. -/
def wTask (L : List ByteArray) (t : Task) : Task := ⟨t.name, t.len, t.crew, t.pow, none, 0, t.bef.filter fun x => !decide (x ∈ L)⟩
def withoutN (l : List Task) (L : List ByteArray) : List Task := (l.filter fun t => !decide (t.name ∈ L)).map (wTask L)
/-- What Without gives. -/
def WithoutPost (l : List Task) (L : List ByteArray) (w : World) (e : Ending) (w' : World) : Prop :=
  Below w.heap.size w w' ∧ ((withoutE l L ≠ 0 ∧ e = .returned (.tuple #[.slice none 0 0, .int .i64 (withoutE l L)])) ∨
    (withoutE l L = 0 ∧ ∃ ov ms, e = .returned (.tuple #[ov, .int .i64 0]) ∧ TasksAt w' w'.heap.size ov ms ∧ norms ms = withoutN l L))
theorem goneTo_stays {l : List Task} {L : List ByteArray} {k : Nat} (h : goneTo l L k ≠ 0) : ∀ m, k ≤ m → goneTo l L m = goneTo l L k
  | 0, hk => by rw [show k = 0 by omega]
  | m + 1, hk => by
    by_cases e : k = m + 1
    · rw [e]
    · have ih := goneTo_stays (k := k) h m (by omega)
      rw [goneTo, ih, if_neg h]
theorem goneTo_bad {l : List Task} {L : List ByteArray} {k : Nat} (hk : k < L.length) (h : goneTo l L k = 0) (hp : pl l L[k] < 0) : goneTo l L L.length = 9 := by
  have hg : L.getD k default = L[k] := by rw [List.getD_eq_getElem?_getD, List.getElem?_eq_getElem hk]; rfl
  have h1 : goneTo l L (k + 1) = 9 := by rw [goneTo, if_pos h, hg, if_pos hp]
  rw [goneTo_stays (k := k + 1) (by rw [h1]; decide) _ (by omega), h1]
theorem goneTo_twice {l : List Task} {L : List ByteArray} {k : Nat} (hk : k < L.length) (h : goneTo l L k = 0) (hp : ¬ pl l L[k] < 0) (ht : L[k] ∈ L.take k) : goneTo l L L.length = 10 := by
  have hg : L.getD k default = L[k] := by rw [List.getD_eq_getElem?_getD, List.getElem?_eq_getElem hk]; rfl
  have h1 : goneTo l L (k + 1) = 10 := by rw [goneTo, if_pos h, hg, if_neg hp, if_pos ht]
  rw [goneTo_stays (k := k + 1) (by rw [h1]; decide) _ (by omega), h1]
theorem goneTo_ok {l : List Task} {L : List ByteArray} {k : Nat} (hk : k < L.length) (h : goneTo l L k = 0) (hp : ¬ pl l L[k] < 0) (ht : L[k] ∉ L.take k) : goneTo l L (k + 1) = 0 := by
  have hg : L.getD k default = L[k] := by rw [List.getD_eq_getElem?_getD, List.getElem?_eq_getElem hk]; rfl
  rw [goneTo, if_pos h, hg, if_neg hp, if_neg ht]

/-- The datum of the set of the first j names. -/
structure GoneD (L : List ByteArray) (j : Nat) (D : DataW Unit) : Prop where
  has : ∀ s, Maps.has D (keyS s) = decide (s ∈ L.take j)
def GoneMap (w : World) (b : Nat) (L : List ByteArray) (j : Nat) : Prop := ∃ D, w.ownsMap Try.prog 9 (unitElem (H := Unit)) b j D ∧ GoneD L j D
theorem GoneD.start (L : List ByteArray) : GoneD L 0 (.map []) := ⟨fun s => by simp [Maps.has]⟩
theorem GoneD.step {L : List ByteArray} {j : Nat} {D : DataW Unit} (h : GoneD L j D) (hj : j < L.length) (hm : IsMap D) : GoneD L (j + 1) (D.put (keyS L[j]) (.agg [])) := by
  refine ⟨fun s => ?_⟩
  rw [take_snoc L j hj]
  by_cases e : s = L[j]
  · subst e
    rw [Maps.has_put_same hm (keyS_key _)]
    exact (decide_eq_true (List.mem_append_right _ (List.mem_singleton.2 rfl))).symm
  · rw [Maps.has_put_other (fun e' => e (keyS_inj e')), h.has]
    exact decide_eq_decide.2 ⟨fun h => List.mem_append_left _ h, fun h => (List.mem_append.1 h).resolve_right fun h => e (List.mem_singleton.1 h)⟩
theorem zeroUnit (w : World) : (zeroValue 86).run Try.prog w = .ok (.agg #[]) w := by kernel_rfl
theorem GoneMap.kept {w w' : World} {b : Nat} {L : List ByteArray} {j : Nat} (h : GoneMap w b L j) {row : Option Nat} (hg : w.grownBy w' row) (hne : some b ≠ row) : GoneMap w' b L j := by
  obtain ⟨D, hown, hD⟩ := h
  exact ⟨D, hown.kept hg hne, hD⟩
theorem GoneMap.lt {w : World} {b : Nat} {L : List ByteArray} {j : Nat} (h : GoneMap w b L j) : b < w.heap.size := by
  obtain ⟨D, hown, -⟩ := h
  exact hown.lt
theorem GoneMap.below {w w' : World} {b : Nat} {L : List ByteArray} {j : Nat} (h : GoneMap w b L j) (hb : Below w.heap.size w w') : GoneMap w' b L j := h.kept (grown_below (row := none) hb) (by simp)

theorem entersGone : ∀ args w, (callFunc 60 args).run Try.prog w = .ok (.enter 60 args) w := enters_of Try.func60 (by kernel_rfl) rfl
set_option maxHeartbeats 1000000 in
theorem goneClosure (x : ByteArray) (b P : Nat) (L : List ByteArray) (w : World) (hx : x.size ≤ maxLen) (hm : GoneMap w b L L.length) (hP : w.cell? ⟨P, 0, none⟩ = some (.map (some b))) :
    Calls Try.prog 60 #[.string x, .pointer (some ⟨P, 0, none⟩)] w fun e w' => e = .returned (.bool (decide (x ∈ L))) ∧ Below w.heap.size w w' := by
  obtain ⟨D, hown, hD⟩ := hm
  have hh := hD.has x
  rw [List.take_length] at hh
  have hkey := keyOf_s hx
  have HH := Lib.hid hh
  clear hh hD
  go_enter Try.func60, Try.ntmps60
  go_wp2_with (at_lookup; refine wpList_lookup_own_unit _ rfl _ _ 85 rfl 9 86 keyLaw Try.underlying85 (zeroUnit _) b L.length D rfl hown _ _ rfl hkey ?_)
  go_ret
  exact ⟨by rw [HH.out]; rfl, (Below.refl _ _).alloc (Nat.le_refl _) _⟩

set_option maxHeartbeats 1000000 in
theorem refIndex (v : Value) (L : List ByteArray) (s : ByteArray) (w : World) (B : Nat) (hl : StrsAt w B v L) :
    Calls Try.prog 62 #[v, .string s] w fun e w' => e = .returned (.int .i64 (idxOf (L.findIdx? fun t => decide (t = s)))) ∧ w = w' := by
  obtain ⟨A, c, rfl, hc1, hc2, hcell⟩ := hl.open_
  unfold maxLen at hc2
  go_enter Try.func62, Try.ntmps62
  go_wp2
  go_loopw [5] (fun x wr => ∃ j : Nat, j ≤ L.length ∧ x = .int .i64 j ∧ ((L.take j).findIdx? fun t => decide (t = s)) = none ∧ w = wr) (fun x _ => L.length - (intOf x).toNat)
  case atStart => exact ⟨0, Nat.zero_le _, rfl, by simp, rfl⟩
  case round =>
    obtain ⟨j, hj, rfl, hnm, rfl⟩ := hrel
    have Hnm := Lib.hid hnm
    clear hnm
    by_cases hlt : j < L.length
    · obtain ⟨b, off, rfl, hb, hcell⟩ := hcell j hlt
      have h0 := hcell j hlt
      clear hcell
      by_cases hq : L[j] = s
      · have ht : (L[j].toList == s.toList) = true := by rw [str_beq]; simpa using hq
        go_wp2
        go_ret
        exact ⟨by rw [find_hit Hnm.out hlt (by simpa using hq)]; rfl, rfl⟩
      · have ht : (L[j].toList == s.toList) = false := by rw [str_beq]; simpa using hq
        go_wp2
        go_roundw
        case rel => exact ⟨j + 1, by omega, by go_num, find_miss Hnm.out hlt (by simpa using hq), by trivial⟩
        case measure => simp [intOf]; omega
    · have hje : j = L.length := by omega
      subst hje
      go_wp2
      go_ret
      exact ⟨by rw [← List.take_length (l := L), Hnm.out]; rfl, rfl⟩

end Go.Proofs.Ytfcfphamecbcgaa

/- replan.Without. -/
namespace Go.Proofs.Ytfcfphamecbcgaa
open Go.RowKit Go.Shelf Go.WideMaps Go.Maps

/-- The tasks so far. -/
structure WoSt (W w : World) (l : List Task) (L : List ByteArray) (mb P : Nat) (k : Nat) (ov : Value) (ms : List Task) : Prop where
  out : w.ownsRow W.heap.size 38 5 ov ms.length (ms.flatMap Task.cells)
  strs : ∀ t ∈ ms, w.ownsRow W.heap.size 9 1 t.bv t.bef.length (t.bef.map Value.string)
  ok : ∀ t ∈ ms, t.ok
  norm : norms ms = ((l.take k).filter fun t => !decide (t.name ∈ L)).map (wTask L)
  map : GoneMap w mb L L.length
  P0 : Blk w P 85 #[.map (some mb)]
  mlt : mb < W.heap.size
  bel : Below W.heap.size W w
section
variable {W w w' : World} {l : List Task} {L : List ByteArray} {mb P k : Nat} {ov nv : Value} {ms : List Task} {t : Task}
theorem WoSt.below (h : WoSt W w l L mb P k ov ms) (hb : Below w.heap.size w w') : WoSt W w' l L mb P k ov ms :=
  ⟨own_past h.out hb, fun t ht => own_past (h.strs t ht) hb, h.ok, h.norm, h.map.below hb, h.P0.below hb h.P0.lt, h.mlt, h.bel.trans (hb.mono h.bel.size)⟩
theorem WoSt.short (h : WoSt W w l L mb P k ov ms) : ms.length ≤ l.length := by
  have h1 := norms_len ms
  rw [h.norm, List.length_map] at h1
  have h2 := List.length_filter_le (fun t => !decide (t.name ∈ L)) (l.take k)
  rw [List.length_take] at h2
  omega
theorem without_snoc (hk : k < l.length) : ((l.take (k + 1)).filter fun t => !decide (t.name ∈ L)).map (wTask L) = ((l.take k).filter fun t => !decide (t.name ∈ L)).map (wTask L) ++ if (!decide (l[k].name ∈ L)) = true then [wTask L l[k]] else [] := by
  rw [filter_snoc hk, List.map_append]
  congr 1
  split <;> rfl
theorem WoSt.skip (h : WoSt W w l L mb P k ov ms) (hk : k < l.length) (hl : decide (l[k].name ∈ L) = true) : WoSt W w l L mb P (k + 1) ov ms :=
  ⟨h.out, h.strs, h.ok, by rw [without_snoc hk, hl, h.norm]; simp, h.map, h.P0, h.mlt, h.bel⟩
theorem WoSt.push (h : WoSt W w l L mb P k ov ms) (hk : k < l.length) (hl : decide (l[k].name ∈ L) = false) (hgrow : w.grownBy w' ov.ownBlock) (ho : w'.ownsRow W.heap.size 38 5 nv (ms.length + 1) ((ms ++ [t]).flatMap Task.cells))
    (hs : w.ownsRow W.heap.size 9 1 t.bv t.bef.length (t.bef.map Value.string)) (hok : t.ok) (hn : t.norm = wTask L l[k]) : WoSt W w' l L mb P (k + 1) nv (ms ++ [t]) := by
  have hgr : Below W.heap.size W w' := h.bel.grown hgrow h.bel.size (fun k hk => (h.out.lt k hk).1)
  have hkp : ∀ {e : TypeId} {n : Nat} {x : Value} {xs : List Value}, e ≠ 38 → w.ownsRow W.heap.size e 1 x n xs → w'.ownsRow W.heap.size e 1 x n xs := fun he hx => hx.kept hgrow (own_ne hx h.out he)
  refine ⟨by rw [List.length_append, List.length_singleton]; exact ho, fun t' ht' => ?_, fun t' ht' => ?_, ?_, h.map.kept hgrow (fun e => ?_), h.P0.kept hgrow (h.P0.ne_own h.out (by decide)), h.mlt, hgr⟩
  · rcases List.mem_append.1 ht' with ht' | ht'
    · exact hkp (by decide) (h.strs t' ht')
    · rw [List.mem_singleton.1 ht']; exact hkp (by decide) hs
  · rcases List.mem_append.1 ht' with ht' | ht'
    · exact h.ok t' ht'
    · rw [List.mem_singleton.1 ht']; exact hok
  · rw [without_snoc hk, hl, if_pos (show (!false) = true from rfl), ← h.norm]
    unfold norms
    rw [List.map_append, List.map_singleton, hn]
  · have h1 := (h.out.lt mb e.symm).1
    have h2 := h.mlt
    omega
theorem WoSt.tasks (h : WoSt W w l L mb P k ov ms) : TasksAt w w.heap.size ov ms :=
  TasksAt.of_own h.out (fun t ht => RowAt.of_own (h.strs t ht)) (Nat.le_refl _) h.ok
end

/-- Whether a name is among these. -/
def goneL (L : List ByteArray) (x : ByteArray) : Bool := decide (x ∈ L)
set_option maxRecDepth 100000 in
set_option maxHeartbeats 8000000 in
theorem rpWithoutTop (v u : Value) (l : List Task) (L : List ByteArray) (w : World) (hl : TasksAt w w.heap.size v l) (hs : StrsAt w w.heap.size u L) (hz : ∀ x ∈ L, x.size ≤ maxLen) :
    Calls Try.prog 24 #[v, u] w (WithoutPost l L w) := by
  have hV := schedValid v l 0 0 w hl
  have HT : Hid (∀ w1, Below w.heap.size w w1 → TasksAt w1 w1.heap.size v l) := fun w1 hb => (hl.below hb (Nat.le_refl _)).mono hb.size
  have HTw : Hid (∀ w1, Below w.heap.size w w1 → TasksAt w1 w.heap.size v l) := fun w1 hb => hl.below hb (Nat.le_refl _)
  have HOk : Hid (∀ k (_ : k < l.length), l[k].ok) := fun k hk => hl.ok hk
  have HZ := Lib.hid hz
  have HFind : Hid (∀ x w1, Below w.heap.size w w1 → Calls Try.prog 47 #[v, .string x] w1 fun e w'' => e = .returned (.int .i64 (pl l x)) ∧ Below w1.heap.size w1 w'') := fun x w1 hb => rpFind v l x w1 (HT.out w1 hb)
  obtain ⟨A, cc, rfl, hA1, hA2, -⟩ := hl.open_
  obtain ⟨A1, c1, rfl, hB1, hB2, hBc⟩ := hs.open_
  have HC : Hid (∀ k (hk : k < L.length), ∃ b1 off1, A1 = some ⟨b1, off1, none⟩ ∧ ∀ w', Below w.heap.size w w' → w'.cell? ⟨b1, off1 + k, none⟩ = some (.string L[k])) := fun k hk => by
    obtain ⟨b1, off1, e, hb, hc⟩ := hBc k hk
    exact ⟨b1, off1, e, fun w' hb' => (hb'.cell (p := ⟨b1, off1 + k, none⟩) hb).trans (hc k hk)⟩
  have hB3 := hB2
  unfold maxLen at hA2 hB3
  have hv0 : validB l 0 0 = rightR l := by unfold validB betweenB; cases rightR l <;> rfl
  rw [hv0] at hV
  clear hl hs hz hBc hv0
  have hmm := @run_makeMap Try.prog
  go_enter Try.func24, Try.ntmps24
  go_wp2_with fail
  refine hV.mono ?_
  rintro e w1 ⟨rfl, hb1⟩
  clear hV
  cases hr : rightR l with
  | false =>
    have HE : Hid (withoutE l L = 1) := by unfold Hid withoutE; rw [hr, if_neg (by simp)]
    clear hr
    go_wp2_with fail
    refine bodyPost_ret (results_tmp2 rfl _ _ _) (by rfl) ?_
    exact ⟨hb1, .inl ⟨by rw [HE.out]; decide, by rw [HE.out]; rfl⟩⟩
  | true =>
    have hR : RightT l := (right_iff l).1 hr
    have h8 := hR.len
    have HR := Lib.hid hR
    have HE : Hid (withoutE l L = goneTo l L L.length) := by unfold Hid withoutE; rw [hr, if_pos rfl]
    clear hr hR
    go_wp2_with fail
    have Hbm : Below w.heap.size w ((w1.alloc (.map #[] 0)).alloc (.cells #[.map (some w1.heap.size)] 85)) := (hb1.alloc hb1.size _).alloc (by have := hb1.size; simp; omega) _
    have HM0 : Hid (GoneMap ((w1.alloc (.map #[] 0)).alloc (.cells #[.map (some w1.heap.size)] 85)) w1.heap.size L 0) := ⟨_, (World.ownsMap_made w1 _ _ _).alloc _, GoneD.start L⟩
    have HP0 : Hid (Blk ((w1.alloc (.map #[] 0)).alloc (.cells #[.map (some w1.heap.size)] 85)) (w1.heap.size + 1) 85 #[.map (some w1.heap.size)]) := by
      have := Blk.new (w1.alloc (.map #[] 0)) 85 #[.map (some w1.heap.size)]
      unfold Hid
      simpa using this
    have hm0 : w.heap.size ≤ w1.heap.size := hb1.size
    generalize (w1.alloc (.map #[] 0)).alloc (.cells #[.map (some w1.heap.size)] 85) = w2 at *
    clear hb1
    generalize w1.heap.size = mb at *
    go_loopw [21] (fun ix wr => ∃ k : Nat, k ≤ L.length ∧ ix = .int .i64 k ∧ Hid (goneTo l L k = 0) ∧ Hid (GoneMap wr mb L k) ∧ Hid (Blk wr (mb + 1) 85 #[.map (some mb)]) ∧ Below w.heap.size w wr) (fun ix _ => L.length - (intOf ix).toNat)
    case atStart => exact ⟨0, Nat.zero_le _, rfl, rfl, HM0, HP0, Hbm⟩
    case round =>
      clear HM0 HP0 Hbm
      obtain ⟨k, hk, rfl, HG, HM, HP, hbel⟩ := hrel
      by_cases hkl : k < L.length
      · obtain ⟨b1, off1, rfl, hsc⟩ := HC.out k hkl
        have h0 := hsc wr hbel
        have p0 := HP.out.cell 0
        simp only [List.getElem?_toArray, List.getElem?_cons_zero] at p0
        obtain ⟨D, hown, hD⟩ := HM.out
        have hkey := keyOf_s (HZ.out _ (List.getElem_mem hkl))
        have HH := Lib.hid (hD.has L[k])
        have HSt := Lib.hid (hD.step hkl hown.isMap)
        have hF := HFind.out L[k]
        have HBad := Lib.hid (goneTo_bad (l := l) hkl HG.out)
        have HTwi := Lib.hid (goneTo_twice (l := l) hkl HG.out)
        have HGo := Lib.hid (goneTo_ok (l := l) hkl HG.out)
        have i1 : (0 : Int) ≤ (k : Int) := Int.natCast_nonneg _
        have i2 : (k : Int) < (L.length : Int) := by omega
        have hba : Below w.heap.size w (wr.alloc (.cells #[] 86)) := hbel.alloc hbel.size _
        clear hsc hD
        generalize hx : pl l L[k] = x at *
        clear hx
        go_wp2_with (at_lookup; refine wpList_lookup_own_unit _ rfl _ _ 85 rfl 9 86 keyLaw Try.underlying85 (zeroUnit _) mb k D rfl hown _ _ rfl hkey ?_)
        refine (hF _ hba).mono ?_
        rintro e w4 ⟨rfl, hb4⟩
        have hbx4 := hba.trans (hb4.mono hba.size)
        have HK4 : Below wr.heap.size wr w4 := ((Below.refl _ _).alloc (Nat.le_refl _) _).trans (hb4.mono (by simp))
        have hown4 := hown.kept (grown_below (row := none) HK4) (by simp)
        have HP4 := Lib.hid (HP.out.below HK4 HP.out.lt)
        have p4 := HP4.out.cell 0
        simp only [List.getElem?_toArray, List.getElem?_cons_zero] at p4
        clear hF hba hb4 HK4 hown p0 h0 HP HM hbel
        generalize Maps.has D (keyS L[k]) = q at *
        by_cases hxn : x < 0
        · have hd : decide (x < 0) = true := decide_eq_true hxn
          have HE' : Hid (withoutE l L = 9) := by unfold Hid; rw [HE.out]; exact HBad.out hxn
          clear hxn HE
          go_wp2_with fail
          refine bodyPost_ret (results_tmp2 rfl _ _ _) (by rfl) ?_
          exact ⟨hbx4, .inl ⟨by rw [HE'.out]; decide, by rw [HE'.out]; rfl⟩⟩
        · have hd : decide (x < 0) = false := decide_eq_false hxn
          cases q with
          | true =>
            have HE' : Hid (withoutE l L = 10) := by unfold Hid; rw [HE.out]; exact HTwi.out (by omega) (of_decide_eq_true HH.out.symm)
            clear hxn HE
            go_wp2_with fail
            refine bodyPost_ret (results_tmp2 rfl _ _ _) (by rfl) ?_
            exact ⟨hbx4, .inl ⟨by rw [HE'.out]; decide, by rw [HE'.out]; rfl⟩⟩
          | false =>
            have HG' := Lib.hid (HGo.out (by omega) (of_decide_eq_false HH.out.symm))
            clear hxn HG HBad HTwi HGo
            go_wp2_with (at_mapUpdate; refine wpList_mapUpdate_own _ rfl _ _ _ 85 rfl 9 86 keyLaw Try.underlying85 _ mb k _ rfl hown4 (by unfold maxLen; omega) _ _ _ rfl rfl hkey (.agg []) [] unitElem_mk ?_; intro w5 hown5 hgrow5)
            have HP5 := Lib.hid (HP4.out.kept hgrow5 (by simp))
            have hb5 := hbx4.grown hgrow5 hbx4.size (fun k hk => by cases hk; exact hm0)
            have HM5 : Hid (GoneMap w5 mb L (k + 1)) := ⟨_, hown5, HSt.out⟩
            clear hown5 hgrow5 hown4
            go_wp2_with fail
            go_roundw
            case rel => exact ⟨k + 1, by omega, by go_num, HG', HM5, HP5, hb5⟩
            case measure => simp [intOf]; omega
      · obtain rfl : k = L.length := by omega
        have HE2 : Hid (withoutE l L = 0) := by unfold Hid; rw [HE.out]; exact HG.out
        have hsz := hbel.size
        have HS0 : Hid (WoSt wr wr l L mb (mb + 1) 0 (.slice none 0 0) []) := ⟨World.ownsRow_nil _ _ _ _, by simp, by simp, rfl, HM.out, HP.out, HM.out.lt, Below.refl _ _⟩
        clear HG HM HP HE hkl hk
        go_wp2_with fail
        obtain ⟨w3, rfl⟩ : ∃ w3, w3 = wr := ⟨wr, rfl⟩
        go_loopw [45, 12] (fun ix ov wr => ∃ (k : Nat) (ms : List Task) (o2 : Value), k ≤ l.length ∧ ix = .int .i64 k ∧ o2 = ov ∧ Hid (WoSt w3 wr l L mb (mb + 1) k o2 ms)) (fun ix _ _ => l.length - (intOf ix).toNat)
        case atStart => exact ⟨0, [], _, Nat.zero_le _, rfl, rfl, HS0⟩
        case round =>
          clear HS0
          obtain ⟨k, ms, o2, hk, rfl, rfl, HSS⟩ := hrel
          have k1 : (0 : Int) ≤ (k : Int) := Int.natCast_nonneg _
          by_cases hkl : k < l.length
          · have hbw := hbel.trans (HSS.out.bel.mono hsz)
            have hTr := HTw.out _ hbw
            obtain ⟨b0, off0, rfl, hb0, hct⟩ := hTr.cells hkl
            obtain ⟨t0, t1, t2, t3, t4⟩ := hct k hkl
            obtain ⟨hm1, hm2, -⟩ := hTr.open_bef hkl
            unfold maxLen at hm2
            have hb8 : l[k].bef.length ≤ 1000 := by
              have := (((befOK_iff l).1 HR.out.bef _ (List.getElem_mem hkl))).le
              omega
            have HStr : Hid (∀ w', Below w.heap.size w w' → StrsAt w' w'.heap.size l[k].bv l[k].bef) := fun w' hb => (HT.out w' hb).bef hkl
            have hokk := HOk.out k hkl
            have i2 : (k : Int) < (l.length : Int) := by omega
            have hbG : Below wr.heap.size wr (wr.alloc (.cells #[.string l[k].name, .int .i64 l[k].len, .int .i64 l[k].crew, .int .i64 l[k].pow, .slice l[k].ba l[k].bef.length l[k].bc] 38)) := (Below.refl _ _).alloc (Nat.le_refl _) _
            have HG := Lib.hid (Blk.new wr 38 #[.string l[k].name, .int .i64 l[k].len, .int .i64 l[k].crew, .int .i64 l[k].pow, .slice l[k].ba l[k].bef.length l[k].bc])
            have HKeep : Hid (∀ w', Below wr.heap.size wr w' → WoSt w3 w' l L mb (mb + 1) k o2 ms) := fun w' hb => HSS.out.below hb
            have HCl : Hid (∀ x w', x.size ≤ maxLen → Below wr.heap.size wr w' → Calls Try.prog 60 #[.string x, .pointer (some ⟨mb + 1, 0, none⟩)] w' fun e w'' => e = .returned (.bool (goneL L x)) ∧ Below w'.heap.size w' w'') := fun x w' hx hb => by
              have hK := HKeep.out w' hb
              have p0 := hK.P0.cell 0
              simp only [List.getElem?_toArray, List.getElem?_cons_zero] at p0
              exact goneClosure x mb (mb + 1) L w' hx hK.map p0
            have HWo : Hid (∀ w', Below wr.heap.size wr w' → Calls Try.prog 61 #[.slice l[k].ba l[k].bef.length l[k].bc, .func (.func 60) #[] #[.pointer (some ⟨mb + 1, 0, none⟩)]] w' fun e w'' =>
                (∃ A8 cap8, e = .returned (.slice A8 (l[k].bef.filter fun x => !goneL L x).length cap8) ∧ w''.ownsRow w3.heap.size 9 1 (.slice A8 (l[k].bef.filter fun x => !goneL L x).length cap8) (l[k].bef.filter fun x => !goneL L x).length ((l[k].bef.filter fun x => !goneL L x).map Value.string)) ∧ Below w'.heap.size w' w'') := fun w' hb => by
              have hK := HKeep.out w' hb
              refine (rpWithout l[k].bv l[k].bef 60 #[.pointer (some ⟨mb + 1, 0, none⟩)] (goneL L) entersGone w' (HStr.out w' (hbel.trans (hK.bel.mono hsz))) hb8 (fun x hx w'' hb'' => HCl.out x w'' (hokk.bef x hx) (hb.trans (hb''.mono hb.size)))).mono ?_
              rintro e w'' ⟨⟨A8, cap8, he, ho⟩, hb2⟩
              exact ⟨⟨A8, cap8, he, own_mono ho hK.bel.size⟩, hb2⟩
            have hCn := HCl.out l[k].name _ hokk.name hbG
            have HNorm : Hid (∀ A8 cap8, (⟨l[k].name, l[k].len, l[k].crew, l[k].pow, A8, cap8, l[k].bef.filter fun x => !goneL L x⟩ : Task).norm = wTask L l[k]) := fun A8 cap8 => rfl
            have HOkT : Hid (∀ A8 cap8, (⟨l[k].name, l[k].len, l[k].crew, l[k].pow, A8, cap8, l[k].bef.filter fun x => !goneL L x⟩ : Task).ok) := fun A8 cap8 =>
              ⟨hokk.name, fun x hx => hokk.bef x (List.mem_filter.1 hx).1, hokk.len, hokk.crew, hokk.pow⟩
            have hms := HSS.out.short
            have hGx := HG.out.lt
            have HSkip : Hid (decide (l[k].name ∈ L) = true → ∀ w', Below wr.heap.size wr w' → WoSt w3 w' l L mb (mb + 1) (k + 1) o2 ms) := fun h w' hb => (HSS.out.skip hkl h).below hb
            clear hct hTr hokk hbw HStr HCl HSS
            cases hq : goneL L l[k].name with
            | true =>
              have HSk := Lib.hid (HSkip.out hq)
              rw [hq] at hCn
              clear hq HSkip HWo HNorm HOkT
              go_wp2_with fail
              refine hCn.mono ?_
              rintro e w5 ⟨rfl, hb5⟩
              have HS5 := Lib.hid (HSk.out w5 (hbG.trans (hb5.mono (by simp))))
              clear hCn HKeep HG hbG HSk
              go_wp2_with fail
              go_roundw
              case rel => exact ⟨k + 1, ms, _, by omega, by go_num, rfl, HS5⟩
              case measure => simp [intOf]; omega
            | false =>
              rw [hq] at hCn
              go_wp2_with fail
              refine hCn.mono ?_
              rintro e w5 ⟨rfl, hb5⟩
              have hbx : Below wr.heap.size wr w5 := hbG.trans (hb5.mono (by simp))
              have HG5 := Lib.hid (HG.out.below hb5 HG.out.lt)
              have u0 := HG5.out.cell 0
              have u1 := HG5.out.cell 1
              have u2 := HG5.out.cell 2
              have u3 := HG5.out.cell 3
              have u4 := HG5.out.cell 4
              simp only [List.getElem?_toArray, List.getElem?_cons_succ, List.getElem?_cons_zero] at u0 u1 u2 u3 u4
              have HPush : Hid (∀ (w8 w9 : World) (nv : Value) (t : Task), Below wr.heap.size wr w8 → w8.grownBy w9 o2.ownBlock → w9.ownsRow w3.heap.size 38 5 nv (ms.length + 1) ((ms ++ [t]).flatMap Task.cells) →
                  w8.ownsRow w3.heap.size 9 1 t.bv t.bef.length (t.bef.map Value.string) → t.ok → t.norm = wTask L l[k] → WoSt w3 w9 l L mb (mb + 1) (k + 1) nv (ms ++ [t])) := fun w8 w9 nv t hb hg ho hs hok hn => (HKeep.out w8 hb).push hkl hq hg ho hs hok hn
              generalize hGz : wr.heap.size = G at *
              have HGz := Lib.hid hGz
              clear hGz hb5 HSkip hCn HG hq hbG hGx
              generalize (l[k].bef.filter fun x => !goneL L x) = bf at *
              go_wp2_with fail
              clear u0 u1 u2 u3 u4
              refine (HWo.out _ hbx).mono ?_
              rintro e w8 ⟨⟨A8, cap8, rfl, hown8⟩, hb8'⟩
              have hGl5 := HG5.out.lt
              have HG8 := Lib.hid (HG5.out.below hb8' hGl5)
              have hbx8 : Below G wr w8 := hbx.trans (hb8'.mono (Nat.le_of_lt hGl5))
              have HOw8 := Lib.hid hown8
              have u0 := HG8.out.cell 0
              have u1 := HG8.out.cell 1
              have u2 := HG8.out.cell 2
              have u3 := HG8.out.cell 3
              have u4 := HG8.out.cell 4
              have f4 := HG8.out.frozen 4
              simp only [List.getElem?_toArray, List.getElem?_cons_succ, List.getElem?_cons_zero] at u0 u1 u2 u3 u4
              have HG9 : Hid (Blk (w8.setCell ⟨G, 4, none⟩ (.slice A8 bf.length cap8)) G 38 #[.string l[k].name, .int .i64 l[k].len, .int .i64 l[k].crew, .int .i64 l[k].pow, .slice A8 bf.length cap8]) := by
                have := HG8.out.set_ 4 (.slice A8 bf.length cap8)
                unfold Hid
                simpa using this
              have hb9 : Below G wr (w8.setCell ⟨G, 4, none⟩ (.slice A8 bf.length cap8)) := hbx8.setCell (p := ⟨G, 4, none⟩) (Nat.le_refl _) _
              have x0 := HG9.out.cell 0
              have x1 := HG9.out.cell 1
              have x2 := HG9.out.cell 2
              have x3 := HG9.out.cell 3
              have x4 := HG9.out.cell 4
              simp only [List.getElem?_toArray, List.getElem?_cons_succ, List.getElem?_cons_zero] at x0 x1 x2 x3 x4
              have HS9 := Lib.hid (HKeep.out _ hb9)
              have hOs : (w8.setCell ⟨G, 4, none⟩ (.slice A8 bf.length cap8)).ownsRow w3.heap.size 9 1 (.slice A8 bf.length cap8) bf.length (bf.map Value.string) := own_setBlk HOw8.out HG8.out (by decide)
              have HOs := Lib.hid hOs
              have HNw : Hid (Blk ((w8.setCell ⟨G, 4, none⟩ (.slice A8 bf.length cap8)).alloc (.cells #[.string l[k].name, .int .i64 l[k].len, .int .i64 l[k].crew, .int .i64 l[k].pow, .slice A8 bf.length cap8] 38)) w8.heap.size 38 (Task.cells ⟨l[k].name, l[k].len, l[k].crew, l[k].pow, A8, cap8, bf⟩).toArray) := by
                have e : (w8.setCell ⟨G, 4, none⟩ (.slice A8 bf.length cap8)).heap.size = w8.heap.size := by simp [World.setCell]
                unfold Hid
                rw [← e]
                exact Blk.new _ _ _
              have hGG : G ≤ w8.heap.size := by have := HG8.out.lt; omega
              clear hown8 hOs hb8' hbx hbx8 HG5 hGl5
              go_wp2_with (at_builtin; refine wpList_appT _ rfl (.tmp 59) (.tmp 61) rfl w3.heap.size _ ms (HS9.out.out.alloc _) (Nat.le_trans HS9.out.bel.size (by simp)) ⟨l[k].name, l[k].len, l[k].crew, l[k].pow, A8, cap8, bf⟩ w8.heap.size HNw.out rfl rfl (by omega) ?_; intro g9 cap9 w9 hown9 hgr9)
              have HP9 := Lib.hid (HPush.out _ w9 _ ⟨l[k].name, l[k].len, l[k].crew, l[k].pow, A8, cap8, bf⟩ (hb9.alloc (by simp [World.setCell]; exact hGG) _) hgr9 hown9 (HOs.out.alloc _) (HOkT.out _ _) (HNorm.out _ _))
              clear hown9 hgr9 u0 u1 u2 u3 u4 f4 x0 x1 x2 x3 x4
              go_wp2_with fail
              go_roundw
              case rel => exact ⟨k + 1, _, _, by omega, by go_num, rfl, HP9⟩
              case measure => simp [intOf]; omega
          · obtain rfl : k = l.length := by omega
            have HP := Lib.hid HSS.out.tasks
            have HN : Hid (norms ms = withoutN l L) := by
              have := HSS.out.norm
              rw [List.take_length] at this
              exact this
            have HB := Lib.hid (hbel.trans (HSS.out.bel.mono hsz))
            go_wp2_with fail
            refine bodyPost_ret (results_tmp2 rfl _ _ _) (by rfl) ?_
            exact ⟨HB.out, .inr ⟨HE2.out, _, ms, rfl, HP.out, HN.out⟩⟩

end Go.Proofs.Ytfcfphamecbcgaa

/- The reference's Without of layer 45. -/
namespace Go.Proofs.Ytfcfphamecbcgaa
open Go.RowKit Go.Shelf

/-- The first place of a name among these. -/
def ixL (L : List ByteArray) (s : ByteArray) : Int := idxOf (L.findIdx? fun t => decide (t = s))
theorem ixL_le {L : List ByteArray} {s : ByteArray} {k : Nat} (hk : k < L.length) (e : L[k] = s) : 0 ≤ ixL L s ∧ ixL L s ≤ k := by
  unfold ixL
  cases h : L.findIdx? fun t => decide (t = s) with
  | none =>
    rw [List.findIdx?_eq_none_iff] at h
    have := h _ (List.getElem_mem hk)
    rw [decide_eq_false_iff_not] at this
    exact absurd e this
  | some i =>
    rw [List.findIdx?_eq_some_iff_getElem] at h
    obtain ⟨hi, hp, hq⟩ := h
    refine ⟨by simp [idxOf], ?_⟩
    by_cases hki : k < i
    · have := hq k hki
      simp [e] at this
    · show (i : Int) ≤ k
      omega
theorem ixL_get {L : List ByteArray} {s : ByteArray} (h : 0 ≤ ixL L s) : ∃ i, ∃ hi : i < L.length, ixL L s = (i : Int) ∧ L[i] = s := by
  unfold ixL at h ⊢
  cases e : L.findIdx? fun t => decide (t = s) with
  | none => rw [e] at h; simp [idxOf] at h
  | some i =>
    rw [List.findIdx?_eq_some_iff_getElem] at e
    obtain ⟨hi, hp, -⟩ := e
    exact ⟨i, hi, rfl, of_decide_eq_true hp⟩
theorem ixL_mem (L : List ByteArray) (s : ByteArray) : decide (0 ≤ ixL L s) = goneL L s := by
  unfold goneL
  refine decide_eq_decide.2 ⟨fun h => ?_, fun h => ?_⟩
  · obtain ⟨i, hi, -, e⟩ := ixL_get h
    exact e ▸ List.getElem_mem hi
  · obtain ⟨i, hi, e⟩ := List.mem_iff_getElem.1 h
    exact (ixL_le hi e).1
theorem ixL_not (L : List ByteArray) (s : ByteArray) : decide (ixL L s < 0) = !goneL L s := by
  rw [← ixL_mem, ← decide_not]
  exact decide_eq_decide.2 (by omega)
theorem ixL_twice {L : List ByteArray} {k : Nat} (hk : k < L.length) : ixL L L[k] < (k : Int) ↔ L[k] ∈ L.take k := by
  refine ⟨fun h => ?_, fun h => ?_⟩
  · obtain ⟨i, hi, hx, e⟩ := ixL_get (ixL_le hk rfl).1
    rw [hx] at h
    have hik : i < k := by omega
    rw [← e, List.mem_take_iff_getElem]
    exact ⟨i, by omega, rfl⟩
  · obtain ⟨i, hi, e⟩ := List.mem_take_iff_getElem.1 h
    have := (ixL_le (show i < L.length by omega) e).2
    omega

/-- The tasks so far. -/
structure WoR (W w : World) (l : List Task) (L : List ByteArray) (k : Nat) (ov : Value) (ms : List Task) : Prop where
  out : w.ownsRow W.heap.size 38 5 ov ms.length (ms.flatMap Task.cells)
  strs : ∀ t ∈ ms, w.ownsRow W.heap.size 9 1 t.bv t.bef.length (t.bef.map Value.string)
  ok : ∀ t ∈ ms, t.ok
  norm : norms ms = ((l.take k).filter fun t => !decide (t.name ∈ L)).map (wTask L)
  bel : Below W.heap.size W w
section
variable {W w w' : World} {l : List Task} {L : List ByteArray} {k : Nat} {ov nv : Value} {ms : List Task} {t : Task}
theorem WoR.below (h : WoR W w l L k ov ms) (hb : Below w.heap.size w w') : WoR W w' l L k ov ms :=
  ⟨own_past h.out hb, fun t ht => own_past (h.strs t ht) hb, h.ok, h.norm, h.bel.trans (hb.mono h.bel.size)⟩
theorem WoR.short (h : WoR W w l L k ov ms) : ms.length ≤ l.length := by
  have h1 := norms_len ms
  rw [h.norm, List.length_map] at h1
  have h2 := List.length_filter_le (fun t => !decide (t.name ∈ L)) (l.take k)
  rw [List.length_take] at h2
  omega
theorem WoR.skip (h : WoR W w l L k ov ms) (hk : k < l.length) (hl : decide (l[k].name ∈ L) = true) : WoR W w l L (k + 1) ov ms :=
  ⟨h.out, h.strs, h.ok, by rw [without_snoc hk, hl, h.norm]; simp, h.bel⟩
theorem WoR.push (h : WoR W w l L k ov ms) (hk : k < l.length) (hl : decide (l[k].name ∈ L) = false) (hgrow : w.grownBy w' ov.ownBlock) (ho : w'.ownsRow W.heap.size 38 5 nv (ms.length + 1) ((ms ++ [t]).flatMap Task.cells))
    (hs : w.ownsRow W.heap.size 9 1 t.bv t.bef.length (t.bef.map Value.string)) (hok : t.ok) (hn : t.norm = wTask L l[k]) : WoR W w' l L (k + 1) nv (ms ++ [t]) := by
  have hgr : Below W.heap.size W w' := h.bel.grown hgrow h.bel.size (fun k hk => (h.out.lt k hk).1)
  have hkp : ∀ {e : TypeId} {n : Nat} {x : Value} {xs : List Value}, e ≠ 38 → w.ownsRow W.heap.size e 1 x n xs → w'.ownsRow W.heap.size e 1 x n xs := fun he hx => hx.kept hgrow (own_ne hx h.out he)
  refine ⟨by rw [List.length_append, List.length_singleton]; exact ho, fun t' ht' => ?_, fun t' ht' => ?_, ?_, hgr⟩
  · rcases List.mem_append.1 ht' with ht' | ht'
    · exact hkp (by decide) (h.strs t' ht')
    · rw [List.mem_singleton.1 ht']; exact hkp (by decide) hs
  · rcases List.mem_append.1 ht' with ht' | ht'
    · exact h.ok t' ht'
    · rw [List.mem_singleton.1 ht']; exact hok
  · rw [without_snoc hk, hl, if_pos (show (!false) = true from rfl), ← h.norm]
    unfold norms
    rw [List.map_append, List.map_singleton, hn]
theorem WoR.tasks (h : WoR W w l L k ov ms) : TasksAt w w.heap.size ov ms :=
  TasksAt.of_own h.out (fun t ht => RowAt.of_own (h.strs t ht)) (Nat.le_refl _) h.ok
end

set_option maxRecDepth 100000 in
set_option maxHeartbeats 8000000 in
theorem refGoneTop (v u : Value) (l : List Task) (L : List ByteArray) (w : World) (hl : TasksAt w w.heap.size v l) (hs : StrsAt w w.heap.size u L) :
    Calls Try.prog 25 #[v, u] w (WithoutPost l L w) := by
  have hRt := refRight v l w hl
  have HTw : Hid (∀ w1, Below w.heap.size w w1 → TasksAt w1 w.heap.size v l) := fun w1 hb => hl.below hb (Nat.le_refl _)
  have HOk := Lib.hid hl.2.2
  have HFind : Hid (∀ x w1, Below w.heap.size w w1 → Calls Try.prog 42 #[v, .string x] w1 fun e w'' => e = .returned (.int .i64 (pl l x)) ∧ w1 = w'') := fun x w1 hb => refFind v l x w1 w.heap.size (hl.below hb (Nat.le_refl _))
  have HIx : Hid (∀ x w1, Below w.heap.size w w1 → Calls Try.prog 62 #[u, .string x] w1 fun e w'' => e = .returned (.int .i64 (ixL L x)) ∧ w1 = w'') := fun x w1 hb => refIndex u L x w1 w.heap.size (hs.below hb (Nat.le_refl _))
  obtain ⟨A, cc, rfl, hA1, hA2, -⟩ := hl.open_
  obtain ⟨A1, c1, rfl, hB1, hB2, hBc⟩ := hs.open_
  have HC : Hid (∀ k (hk : k < L.length), ∃ b1 off1, A1 = some ⟨b1, off1, none⟩ ∧ ∀ w', Below w.heap.size w w' → w'.cell? ⟨b1, off1 + k, none⟩ = some (.string L[k])) := fun k hk => by
    obtain ⟨b1, off1, e, hb, hc⟩ := hBc k hk
    exact ⟨b1, off1, e, fun w' hb' => (hb'.cell (p := ⟨b1, off1 + k, none⟩) hb).trans (hc k hk)⟩
  unfold maxLen at hA2 hB2
  clear hl hs hBc
  go_enter Try.func25, Try.ntmps25
  go_wp2_with fail
  refine hRt.mono ?_
  rintro e w1 ⟨rfl, hb1⟩
  clear hRt
  cases hr : rightR l with
  | false =>
    have HE : Hid (withoutE l L = 1) := by unfold Hid withoutE; rw [hr, if_neg (by simp)]
    clear hr
    go_wp2_with fail
    refine bodyPost_ret (results_tmp2 rfl _ _ _) (by rfl) ?_
    exact ⟨hb1, .inl ⟨by rw [HE.out]; decide, by rw [HE.out]; rfl⟩⟩
  | true =>
    have hR : RightT l := (right_iff l).1 hr
    have h8 := hR.len
    have HR := Lib.hid hR
    have HE : Hid (withoutE l L = goneTo l L L.length) := by unfold Hid withoutE; rw [hr, if_pos rfl]
    clear hr hR
    go_wp2_with fail
    have Hb1 := Lib.hid hb1
    clear hb1
    go_loopw [6] (fun ix wr => ∃ k : Nat, k ≤ L.length ∧ ix = .int .i64 k ∧ Hid (goneTo l L k = 0) ∧ w1 = wr) (fun ix _ => L.length - (intOf ix).toNat)
    case atStart => exact ⟨0, Nat.zero_le _, rfl, rfl, rfl⟩
    case round =>
      obtain ⟨k, hk, rfl, HG, rfl⟩ := hrel
      by_cases hkl : k < L.length
      · obtain ⟨b1, off1, rfl, hsc⟩ := HC.out k hkl
        have h0 := hsc _ Hb1.out
        have hF := HFind.out L[k] _ Hb1.out
        have hI := HIx.out L[k] _ Hb1.out
        have HBad := Lib.hid (goneTo_bad (l := l) hkl HG.out)
        have HTwi := Lib.hid (goneTo_twice (l := l) hkl HG.out)
        have HGo := Lib.hid (goneTo_ok (l := l) hkl HG.out)
        have HT2 := Lib.hid (ixL_twice hkl)
        have i1 : (0 : Int) ≤ (k : Int) := Int.natCast_nonneg _
        have i2 : (k : Int) < (L.length : Int) := by omega
        clear hsc
        generalize hx : pl l L[k] = x at *
        clear hx
        generalize hy : ixL L L[k] = y at *
        clear hy
        by_cases hxn : x < 0
        · have hd : decide (x < 0) = true := decide_eq_true hxn
          have HE' : Hid (withoutE l L = 9) := by unfold Hid; rw [HE.out]; exact HBad.out hxn
          clear hxn HE hI
          go_wp2_with (go_at_call 42; refine hF.mono ?_; rintro e w' ⟨rfl, rfl⟩)
          refine bodyPost_ret (results_tmp2 rfl _ _ _) (by rfl) ?_
          exact ⟨Hb1.out, .inl ⟨by rw [HE'.out]; decide, by rw [HE'.out]; rfl⟩⟩
        · have hd : decide (x < 0) = false := decide_eq_false hxn
          by_cases hq : y < (k : Int)
          · have hd2 : decide (y < (k : Int)) = true := decide_eq_true hq
            have HE' : Hid (withoutE l L = 10) := by unfold Hid; rw [HE.out]; exact HTwi.out (by omega) (HT2.out.1 hq)
            clear hxn HE hq
            go_wp2_with (first
              | (go_at_call 42; refine hF.mono ?_; rintro e w' ⟨rfl, rfl⟩)
              | (go_at_call 62; refine hI.mono ?_; rintro e w' ⟨rfl, rfl⟩))
            refine bodyPost_ret (results_tmp2 rfl _ _ _) (by rfl) ?_
            exact ⟨Hb1.out, .inl ⟨by rw [HE'.out]; decide, by rw [HE'.out]; rfl⟩⟩
          · have hd2 : decide (y < (k : Int)) = false := decide_eq_false hq
            have HG' := Lib.hid (HGo.out (by omega) (fun h => hq (HT2.out.2 h)))
            clear hxn HG HBad HTwi HGo HT2 hq
            go_wp2_with (first
              | (go_at_call 42; refine hF.mono ?_; rintro e w' ⟨rfl, rfl⟩)
              | (go_at_call 62; refine hI.mono ?_; rintro e w' ⟨rfl, rfl⟩))
            go_roundw
            case rel => exact ⟨k + 1, by omega, by go_num, HG', by trivial⟩
            case measure => simp [intOf]; omega
      · obtain rfl : k = L.length := by omega
        have HE2 : Hid (withoutE l L = 0) := by unfold Hid; rw [HE.out]; exact HG.out
        have H0 : Hid (WoR w1 w1 l L 0 (.slice none 0 0) []) := ⟨World.ownsRow_nil _ _ _ _, by simp, by simp, rfl, Below.refl _ _⟩
        clear HG HE hkl hk
        have hsz := Hb1.out.size
        go_wp2_with fail
        obtain ⟨w3, rfl⟩ : ∃ w3, w3 = w1 := ⟨w1, rfl⟩
        go_loopw [8, 7] (fun ix ov wr => ∃ (k : Nat) (ms : List Task), k ≤ l.length ∧ ix = .int .i64 k ∧ Hid (WoR w3 wr l L k ov ms)) (fun ix _ _ => l.length - (intOf ix).toNat)
        case atStart => exact ⟨0, [], Nat.zero_le _, rfl, H0⟩
        case round =>
          clear H0
          obtain ⟨k, ms, hk, rfl, HSS⟩ := hrel
          have k1 : (0 : Int) ≤ (k : Int) := Int.natCast_nonneg _
          by_cases hkl : k < l.length
          · have HWr : Hid (Below w.heap.size w wr) := Hb1.out.trans (HSS.out.bel.mono hsz)
            have hTr := HTw.out wr HWr.out
            have hIk := HIx.out l[k].name wr HWr.out
            have HLv := Lib.hid (ixL_mem L l[k].name)
            have i2 : (k : Int) < (l.length : Int) := by omega
            obtain ⟨b0, off0, rfl, hb0, hct⟩ := hTr.cells hkl
            obtain ⟨t0, t1, t2, t3, t4⟩ := hct k hkl
            cases hlv : goneL L l[k].name with
            | true =>
              have HSk := Lib.hid (HSS.out.skip hkl hlv)
              have hd : decide (0 ≤ ixL L l[k].name) = true := by rw [HLv.out, hlv]
              clear hlv hTr HLv HSS hct t1 t2 t3 t4 HWr
              generalize ixL L l[k].name = ixk at *
              go_wp2_with (go_at_call 62; refine hIk.mono ?_; rintro e w' ⟨rfl, rfl⟩)
              go_roundw
              case rel => exact ⟨k + 1, ms, by omega, by go_num, HSk⟩
              case measure => simp [intOf]; omega
            | false =>
              have hd : decide (0 ≤ ixL L l[k].name) = false := by rw [HLv.out, hlv]
              obtain ⟨hm1, hm2, -⟩ := hTr.open_bef hkl
              unfold maxLen at hm2
              have hb8 : l[k].bef.length ≤ 1000 := by
                have := (((befOK_iff l).1 HR.out.bef _ (List.getElem_mem hkl))).le
                omega
              have hokk := HOk.out _ (List.getElem_mem hkl)
              have hms := HSS.out.short
              have HPush : Hid (∀ (w8 w9 : World) (ov nv : Value) (t : Task), WoR w3 w8 l L k ov ms → w8.grownBy w9 ov.ownBlock → w9.ownsRow w3.heap.size 38 5 nv (ms.length + 1) ((ms ++ [t]).flatMap Task.cells) →
                  w8.ownsRow w3.heap.size 9 1 t.bv t.bef.length (t.bef.map Value.string) → t.ok → t.norm = wTask L l[k] → WoR w3 w9 l L (k + 1) nv (ms ++ [t])) := fun w8 w9 ov nv t hw hg ho hs hok hn => hw.push hkl hlv hg ho hs hok hn
              have HKq := Lib.hid (fun w' (hb : Below wr.heap.size wr w') => HSS.out.below hb)
              have HNorm : Hid (∀ A8 cap8, (⟨l[k].name, l[k].len, l[k].crew, l[k].pow, A8, cap8, l[k].bef.filter fun x => !goneL L x⟩ : Task).norm = wTask L l[k]) := fun A8 cap8 => rfl
              have HOkT : Hid (∀ A8 cap8, (⟨l[k].name, l[k].len, l[k].crew, l[k].pow, A8, cap8, l[k].bef.filter fun x => !goneL L x⟩ : Task).ok) := fun A8 cap8 =>
                ⟨hokk.name, fun x hx => hokk.bef x (List.mem_filter.1 hx).1, hokk.len, hokk.crew, hokk.pow⟩
              have HBf : Hid (∀ i (_ : i < l[k].bef.length), ∃ b off, l[k].ba = some ⟨b, off, none⟩ ∧ ∀ w', Below w.heap.size w w' → ∀ j (hj : j < l[k].bef.length), w'.cell? ⟨b, off + j, none⟩ = some (.string l[k].bef[j])) := fun i hi => by
                obtain ⟨-, -, h⟩ := (HTw.out w (Below.refl _ _)).open_bef hkl
                obtain ⟨b, off, e, hb, hc⟩ := h i hi
                exact ⟨b, off, e, fun w' hb' j hj => (hb'.cell (p := ⟨b, off + j, none⟩) hb).trans (hc j hj)⟩
              have HB4 : Hid (∀ w', Below w.heap.size w w' → w'.cell? ⟨b0, off0 + k * 5 + 4, none⟩ = some (.slice l[k].ba l[k].bef.length l[k].bc)) := fun w' hb => by
                obtain ⟨b9, off9, e9, -, h9⟩ := (HTw.out w' hb).cells hkl
                injection e9 with e9
                injection e9 with e10 e11
                subst e10 e11
                exact (h9 k hkl).2.2.2.2
              have hGW := HSS.out.bel.size
              clear hct hTr HSS hokk hlv HLv
              generalize l[k].ba = ba at *
              generalize ixL L l[k].name = ixk at *
              go_wp2_with fail
              refine hIk.mono ?_
              rintro e w' ⟨rfl, rfl⟩
              obtain ⟨wq, rfl⟩ : ∃ wq, wq = wr := ⟨wr, rfl⟩
              have hbG : Below wq.heap.size wq (wq.alloc (.cells #[.string l[k].name, .int .i64 l[k].len, .int .i64 l[k].crew, .int .i64 l[k].pow, .slice ba l[k].bef.length l[k].bc] 38)) := (Below.refl _ _).alloc (Nat.le_refl _) _
              have HG := Lib.hid (Blk.new wq 38 #[.string l[k].name, .int .i64 l[k].len, .int .i64 l[k].crew, .int .i64 l[k].pow, .slice ba l[k].bef.length l[k].bc])
              have u0 := HG.out.cell 0
              have u1 := HG.out.cell 1
              have u2 := HG.out.cell 2
              have u3 := HG.out.cell 3
              have u4 := HG.out.cell 4
              have f4 := HG.out.frozen 4
              simp only [List.getElem?_toArray, List.getElem?_cons_succ, List.getElem?_cons_zero] at u0 u1 u2 u3 u4
              go_wp2_with fail
              have HBS : Hid (BefSt wq (wq.alloc (.cells #[.string l[k].name, .int .i64 l[k].len, .int .i64 l[k].crew, .int .i64 l[k].pow, .slice none 0 0] 38)) wq.heap.size l[k] l[k].len (fun x => !goneL L x) 0 none 0 0) := ⟨(Below.refl _ _).alloc (Nat.le_refl _) _, Blk.new _ _ _, rfl, World.ownsRow_nil _ _ _ _⟩
              clear hbG HG u0 u1 u2 u3 u4 f4 t0 t1 t2 t3 t4 hIk hd
              generalize wq.alloc (.cells #[.string l[k].name, .int .i64 l[k].len, .int .i64 l[k].crew, .int .i64 l[k].pow, .slice none 0 0] 38) = w4 at *
              have HWq2 := Lib.hid (fun w' (hb : Below wq.heap.size wq w') => HWr.out.trans (hb.mono HWr.out.size))
              obtain ⟨G, hG⟩ : ∃ G, wq.heap.size = G := ⟨_, rfl⟩
              rw [hG] at HBS
              have hGq : wq.heap.size ≤ G := Nat.le_of_eq hG
              have HGq := Lib.hid hGq
              simp only [hG]
              clear hG hGq HWr
              go_loopw [10] (fun ix wx => ∃ (j m cap : Nat) (bA : Option Addr), j ≤ l[k].bef.length ∧ ix = .int .i64 j ∧ Hid (BefSt wq wx G l[k] l[k].len (fun x => !goneL L x) j bA m cap)) (fun ix _ => l[k].bef.length - (intOf ix).toNat)
              case atStart => exact ⟨0, 0, 0, none, Nat.zero_le _, rfl, HBS⟩
              case round =>
                clear HBS
                obtain ⟨j, m, cap, bA, hj, rfl, HBS⟩ := hrel
                have j0 : (0 : Int) ≤ (j : Int) := Int.natCast_nonneg _
                have c4 := HB4.out _ (HWq2.out _ HBS.out.bel)
                by_cases hjl : j < l[k].bef.length
                · obtain ⟨b', off', rfl, hs'⟩ := HBf.out j hjl
                  have hst := hs' _ (HWq2.out _ HBS.out.bel) j hjl
                  have hI := HIx.out l[k].bef[j] _ (HWq2.out _ HBS.out.bel)
                  have j1 : (j : Int) < (l[k].bef.length : Int) := by omega
                  have HLv := Lib.hid (ixL_not L l[k].bef[j])
                  cases hq : goneL L l[k].bef[j] with
                  | true =>
                    have hd : decide (ixL L l[k].bef[j] < 0) = false := by rw [HLv.out, hq]; rfl
                    have HSk := Lib.hid (HBS.out.skip hjl (by show (!goneL L _) = false; rw [hq]; rfl))
                    clear hq HLv HBS hs'
                    generalize ixL L l[k].bef[j] = ixj at *
                    go_wp2_with (go_at_call 62; refine hI.mono ?_; rintro e w' ⟨rfl, rfl⟩)
                    go_roundw
                    case rel => exact ⟨j + 1, m, cap, bA, by omega, by go_num, HSk⟩
                    case measure => simp [intOf]; omega
                  | false =>
                    have hd : decide (ixL L l[k].bef[j] < 0) = true := by rw [HLv.out, hq]; rfl
                    have Hqq : Hid ((!goneL L l[k].bef[j]) = true) := by unfold Hid; rw [hq]; rfl
                    clear hq HLv
                    generalize ixL L l[k].bef[j] = ixj at *
                    have d4 := fun o => HB4.out _ (HWq2.out _ (HBS.out.bel.alloc HBS.out.bel.size o))
                    have e4 := HBS.out.blk.cell 4
                    have e4' := fun o => (HBS.out.blk.alloc o).cell 4
                    simp only [List.getElem?_toArray, List.getElem?_cons_succ, List.getElem?_cons_zero] at e4 e4'
                    have hmj : m ≤ 1000 := by
                      have h1 := HBS.out.len
                      have h2 := List.length_filter_le (fun x => !goneL L x) (l[k].bef.take j)
                      rw [List.length_take] at h2
                      omega
                    have HBa : BefSt wq ((wr.alloc (.cells #[.string l[k].bef[j]] 9)).drew) G l[k] l[k].len (fun x => !goneL L x) j bA m cap := HBS.out.allocDrew _
                    have HStore : Hid (∀ wz, ((wr.alloc (.cells #[.string l[k].bef[j]] 9)).drew).grownBy wz (Value.slice bA m cap).ownBlock → wz.frozen? ⟨G, 4, none⟩ = false ∧ wz.cell? ⟨G, 4, none⟩ = some (.slice bA m cap)) := fun wz hgz => by
                      have HGz := HBa.blk.kept hgz (HBa.blk.ne_own HBa.own (by decide))
                      exact ⟨HGz.frozen 4, HGz.cell 4⟩
                    have HPu : Hid (∀ wz g3 cap3, ((wr.alloc (.cells #[.string l[k].bef[j]] 9)).drew).grownBy wz (Value.slice bA m cap).ownBlock → wz.ownsRow wq.heap.size 9 1 (.slice (some ⟨g3, 0, none⟩) (m + 1) cap3) (m + 1) (((l[k].bef.take j).filter fun x => !goneL L x).map Value.string ++ [.string l[k].bef[j]]) →
                        BefSt wq (wz.setCell ⟨G, 4, none⟩ (.slice (some ⟨g3, 0, none⟩) (m + 1) cap3)) G l[k] l[k].len (fun x => !goneL L x) (j + 1) (some ⟨g3, 0, none⟩) (m + 1) cap3) := fun wz g3 cap3 hgz hoz => HBa.push hjl Hqq.out HGq.out hgz hoz
                    have HOw : Hid (((wr.alloc (.cells #[.string l[k].bef[j]] 9)).drew).ownsRow wq.heap.size 9 1 (.slice bA m cap) m (((l[k].bef.take j).filter fun x => !goneL L x).map Value.string) ∧ wq.heap.size ≤ ((wr.alloc (.cells #[.string l[k].bef[j]] 9)).drew).heap.size ∧ Blk ((wr.alloc (.cells #[.string l[k].bef[j]] 9)).drew) wr.heap.size 9 #[.string l[k].bef[j]]) := ⟨HBa.own, HBa.bel.size, Blk.drew1 (Blk.new _ _ _)⟩
                    clear hs' HBa HBS
                    go_wp2_with (go_at_call 62; refine hI.mono ?_; rintro e w' ⟨rfl, rfl⟩)
                    go_region_law (refine step_appS rfl (.tmp 76) (.tmp 85) rfl HOw.out.1 HOw.out.2.1 HOw.out.2.2 (by go_simp) (by go_simp) hmj ?_; intro g3 cap3 wz hoz hgz; obtain ⟨fz, cz⟩ := HStore.out wz hgz; have HPz := Lib.hid (HPu.out wz g3 cap3 hgz hoz); clear hoz hgz)
                    all_goals
                      clear c4 d4 e4 e4' hst fz cz HStore HPu HOw
                      go_simp
                      go_wp2_with fail
                      go_roundw
                      case rel => exact ⟨j + 1, m + 1, cap3, some ⟨g3, 0, none⟩, by omega, by go_num, HPz⟩
                      case measure => simp [intOf]; omega
                · have hje : j = l[k].bef.length := by omega
                  subst hje
                  have hlen := HBS.out.len
                  have hown := HBS.out.own
                  have hblk := HBS.out.blk
                  have HKx := Lib.hid (HKq.out _ HBS.out.bel)
                  rw [List.take_length] at hlen hown
                  clear HBS
                  generalize (l[k].bef.filter fun x => !goneL L x) = bf at *
                  subst hlen
                  have u0 := hblk.cell 0
                  have u1 := hblk.cell 1
                  have u2 := hblk.cell 2
                  have u3 := hblk.cell 3
                  have u4 := hblk.cell 4
                  simp only [List.getElem?_toArray, List.getElem?_cons_succ, List.getElem?_cons_zero] at u0 u1 u2 u3 u4
                  have HOw := Lib.hid hown
                  clear hblk hown
                  go_wp2_with (at_builtin; refine wpList_appT _ rfl (.tmp 88) (.tmp 90) rfl w3.heap.size _ ms (HKx.out.out.alloc _) (Nat.le_trans HKx.out.bel.size (by simp)) ⟨l[k].name, l[k].len, l[k].crew, l[k].pow, bA, cap, bf⟩ _ (Blk.new _ _ _) rfl rfl (by omega) ?_; intro g9 cap9 w9 hown9 hgr9)
                  have HP9 := Lib.hid (HPush.out _ w9 _ _ ⟨l[k].name, l[k].len, l[k].crew, l[k].pow, bA, cap, bf⟩ (HKx.out.below ((Below.refl _ _).alloc (Nat.le_refl _) _)) hgr9 hown9 (own_mono (HOw.out.alloc _) hGW) (HOkT.out _ _) (HNorm.out _ _))
                  clear hown9 hgr9 u0 u1 u2 u3 u4 c4
                  go_wp2_with fail
                  go_roundw
                  case rel => exact ⟨k + 1, _, by omega, by go_num, HP9⟩
                  case measure => simp [intOf]; omega
          · obtain rfl : k = l.length := by omega
            have HP := Lib.hid HSS.out.tasks
            have HN : Hid (norms ms = withoutN l L) := by
              have := HSS.out.norm
              rw [List.take_length] at this
              exact this
            have HB := Lib.hid (Hb1.out.trans (HSS.out.bel.mono hsz))
            go_wp2_with fail
            refine bodyPost_ret (results_tmp2 rfl _ _ _) (by rfl) ?_
            exact ⟨HB.out, .inr ⟨HE2.out, _, ms, rfl, HP.out, HN.out⟩⟩

end Go.Proofs.Ytfcfphamecbcgaa

/- Tasks without some: none, or one that no other waits for. No program in sight. -/
namespace Go.Proofs.Ytfcfphamecbcgaa
open Go.RowKit Go.Shelf

section
variable {l ms : List Task} {L : List ByteArray} {c p : Int} {i : Nat}
theorem gone_bad (h : rightR l = false) : withoutE l [] = 1 := by unfold withoutE; rw [h]; rfl
theorem gone_none (hR : RightT l) : withoutE l [] = 0 ∧ withoutN l [] = norms l := by
  constructor
  · unfold withoutE
    rw [if_pos ((right_iff l).2 hR)]
    rfl
  · unfold withoutN norms
    rw [List.filter_eq_self.2 (fun t _ => by simp)]
    refine List.map_congr_left fun t _ => ?_
    unfold wTask Task.norm
    rw [List.filter_eq_self.2 (fun x _ => by simp)]
theorem name_inj (hR : RightT l) {j : Nat} (hi : i < l.length) (hj : j < l.length) (h : l[j].name = l[i].name) : j = i := by
  have h1 := pl_name hR.dist hi
  have h2 := pl_name hR.dist hj
  rw [h, h1] at h2
  omega
theorem filter_one (hR : RightT l) (hi : i < l.length) : (l.filter fun t => !decide (t.name ∈ [l[i].name])) = l.eraseIdx i := by
  have e : l = l.take i ++ l[i] :: l.drop (i + 1) := by rw [List.getElem_cons_drop, List.take_append_drop]
  have h1 : (l.take i).filter (fun t => !decide (t.name ∈ [l[i].name])) = l.take i := by
    rw [List.filter_eq_self]
    intro t ht
    obtain ⟨j, hj, rfl⟩ := List.mem_take_iff_getElem.1 ht
    have : l[j].name ≠ l[i].name := fun h => by have := name_inj hR hi (by omega) h; omega
    simp [this]
  have h2 : (l.drop (i + 1)).filter (fun t => !decide (t.name ∈ [l[i].name])) = l.drop (i + 1) := by
    rw [List.filter_eq_self]
    intro t ht
    obtain ⟨j, hj, rfl⟩ := List.mem_iff_getElem.1 ht
    rw [List.length_drop] at hj
    have : l[i + 1 + j].name ≠ l[i].name := fun h => by have := name_inj hR hi (by omega) h; omega
    simp [List.getElem_drop, this]
  have h3 : (l.filter fun t => !decide (t.name ∈ [l[i].name])) = (l.take i ++ l[i] :: l.drop (i + 1)).filter fun t => !decide (t.name ∈ [l[i].name]) := congrArg (List.filter fun t => !decide (t.name ∈ [l[i].name])) e
  rw [h3, List.filter_append, h1, List.filter_cons, if_neg (by simp), h2, List.eraseIdx_eq_take_drop_succ]
theorem gone_one (hR : RightT l) (hi : i < l.length) : withoutE l [l[i].name] = 0 ∧ withoutN l [l[i].name] = (l.eraseIdx i).map (wTask [l[i].name]) := by
  constructor
  · unfold withoutE
    rw [if_pos ((right_iff l).2 hR)]
    have h1 := pl_name hR.dist hi
    have : goneTo l [l[i].name] 1 = 0 := goneTo_ok (k := 0) (by simp) rfl (by simp [h1]) (by simp)
    exact this
  · unfold withoutN
    rw [filter_one hR hi]
theorem gone_len (hR : RightT l) (hi : i < l.length) (hN : norms ms = withoutN l [l[i].name]) : ms.length = l.length - 1 := by
  have := norms_len ms
  rw [hN, (gone_one hR hi).2, List.length_map, List.length_eraseIdx, if_pos hi] at this
  omega
theorem gone_free (hR : RightT l) (hi : i < l.length) (h : (l.any fun t => decide (l[i].name ∈ t.bef)) = false) : withoutN l [l[i].name] = norms (l.eraseIdx i) := by
  rw [(gone_one hR hi).2]
  refine List.map_congr_left fun t ht => ?_
  unfold wTask Task.norm
  rw [List.filter_eq_self.2]
  intro x hx
  rw [List.any_eq_false] at h
  have h1 := h t (List.mem_of_mem_eraseIdx ht)
  have : x ≠ l[i].name := fun e => h1 (by rw [← e]; exact decide_eq_true hx)
  simp [this]
theorem gone_waits (hN : norms ms = withoutN l L) {s : ByteArray} (hs : s ∈ L) : (ms.any fun t => decide (s ∈ t.bef)) = false := by
  rw [List.any_eq_false]
  intro t ht
  have h1 : t.norm ∈ withoutN l L := by rw [← hN]; exact List.mem_map_of_mem ht
  unfold withoutN at h1
  obtain ⟨u, -, hu⟩ := List.mem_map.1 h1
  have h2 : t.bef = (u.bef.filter fun x => !decide (x ∈ L)) := (congrArg Task.bef hu).symm
  rw [h2]
  simp [hs]
theorem gone_least (hR : RightT l) (hc : 0 ≤ c ∧ c ≤ 1000) (hp : 0 ≤ p ∧ p ≤ 1000) (hfit : l.any (tooMuch c p) = false) (hi : i < l.length) (h : (l.any fun t => decide (l[i].name ∈ t.bef)) = false) (hN : norms ms = withoutN l [l[i].name]) :
    validB ms c p = true ∧ ms.any (tooMuch c p) = false ∧ (leastN ms c p).1 ≤ (leastN l c p).1 := by
  have hS : SubT l (butOne l.length i) ms := con_sub ((gone_free hR hi h).symm.trans hN.symm) (sub_butOne hR hi h)
  refine ⟨?_, hS.any hfit, hS.least hR ⟨hc.1, hp.1⟩ hfit⟩
  unfold validB betweenB
  rw [(right_iff ms).2 (hS.right hR), decide_eq_true hc, decide_eq_true hp]
  rfl
end

end Go.Proofs.Ytfcfphamecbcgaa

/- The law ReplanLeaves: the walk. -/
namespace Go.Proofs.Ytfcfphamecbcgaa
open Go.RowKit Go.Shelf

theorem entersLv1 : ∀ args w, (callFunc 28 args).run Try.prog w = .ok (.enter 28 args) w := enters_of Try.func28 (by kernel_rfl) rfl
theorem entersLv2 : ∀ args w, (callFunc 30 args).run Try.prog w = .ok (.enter 30 args) w := enters_of Try.func30 (by kernel_rfl) rfl
set_option maxRecDepth 100000 in
set_option maxHeartbeats 2000000 in
theorem lvClosure1 (t : Task) (l : List Task) (i : Nat) (hi : i < l.length) (A : Option Addr) (cc : Nat) (D E : Nat) (w : World) (hb : StrsAt w w.heap.size t.bv t.bef) (hl : TasksAt w w.heap.size (.slice A l.length cc) l) (hD : w.cell? ⟨D, 0, none⟩ = some (.slice A l.length cc)) (hE : w.cell? ⟨E, 0, none⟩ = some (.int .i64 i)) :
    Calls Try.prog 28 #[t.val, .pointer (some ⟨D, 0, none⟩), .pointer (some ⟨E, 0, none⟩)] w fun e w' => e = .returned (.bool (decide (l[i].name ∈ t.bef))) ∧ Below w.heap.size w w' := by
  obtain ⟨b0, off0, e0, hb0, hct⟩ := hl.cells hi
  obtain ⟨A', cc', e', hA1, hA2, -⟩ := hl.open_
  injection e' with e1 _ e2
  subst e1 e2
  obtain ⟨A0, c0, hA, hc1, hc2, -⟩ := hb.open_
  have HB : Hid (∀ o q, StrsAt ((w.alloc o).drewN q) w.heap.size t.bv t.bef) := fun o q => hb.below (below_drewN ((Below.refl _ _).alloc (Nat.le_refl _) o) q) (Nat.le_refl _)
  have hn := (hct i hi).1
  have y1 : ∀ o, (w.alloc o).cell? ⟨D, 0, none⟩ = some (.slice A l.length cc) := fun o => (((Below.refl _ _).alloc (Nat.le_refl _) o).cell (p := ⟨D, 0, none⟩) (World.block_lt_of_cell? _ _ hD)).trans hD
  have y2 : ∀ o, (w.alloc o).cell? ⟨E, 0, none⟩ = some (.int .i64 i) := fun o => (((Below.refl _ _).alloc (Nat.le_refl _) o).cell (p := ⟨E, 0, none⟩) (World.block_lt_of_cell? _ _ hE)).trans hE
  subst e0
  have y3 : ∀ o, (w.alloc o).cell? ⟨b0, off0 + i * 5, none⟩ = some (.string l[i].name) := fun o => (((Below.refl _ _).alloc (Nat.le_refl _) o).cell (p := ⟨b0, off0 + i * 5, none⟩) (World.block_lt_of_cell? _ _ hn)).trans hn
  have hC := fun o q => quiet_left (containsStr t.bv t.bef l[i].name w.heap.size ((w.alloc o).drewN q) (HB.out o q))
  unfold maxLen at hA2 hc2
  have i1 : (0 : Int) ≤ (i : Int) := Int.natCast_nonneg _
  have i2 : (i : Int) < (l.length : Int) := by omega
  clear hct hn hb hl hA hD hE
  generalize l[i].name = nm at *
  obtain ⟨name, len, crew, pow, ba, bc, bef⟩ := t
  unfold Task.val
  unfold Task.bv at hC
  simp only at *
  generalize decide (nm ∈ bef) = r at *
  go_enter Try.func28, Try.ntmps28
  go_wp2_with fail
  have z1 := y1 (.cells #[.string name, .int .i64 len, .int .i64 crew, .int .i64 pow, .slice ba bef.length bc] 38)
  have z2 := y2 (.cells #[.string name, .int .i64 len, .int .i64 crew, .int .i64 pow, .slice ba bef.length bc] 38)
  have z3 := y3 (.cells #[.string name, .int .i64 len, .int .i64 crew, .int .i64 pow, .slice ba bef.length bc] 38)
  have z4 : (w.alloc (.cells #[.string name, .int .i64 len, .int .i64 crew, .int .i64 pow, .slice ba bef.length bc] 38)).cell? ⟨w.heap.size, 4, none⟩ = some (.slice ba bef.length bc) := by rw [World.cell?_alloc_new]; rfl
  have hC := hC (.cells #[.string name, .int .i64 len, .int .i64 crew, .int .i64 pow, .slice ba bef.length bc] 38)
  have hbo : Below w.heap.size w (w.alloc (.cells #[.string name, .int .i64 len, .int .i64 crew, .int .i64 pow, .slice ba bef.length bc] 38)) := (Below.refl _ _).alloc (Nat.le_refl _) _
  clear HB y1 y2 y3
  generalize w.alloc (.cells #[.string name, .int .i64 len, .int .i64 crew, .int .i64 pow, .slice ba bef.length bc] 38) = wx at *
  go_quiet ((go_at_call 29; exact hC _))
  go_wp2
  go_ret
  exact ⟨rfl, below_drewN hbo _⟩

set_option maxRecDepth 100000 in
set_option maxHeartbeats 2000000 in
theorem lvClosure2 (t : Task) (l : List Task) (i : Nat) (hi : i < l.length) (A : Option Addr) (cc : Nat) (D E : Nat) (w : World) (hb : StrsAt w w.heap.size t.bv t.bef) (hl : TasksAt w w.heap.size (.slice A l.length cc) l) (hD : w.cell? ⟨D, 0, none⟩ = some (.slice A l.length cc)) (hE : w.cell? ⟨E, 0, none⟩ = some (.int .i64 i)) :
    Calls Try.prog 30 #[t.val, .pointer (some ⟨D, 0, none⟩), .pointer (some ⟨E, 0, none⟩)] w fun e w' => e = .returned (.bool (decide (l[i].name ∈ t.bef))) ∧ Below w.heap.size w w' := by
  obtain ⟨b0, off0, e0, hb0, hct⟩ := hl.cells hi
  obtain ⟨A', cc', e', hA1, hA2, -⟩ := hl.open_
  injection e' with e1 _ e2
  subst e1 e2
  obtain ⟨A0, c0, hA, hc1, hc2, -⟩ := hb.open_
  have HB : Hid (∀ o q, StrsAt ((w.alloc o).drewN q) w.heap.size t.bv t.bef) := fun o q => hb.below (below_drewN ((Below.refl _ _).alloc (Nat.le_refl _) o) q) (Nat.le_refl _)
  have hn := (hct i hi).1
  have y1 : ∀ o, (w.alloc o).cell? ⟨D, 0, none⟩ = some (.slice A l.length cc) := fun o => (((Below.refl _ _).alloc (Nat.le_refl _) o).cell (p := ⟨D, 0, none⟩) (World.block_lt_of_cell? _ _ hD)).trans hD
  have y2 : ∀ o, (w.alloc o).cell? ⟨E, 0, none⟩ = some (.int .i64 i) := fun o => (((Below.refl _ _).alloc (Nat.le_refl _) o).cell (p := ⟨E, 0, none⟩) (World.block_lt_of_cell? _ _ hE)).trans hE
  subst e0
  have y3 : ∀ o, (w.alloc o).cell? ⟨b0, off0 + i * 5, none⟩ = some (.string l[i].name) := fun o => (((Below.refl _ _).alloc (Nat.le_refl _) o).cell (p := ⟨b0, off0 + i * 5, none⟩) (World.block_lt_of_cell? _ _ hn)).trans hn
  have hC := fun o q => quiet_left (containsStr t.bv t.bef l[i].name w.heap.size ((w.alloc o).drewN q) (HB.out o q))
  unfold maxLen at hA2 hc2
  have i1 : (0 : Int) ≤ (i : Int) := Int.natCast_nonneg _
  have i2 : (i : Int) < (l.length : Int) := by omega
  clear hct hn hb hl hA hD hE
  generalize l[i].name = nm at *
  obtain ⟨name, len, crew, pow, ba, bc, bef⟩ := t
  unfold Task.val
  unfold Task.bv at hC
  simp only at *
  generalize decide (nm ∈ bef) = r at *
  go_enter Try.func30, Try.ntmps30
  go_wp2_with fail
  have z1 := y1 (.cells #[.string name, .int .i64 len, .int .i64 crew, .int .i64 pow, .slice ba bef.length bc] 38)
  have z2 := y2 (.cells #[.string name, .int .i64 len, .int .i64 crew, .int .i64 pow, .slice ba bef.length bc] 38)
  have z3 := y3 (.cells #[.string name, .int .i64 len, .int .i64 crew, .int .i64 pow, .slice ba bef.length bc] 38)
  have z4 : (w.alloc (.cells #[.string name, .int .i64 len, .int .i64 crew, .int .i64 pow, .slice ba bef.length bc] 38)).cell? ⟨w.heap.size, 4, none⟩ = some (.slice ba bef.length bc) := by rw [World.cell?_alloc_new]; rfl
  have hC := hC (.cells #[.string name, .int .i64 len, .int .i64 crew, .int .i64 pow, .slice ba bef.length bc] 38)
  have hbo : Below w.heap.size w (w.alloc (.cells #[.string name, .int .i64 len, .int .i64 crew, .int .i64 pow, .slice ba bef.length bc] 38)) := (Below.refl _ _).alloc (Nat.le_refl _) _
  clear HB y1 y2 y3
  generalize w.alloc (.cells #[.string name, .int .i64 len, .int .i64 crew, .int .i64 pow, .slice ba bef.length bc] 38) = wx at *
  go_quiet ((go_at_call 29; exact hC _))
  go_wp2
  go_ret
  exact ⟨rfl, below_drewN hbo _⟩

theorem lv_erase {l : List Task} {i : Nat} {w : World} {B : Nat} {v' : Value} (h : TasksAt w B v' l) {v : Value} (hf : Flat w w.heap.size v (l.length - 1) ((l.eraseIdx i).flatMap Task.cells)) (hi : i < l.length) (hB : B ≤ w.heap.size) : TasksAt w w.heap.size v (l.eraseIdx i) := by
  refine ⟨by rw [List.length_eraseIdx, if_pos hi]; exact hf, fun t ht => (h.2.1 t (List.mem_of_mem_eraseIdx ht)).mono hB, fun t ht => h.2.2 t (List.mem_of_mem_eraseIdx ht)⟩

theorem noStrs45 (w : World) : StrsAt w w.heap.size (.slice none 0 0) [] := ⟨none, 0, rfl, Nat.le_refl _, Nat.zero_le _, fun h => absurd h (by simp)⟩
theorem oneStr (w : World) (g : Nat) (s : ByteArray) (h : Blk w g 9 #[.string s]) : StrsAt w w.heap.size (.slice (some ⟨g, 0, none⟩) 1 1) [s] := by
  refine ⟨_, _, rfl, Nat.le_refl _, by unfold maxLen; decide, fun _ => ⟨g, 0, rfl, h.lt, fun j u hu => ?_⟩⟩
  rw [Nat.zero_add]
  exact (h.cell j).trans (by simpa using hu)

set_option maxRecDepth 100000 in
set_option maxHeartbeats 8000000 in
theorem lawReplanLeaves (v : Value) (l : List Task) (c p k : Int) (w : World) (hl : TasksAt w w.heap.size v l) (hk : 0 ≤ k ∧ k ≤ 255) :
    Calls Try.prog 8 #[v, .int .i64 c, .int .i64 p, .int .u8 k] w fun e w' => e = .returned (.bool true) ∧ Below w.heap.size w w' := by
  have HT : Hid (∀ w1, Below w.heap.size w w1 → TasksAt w1 w1.heap.size v l) := fun w1 hb => (hl.below hb (Nat.le_refl _)).mono hb.size
  have HLe : Hid (∀ c p w1, Below w.heap.size w w1 → Calls Try.prog 20 #[v, .int .i64 c, .int .i64 p] w1 (LeastPost l c p w1)) := fun c p w1 hb => schedLeast v l c p w1 (HT.out w1 hb)
  have hA : ∀ o, Calls Try.prog 9 #[] (w.alloc o) fun e w' => e = .returned (.bool true) ∧ Below (w.alloc o).heap.size (w.alloc o) w' := fun o => lawAwake45 _
  have hb0 : ∀ o, Below w.heap.size w (w.alloc o) := fun o => (Below.refl _ _).alloc (Nat.le_refl _) o
  have hLong := fun w1 hb => lawLarge v l w1 (HT.out w1 hb)
  have HW0 : Hid (∀ w1, Below w.heap.size w w1 → Calls Try.prog 24 #[v, .slice none 0 0] w1 (WithoutPost l [] w1)) := fun w1 hb => rpWithoutTop v _ l [] w1 (HT.out w1 hb) (noStrs45 w1) (by simp)
  have hOk := hl.2.2
  have HW1 : Hid (∀ i (_ : i < l.length) w1 g, Below w.heap.size w w1 → Blk w1 g 9 #[.string l[i].name] → Calls Try.prog 24 #[v, .slice (some ⟨g, 0, none⟩) 1 1] w1 (WithoutPost l [l[i].name] w1)) := fun i hi w1 g hb hg => rpWithoutTop v _ l [l[i].name] w1 (HT.out w1 hb) (oneStr w1 g _ hg) (fun x hx => by rw [List.mem_singleton.1 hx]; exact (hOk _ (List.getElem_mem hi)).name)
  have HRi : Hid (∀ w1, Below w.heap.size w w1 → Calls Try.prog 26 #[v] w1 fun e w' => e = .returned (.bool (rightR l)) ∧ Below w1.heap.size w1 w') := fun w1 hb => refRight v l w1 (HT.out w1 hb)
  obtain ⟨A, cc, rfl, hA1, hA2, -⟩ := hl.open_
  have HT0 : Hid (∀ i (_ : i < l.length), ∃ b0 off0, A = some ⟨b0, off0, none⟩ ∧ ∀ w', Below w.heap.size w w' → w'.cell? ⟨b0, off0 + i * 5, none⟩ = some (.string l[i].name)) := fun i hi => by
    obtain ⟨b0, off0, e0, hb0, hct⟩ := hl.cells hi
    exact ⟨b0, off0, e0, fun w' hb => (hb.cell (p := ⟨b0, off0 + i * 5, none⟩) hb0).trans (hct i hi).1⟩
  unfold maxLen at hA2
  clear hl hOk
  obtain ⟨hk0, hk1⟩ := hk
  have HBx := Lib.hid (Blk.new w 22 #[.slice A l.length cc])
  cases hlg : largeB l with
  | true =>
    rw [hlg] at hLong
    clear hlg
    go_enter Try.func8, Try.ntmps8
    go_wp2_with fail
    refine (hA _).mono ?_
    rintro e w1 ⟨rfl, hb1⟩
    have hbx := (hb0 (.cells #[.slice A l.length cc] 22)).trans (hb1.mono (hb0 _).size)
    have x1 := (HBx.out.below hb1 HBx.out.lt).cell 0
    simp only [List.getElem?_toArray, List.getElem?_cons_zero] at x1
    go_wp2_with fail
    refine (hLong _ hbx).mono ?_
    rintro e w2 ⟨rfl, hb2⟩
    go_wp2_with fail
    go_ret
    exact ⟨rfl, hbx.trans (hb2.mono hbx.size)⟩
  | false =>
    rw [hlg] at hLong
    clear hlg
    go_enter Try.func8, Try.ntmps8
    go_wp2_with fail
    refine (hA _).mono ?_
    rintro e w1 ⟨rfl, hb1⟩
    have hbx := (hb0 (.cells #[.slice A l.length cc] 22)).trans (hb1.mono (hb0 _).size)
    have HB1 := HBx.out.below hb1 HBx.out.lt
    have x1 := HB1.cell 0
    simp only [List.getElem?_toArray, List.getElem?_cons_zero] at x1
    go_wp2_with fail
    refine (hLong _ hbx).mono ?_
    rintro e w2 ⟨rfl, hb2⟩
    have hbx2 := hbx.trans (hb2.mono hbx.size)
    have HB2 := Lib.hid (HB1.below hb2 HB1.lt)
    have x2 := HB2.out.cell 0
    simp only [List.getElem?_toArray, List.getElem?_cons_zero] at x2
    clear hb1 hb2 hbx x1 HB1 HBx hA hLong
    go_wp2_with fail
    refine (HW0.out _ hbx2).mono ?_
    rintro e w3 ⟨hb3, hpost⟩
    have hbx3 := hbx2.trans (hb3.mono hbx2.size)
    have HB3 := Lib.hid (HB2.out.below hb3 HB2.out.lt)
    have x3 := HB3.out.cell 0
    simp only [List.getElem?_toArray, List.getElem?_cons_zero] at x3
    cases hr : rightR l with
    | false =>
      have hRi := HRi.out _ hbx3
      rw [hr] at hRi
      rcases hpost with ⟨-, rfl⟩ | ⟨hno, -⟩
      · rw [gone_bad hr]
        clear hr
        go_wp2_with (go_at_call 26; refine hRi.mono ?_; rintro e w4 ⟨rfl, hb4⟩)
        go_ret
        exact ⟨rfl, hbx3.trans (hb4.mono hbx3.size)⟩
      · rw [gone_bad hr] at hno
        cases hno
    | true =>
      have hR : RightT l := (right_iff l).1 hr
      have HR := Lib.hid hR
      obtain ⟨hg0, hg1⟩ := gone_none hR
      rcases hpost with ⟨hno, -⟩ | ⟨-, va, ms, rfl, hTm, hNm⟩
      · exact absurd hg0 hno
      have hSm := refSame va _ ms l w3 hTm (HT.out _ hbx3) (hNm.trans hg1)
      obtain ⟨A3, c3, rfl, -, -, -⟩ := hTm.open_
      clear hr hR hg0 hg1 hTm hNm x2 HB2 hb3 HW0 HRi
      go_wp2_with fail
      refine hSm.mono ?_
      rintro e w4 ⟨rfl, hb4⟩
      have hbx4 := hbx3.trans (hb4.mono hbx3.size)
      have HB4 := Lib.hid (HB3.out.below hb4 HB3.out.lt)
      have x4 := HB4.out.cell 0
      simp only [List.getElem?_toArray, List.getElem?_cons_zero] at x4
      clear hSm x3 HB3 hb4
      by_cases hl0 : l.length = 0
      · have d3 : ((l.length : Int) == 0) = true := beq_iff_eq.2 (by omega)
        have Hl0 := Lib.hid hl0
        clear hl0
        go_wp2_with fail
        go_ret
        exact ⟨rfl, hbx4⟩
      have d3 : ((l.length : Int) == 0) = false := beq_eq_false_iff_ne.2 (by omega)
      obtain ⟨i, hi, hrem⟩ : ∃ i : Nat, i < l.length ∧ k % (l.length : Int) = (i : Int) := ⟨(k % (l.length : Int)).toNat, by have := Int.emod_lt_of_pos k (show (0 : Int) < l.length by omega); omega, by have := Int.emod_nonneg k (show (l.length : Int) ≠ 0 by omega); omega⟩
      have hl1 : (0 : Int) < (l.length : Int) := by omega
      have hl2 : ¬ (l.length : Int) = 0 := by omega
      have hbx7 := hbx4.alloc hbx4.size (.cells #[.int .i64 (i : Int)] 3)
      have HB7 := HB4.out.alloc (.cells #[.int .i64 (i : Int)] 3)
      have x7 := HB7.cell 0
      simp only [List.getElem?_toArray, List.getElem?_cons_zero] at x7
      have HI7 := Blk.new w4 3 #[.int .i64 (i : Int)]
      have y7 := HI7.cell 0
      simp only [List.getElem?_toArray, List.getElem?_cons_zero] at y7
      have HB7 := Lib.hid HB7
      have HI7 := Lib.hid HI7
      obtain ⟨b0, off0, rfl, hnm⟩ := HT0.out i hi
      have z7 := hnm _ hbx7
      have i1 : (0 : Int) ≤ (i : Int) := Int.natCast_nonneg _
      have i2 : (i : Int) < (l.length : Int) := by omega
      go_wp2_with fail
      have hD7 := HB7.out.lt
      have hI7 := HI7.out.lt
      have HOne := HW1.out i hi
      have hE1 := (gone_one HR.out hi).1
      generalize w4.alloc (.cells #[.int .i64 (i : Int)] 3) = w7 at *
      generalize w4.heap.size = D4 at *
      clear hrem hl0 hl1 hl2 d3 HT0 hnm
      generalize hnme : l[i].name = nm at *
      have HOne2 : Hid (Calls Try.prog 24 #[.slice (some ⟨b0, off0, none⟩) l.length cc, .slice (some ⟨w7.heap.size, 0, none⟩) 1 1] ((w7.alloc (.cells #[.string nm] 9)).drew) fun e w8 => ∃ A8 c8 m8, e = .returned (.tuple #[.slice A8 m8.length c8, .int .i64 0]) ∧
          Hid (TasksAt w8 w8.heap.size (.slice A8 m8.length c8) m8) ∧ Hid (norms m8 = withoutN l [nm]) ∧ w8.cell? ⟨w.heap.size, 0, none⟩ = some (.slice (some ⟨b0, off0, none⟩) l.length cc) ∧ w8.cell? ⟨D4, 0, none⟩ = some (.int .i64 i) ∧ w8.cell? ⟨b0, off0 + i * 5, none⟩ = some (.string nm) ∧ Below w7.heap.size w7 w8) := by
        have hbA : Below w7.heap.size w7 ((w7.alloc (.cells #[.string nm] 9)).drew) := ((Below.refl _ _).alloc (Nat.le_refl _) _).drew
        refine (HOne _ w7.heap.size (hbx7.trans (hbA.mono hbx7.size)) (Blk.drew1 (Blk.new _ _ _))).mono ?_
        rintro e w8 ⟨hb8, hpost⟩
        have hb78 : Below w7.heap.size w7 w8 := hbA.trans (hb8.mono hbA.size)
        rcases hpost with ⟨hno, -⟩ | ⟨-, v8, m8, rfl, hT8, hN8⟩
        · exact absurd hE1 hno
        · obtain ⟨A8, c8, rfl, -, -, -⟩ := hT8.open_
          exact ⟨A8, c8, m8, rfl, hT8, hN8, (hb78.cell (p := ⟨w.heap.size, 0, none⟩) hD7).trans x7, (hb78.cell (p := ⟨D4, 0, none⟩) hI7).trans y7, (hb78.cell (p := ⟨b0, off0 + i * 5, none⟩) (World.block_lt_of_cell? _ _ z7)).trans z7, hb78⟩
      clear hE1 HOne HW1
      go_region_held3 (fun w' => w'.cell? ⟨w.heap.size, 0, none⟩ = some (.slice (some ⟨b0, off0, none⟩) l.length cc) ∧ w'.cell? ⟨D4, 0, none⟩ = some (.int .i64 i) ∧ w'.cell? ⟨b0, off0 + i * 5, none⟩ = some (.string nm))
        (first
          | (exact ⟨by assumption, by assumption, by assumption⟩)
          | go_keep)
        (first
          | (go_at_call 24; refine HOne2.out.mono ?_; rintro e w8 ⟨A8, c8, m8, rfl, HT8, HN8, p8, q8, r8, hb8⟩))
      have hbx8 := hbx7.trans (hb8.mono hbx7.size)
      have hm8 : m8.length = l.length - 1 := by subst hnme; exact gone_len HR.out hi HN8.out
      have dN : ((m8.length : Int) != (l.length : Int) - 1) = false := by rw [hm8]; simp; omega
      have HWt : Hid ((m8.any fun t => decide (nm ∈ t.bef)) = false) := gone_waits HN8.out (List.mem_singleton_self _)
      have HKeep8 : Hid (∀ w', Below w8.heap.size w8 w' → w'.cell? ⟨w.heap.size, 0, none⟩ = some (.slice (some ⟨b0, off0, none⟩) l.length cc) ∧ w'.cell? ⟨D4, 0, none⟩ = some (.int .i64 i)) := fun w' hb =>
        ⟨(hb.cell (p := ⟨w.heap.size, 0, none⟩) (World.block_lt_of_cell? _ _ p8)).trans p8, (hb.cell (p := ⟨D4, 0, none⟩) (World.block_lt_of_cell? _ _ q8)).trans q8⟩
      have HT8' : Hid (∀ w', Below w8.heap.size w8 w' → TasksAt w' w'.heap.size (.slice A8 m8.length c8) m8) := fun w' hb => (HT8.out.below hb (Nat.le_refl _)).mono hb.size
      have HCF1 : Hid (Calls Try.prog 27 #[.slice (some ⟨b0, off0, none⟩) l.length cc, .func (.func 28) #[] #[.pointer (some ⟨w.heap.size, 0, none⟩), .pointer (some ⟨D4, 0, none⟩)]] w8 fun e w' => e = .returned (.bool (l.any fun t => decide (nm ∈ t.bef))) ∧ Below w8.heap.size w8 w') := by
        rw [← hnme]
        exact containsFuncTask (.slice (some ⟨b0, off0, none⟩) l.length cc) l 28 #[.pointer (some ⟨w.heap.size, 0, none⟩), .pointer (some ⟨D4, 0, none⟩)] (fun t => decide (l[i].name ∈ t.bef)) entersLv1 w8 (HT.out _ hbx8) (fun t ht w' hb =>
          lvClosure1 t l i hi _ cc w.heap.size D4 w' ((((HT.out _ hbx8).2.1 t ht).below hb (Nat.le_refl _)).mono hb.size) (((HT.out _ hbx8).below hb (Nat.le_refl _)).mono hb.size) (HKeep8.out w' hb).1 (HKeep8.out w' hb).2)
      have HCF2 : Hid (∀ w9, Below w8.heap.size w8 w9 → Calls Try.prog 27 #[.slice A8 m8.length c8, .func (.func 30) #[] #[.pointer (some ⟨w.heap.size, 0, none⟩), .pointer (some ⟨D4, 0, none⟩)]] w9 fun e w' => e = .returned (.bool (m8.any fun t => decide (nm ∈ t.bef))) ∧ Below w9.heap.size w9 w') := fun w9 hb9 => by
        rw [← hnme]
        have hbx9 := hbx8.trans (hb9.mono hbx8.size)
        exact containsFuncTask (.slice A8 m8.length c8) m8 30 #[.pointer (some ⟨w.heap.size, 0, none⟩), .pointer (some ⟨D4, 0, none⟩)] (fun t => decide (l[i].name ∈ t.bef)) entersLv2 w9 (HT8'.out _ hb9) (fun t ht w' hb =>
          lvClosure2 t l i hi _ cc w.heap.size D4 w' ((((HT8'.out _ hb9).2.1 t ht).below hb (Nat.le_refl _)).mono hb.size) (((HT.out _ hbx9).below hb (Nat.le_refl _)).mono hb.size) (HKeep8.out w' (hb9.trans (hb.mono hb9.size))).1 (HKeep8.out w' (hb9.trans (hb.mono hb9.size))).2)
      clear hm8 x7 y7 z7 hD7 hI7 HB7 HI7 r8 hb8
      go_wp2_with fail
      refine HCF1.out.mono ?_
      rintro e w9 ⟨rfl, hb9⟩
      have hbx9 := hbx8.trans (hb9.mono hbx8.size)
      obtain ⟨p9, q9⟩ := HKeep8.out w9 hb9
      cases hany : (l.any fun t => decide (nm ∈ t.bef)) with
      | true =>
        have hC2 := HCF2.out w9 hb9
        rw [HWt.out] at hC2
        clear HCF1 HCF2 hany p8 q8 HWt
        go_wp2_with fail
        refine hC2.mono ?_
        rintro e w10 ⟨rfl, hb10⟩
        go_wp2_with fail
        go_ret
        exact ⟨rfl, hbx9.trans (hb10.mono hbx9.size)⟩
      | false =>
        have HEq : Hid (norms m8 = norms (l.eraseIdx i)) := by subst hnme; exact HN8.out.trans (gone_free HR.out hi hany)
        have HLs : Hid (∀ c p, (0 ≤ c ∧ c ≤ 1000) → (0 ≤ p ∧ p ≤ 1000) → l.any (tooMuch c p) = false → validB m8 c p = true ∧ m8.any (tooMuch c p) = false ∧ (leastN m8 c p).1 ≤ (leastN l c p).1) := fun c p hc hp hf => by subst hnme; exact gone_least HR.out hc hp hf hi hany HN8.out
        have hlen8 : l.length ≤ 8 := HR.out.len
        have HClo : Hid (∀ w', Below w9.heap.size w9 w' → Calls Try.prog 32 #[.slice (some ⟨b0, off0, none⟩) l.length cc] w' fun e w'' => ∃ g cap, e = .returned (.slice (some ⟨g, 0, none⟩) l.length cap) ∧ w9.heap.size ≤ g ∧ w''.ownsRow w9.heap.size 38 5 (.slice (some ⟨g, 0, none⟩) l.length cap) l.length (l.flatMap Task.cells) ∧ Below w9.heap.size w9 w'' ∧ w''.cell? ⟨w.heap.size, 0, none⟩ = some (.slice (some ⟨b0, off0, none⟩) l.length cc) ∧ w''.cell? ⟨D4, 0, none⟩ = some (.int .i64 i)) := fun w' hb =>
          (cloneTasks (.slice (some ⟨b0, off0, none⟩) l.length cc) l w' (HT.out _ (hbx9.trans (hb.mono hbx9.size))) (by omega)).mono fun e w'' ⟨v', he, hown, hb2⟩ => by
            have hbb := hb.trans (hb2.mono hb.size)
            have hk8 := HKeep8.out w'' (hb9.trans (hbb.mono hb9.size))
            obtain ⟨g, cap, rfl, hg, -⟩ := World.ownsRow.form hown (by omega)
            exact ⟨g, cap, he, Nat.le_trans hb.size hg, own_mono hown hb.size, hbb, hk8.1, hk8.2⟩
        have HDel : Hid (∀ w' g cap, Below w9.heap.size w9 w' → w9.heap.size ≤ g → w'.ownsRow w9.heap.size 38 5 (.slice (some ⟨g, 0, none⟩) l.length cap) l.length (l.flatMap Task.cells) →
            Calls Try.prog 31 #[.slice (some ⟨g, 0, none⟩) l.length cap, .int .i64 i, .int .i64 ((i : Int) + 1)] w' fun e w'' => e = .returned (.slice (some ⟨g, 0, none⟩) (l.length - 1) cap) ∧ Hid (TasksAt w'' w''.heap.size (.slice (some ⟨g, 0, none⟩) (l.length - 1) cap) (l.eraseIdx i)) ∧ Below w9.heap.size w9 w'' ∧ w''.cell? ⟨w.heap.size, 0, none⟩ = some (.slice (some ⟨b0, off0, none⟩) l.length cc) ∧ w''.cell? ⟨D4, 0, none⟩ = some (.int .i64 i)) := fun w' g cap hb hg hown =>
          (deleteTasks w9.heap.size g cap l i w' hi (by omega) hown).mono fun e w'' ⟨he, hf, hgr⟩ => by
            have hbb := hb.grown hgr hb.size (fun k hk => by cases hk; exact hg)
            have hk8 := HKeep8.out w'' (hb9.trans (hbb.mono hb9.size))
            exact ⟨he, lv_erase (HT.out w'' (hbx9.trans (hbb.mono hbx9.size))) hf hi (Nat.le_refl _), hbb, hk8.1, hk8.2⟩
        have HL0 := Below.refl w9.heap.size w9
        have i3 : IntKind.i64.wrap ((i : Int) + 1) = (i : Int) + 1 := IntWalk.i64_in _ (by omega)
        clear HCF1 HCF2 hany p8 q8 HWt dN
        go_wp2_with fail
        go_region_held3 (fun w' => w'.cell? ⟨w.heap.size, 0, none⟩ = some (.slice (some ⟨b0, off0, none⟩) l.length cc) ∧ w'.cell? ⟨D4, 0, none⟩ = some (.int .i64 i) ∧ Below w9.heap.size w9 w')
          (first
            | (exact ⟨by assumption, by assumption, by assumption⟩)
            | (go_split_ands; exact ⟨by assumption, by assumption, by assumption⟩)
            | (go_split_ands; exact ⟨by assumption, by assumption, by apply Below.drew; assumption⟩)
            | go_keep)
          (first
            | (go_at_call 32; refine (HClo.out _ (by first | assumption | (go_split_ands; assumption))).mono ?_; rintro e w10 ⟨g10, cap10, rfl, hg10, hown10, hb10, c10, d10⟩)
            | (go_at_call 31; refine (HDel.out _ g10 cap10 (by first | assumption | (go_split_ands; assumption)) hg10 hown10).mono ?_; rintro e w11 ⟨rfl, hT11, hb11, c11, d11⟩))
        have hbx11 := hbx9.trans (hb11.mono hbx9.size)
        have hb811 := hb9.trans (hb11.mono hb9.size)
        clear hown10 hb10 c10 d10 HClo HDel HL0 p9 q9
        go_wp2_with fail
        refine (HLe.out c p _ hbx11).mono ?_
        rintro e w12 ⟨hb12, hpost⟩
        have hbx12 := hbx11.trans (hb12.mono hbx11.size)
        have hb812 := hb811.trans (hb12.mono hb811.size)
        have hL8 := schedLeast _ m8 c p w12 (HT8'.out _ hb812)
        have HSm : Hid (∀ w13, Below w12.heap.size w12 w13 → Calls Try.prog 13 #[.slice A8 m8.length c8, .slice (some ⟨g10, 0, none⟩) (l.length - 1) cap10] w13 fun e w' => e = .returned (.bool true) ∧ Below w13.heap.size w13 w') := fun w13 hb13 => by
          have h1 := HT8'.out w13 (hb812.trans (hb13.mono hb812.size))
          have h2 := (hT11.out.below (hb12.trans (hb13.mono hb12.size)) (Nat.le_refl _)).mono (hb12.trans (hb13.mono hb12.size)).size
          exact refSame _ _ m8 (l.eraseIdx i) w13 h1 h2 HEq.out
        rcases hpost with ⟨hv, rfl⟩ | ⟨hv, hn, rfl⟩ | ⟨hv, hn, A12, cap12, rfl, -⟩
        · clear hv hT11
          go_wp2_with fail
          refine hL8.mono ?_
          rintro e w13 ⟨hb13, hpost⟩
          have hbx13 := hbx12.trans (hb13.mono hbx12.size)
          have hS := HSm.out w13 hb13
          obtain ⟨M, F, sl, rfl⟩ : ∃ M F sl, e = .returned (.tuple #[.int .i64 M, sl, .int .i64 F]) := by
            rcases hpost with ⟨-, rfl⟩ | ⟨-, -, rfl⟩ | ⟨-, -, A, cap, rfl, -⟩ <;> exact ⟨_, _, _, rfl⟩
          clear hpost
          go_wp2_with (go_at_call 13; refine hS.mono ?_; rintro e w14 ⟨rfl, hb14⟩)
          go_ret
          exact ⟨rfl, hbx13.trans (hb14.mono hbx13.size)⟩
        · clear hv hn hT11
          go_wp2_with fail
          refine hL8.mono ?_
          rintro e w13 ⟨hb13, hpost⟩
          have hbx13 := hbx12.trans (hb13.mono hbx12.size)
          have hS := HSm.out w13 hb13
          obtain ⟨M, F, sl, rfl⟩ : ∃ M F sl, e = .returned (.tuple #[.int .i64 M, sl, .int .i64 F]) := by
            rcases hpost with ⟨-, rfl⟩ | ⟨-, -, rfl⟩ | ⟨-, -, A, cap, rfl, -⟩ <;> exact ⟨_, _, _, rfl⟩
          clear hpost
          go_wp2_with (go_at_call 13; refine hS.mono ?_; rintro e w14 ⟨rfl, hb14⟩)
          go_ret
          exact ⟨rfl, hbx13.trans (hb14.mono hbx13.size)⟩
        · obtain ⟨-, hc0, hc1, hp0, hp1⟩ := valid_right hv
          obtain ⟨h1, h2, h3⟩ := HLs.out c p ⟨hc0, hc1⟩ ⟨hp0, hp1⟩ hn
          have Hv2 := Lib.hid h1
          have Hn2 := Lib.hid h2
          have dle : decide ((leastN m8 c p).1 ≤ (leastN l c p).1) = true := decide_eq_true h3
          clear hv hn hT11 h1 h2 h3
          go_wp2_with fail
          refine hL8.mono ?_
          rintro e w13 ⟨hb13, hpost⟩
          have hbx13 := hbx12.trans (hb13.mono hbx12.size)
          have hS := HSm.out w13 hb13
          rcases hpost with ⟨hno, -⟩ | ⟨-, hno, -⟩ | ⟨-, -, A13, cap13, rfl, -⟩
          · rw [Hv2.out] at hno; cases hno
          · rw [Hn2.out] at hno; cases hno
          generalize (leastN m8 c p).1 = M8 at *
          generalize (leastN m8 c p).2.length = N8 at *
          generalize (leastN l c p).1 = M9 at *
          generalize (leastN l c p).2.length = N9 at *
          go_wp2_with (go_at_call 13; refine hS.mono ?_; rintro e w14 ⟨rfl, hb14⟩)
          go_ret
          exact ⟨rfl, hbx13.trans (hb14.mono hbx13.size)⟩

end Go.Proofs.Ytfcfphamecbcgaa

/- ReplanLeaves: for every input the law returns true, and its arguments read as they did. -/
namespace Go.Proofs.Ytfcfphamecbcgaa
open Go.ChangeShapes Go.WideShapes Go.ChangeAt Go.RowKit

theorem replanLeaves_u8 {y : Int} (h : (Lit.int .u8 y).wf = true) : 0 ≤ y ∧ y ≤ 255 := by
  simp [Lit.wf, IntKind.min, IntKind.max, IntKind.signed, IntKind.bits] at h
  omega

set_option maxRecDepth 100000 in
theorem replanLeaves_lifted (os : Os) (started : os.Started) (H : Type) (enc : TypeId × Value → H) :
    ReturnsInHanded {} Try.checked os 8 .any (Rows.replanLeavesSpec.pre6 enc Try.prog Try.f8 Rows.replanLeavesRow.domain false) (Rows.replanLeavesSpec.post enc Try.prog Try.f8 false true false false) := by
  refine law_lifted started (by kernel_rfl) Try.func8 rfl (by kernel_rfl) ?_ ?_ (ChangeSpec.witness6 (enc := enc) (C := Try.checked) false ⟨#[], #[.slice none 0 0, .int .i64 0, .int .i64 0, .int .u8 0], []⟩ 8 (by kernel_rfl) (by kernel_rfl) (by kernel_rfl) (by kernel_rfl)) ?_
  · rw [Try.params8]
    intro t ht
    simp only [List.mem_cons, List.not_mem_nil, or_false] at ht
    rcases ht with rfl | rfl | rfl | rfl <;> exact ⟨by kernel_rfl, of_decide_eq_true (by kernel_rfl)⟩
  · intro ds hds
    match ds, hds with
    | [d0, d1, d2, d3], _ => exact ⟨rfl, rfl, rfl⟩
  · intro W base args ds ps hval hA
    rw [Try.params8] at hA hval
    obtain ⟨v0, vs0, d0, ds0, p0, q0, hargs, rfl, rfl, h0, r0⟩ := trodAll_cons hA
    obtain ⟨v1, vs1, d1, ds1, p1, q1, rfl, rfl, rfl, h1, r1⟩ := trodAll_cons r0
    obtain ⟨v2, vs2, d2, ds2, p2, q2, rfl, rfl, rfl, h2, r2⟩ := trodAll_cons r1
    obtain ⟨v3, vs3, d3, ds3, p3, q3, rfl, rfl, rfl, h3, r3⟩ := trodAll_cons r2
    obtain ⟨rfl, rfl, rfl⟩ := trodAll_nil r3
    obtain rfl : args = #[v0, v1, v2, v3] := by cases args; simp_all
    obtain ⟨a0, n0, c0, rfl⟩ := okWide_slice Try.underlying22 (hval 0 22 v0 rfl rfl)
    obtain ⟨fuel0, hf0⟩ := h0
    obtain ⟨x0, hx0⟩ := tasks_of_trod hf0
    obtain ⟨x1, rfl, -, -, wf1⟩ := open_int Try.underlying3 (hval 1 3 v1 rfl rfl) h1
    clear wf1
    obtain ⟨x2, rfl, -, -, wf2⟩ := open_int Try.underlying3 (hval 2 3 v2 rfl rfl) h2
    clear wf2
    obtain ⟨x3, rfl, -, -, wf3⟩ := open_int Try.underlying5 (hval 3 5 v3 rfl rfl) h3
    exact lawReplanLeaves _ x0 x1 x2 x3 W hx0 (replanLeaves_u8 wf3)

theorem replanLeaves_holds : Rows.ReplanLeavesSaid :=
  OpenClaim.holds_of_wide 8 Try.f8 rfl rfl rfl rfl rfl rfl rfl ⟨rfl, rfl, rfl, rfl, rfl⟩ rfl rfl rfl rfl rfl (by kernel_rfl) Try.func8 (by kernel_rfl)
    (of_decide_eq_true (by kernel_rfl)) (by unfold Func.isWrapper; first | (rw [if_pos (by decide +kernel)]; kernel_rfl) | (rw [if_neg (by decide +kernel)]; exact ⟨rfl, rfl⟩))
    (fun os started H enc _ => replanLeaves_lifted os started H enc)
#print axioms replanLeaves_holds

end Go.Proofs.Ytfcfphamecbcgaa
