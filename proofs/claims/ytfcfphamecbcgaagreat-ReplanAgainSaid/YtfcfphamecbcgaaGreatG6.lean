/- Parts of the proof, laid into one text: RefAt, RefFits, Tied, FurP, RefEarly, RefReady, QTail, RefList, RefLen, RefFur. -/
import Derived.StillTail
import Derived.Test.YtfcfphamecbcgaaGreatG2
import Derived.Test.YtfcfphamecbcgaaGreatG4
import Derived.Test.YtfcfphamecbcgaaGreatG8

/- the reference's At. -/
namespace Go.Proofs.YtfcfphamecbcgaaGreat
open Go.RowKit Go.Shelf

/-- A task runs at a time, by the reference. -/
def onR (l : List Task) (r : List Int) (t : Int) (i : Nat) : Bool := decide (atI r i ≤ t) && decide (t < endN l r i)
/-- What the tasks of a list need at a time. -/
def usedY (f : Task → Int) (l : List Task) (r : List Int) (t : Int) (y : List Nat) : Int := y.foldl (fun a i => a + if onR l r t i then fAt f l i else 0) 0
theorem usedY_snoc {f : Task → Int} {l : List Task} {r : List Int} {t : Int} {y : List Nat} {k : Nat} (h : k < y.length) : usedY f l r t (y.take (k + 1)) = usedY f l r t (y.take k) + if onR l r t y[k] then fAt f l y[k] else 0 := by
  unfold usedY
  rw [take_snoc y k h, List.foldl_append]
  rfl
theorem usedY_bd {f : Task → Int} {l : List Task} {r : List Int} {t : Int} {y : List Nat} (hy : ∀ i ∈ y, i < l.length) (hf : ∀ i, i < l.length → 0 ≤ fAt f l i ∧ fAt f l i ≤ 100) : ∀ k, k ≤ y.length → 0 ≤ usedY f l r t (y.take k) ∧ usedY f l r t (y.take k) ≤ 100 * k
  | 0, _ => by simp [usedY]
  | k + 1, hk => by
    have h1 := usedY_bd (r := r) (t := t) hy hf k (by omega)
    have h2 := hf _ (hy _ (List.getElem_mem (show k < y.length by omega)))
    rw [usedY_snoc (by omega)]
    split <;> omega

set_option maxRecDepth 100000 in
set_option maxHeartbeats 4000000 in
theorem refAt43 (v u z : Value) (l : List Task) (r : List Int) (y : List Nat) (t : Int) (B : Nat) (w : World) (hR : RightT l) (hl : TasksAt w B v l) (hr : IntsAt w B u r) (hz : IntsAt w B z (ints y)) (hlen : r.length = l.length) (hbd : ∀ x ∈ r, -1 ≤ x ∧ x ≤ 1000000) (hy : ∀ i ∈ y, i < l.length) (hy8 : y.length ≤ 8) :
    Calls Tryz.prog 101 #[v, u, z, .int .i64 t] w fun e w' => e = .returned (.tuple #[.int .i64 (usedY Task.crew l r t y), .int .i64 (usedY Task.pow l r t y)]) ∧ ∃ q, w.drewN q = w' := by
  have h8 := hR.len
  have HR := Lib.hid hR
  have HL := Lib.hid hl
  have HBd := Lib.hid hbd
  have HY := Lib.hid hy
  have hrc := hr.open_
  have hzc := hz.open_
  obtain ⟨A, cc, rfl, hA1, hA2, -⟩ := hl.open_
  obtain ⟨A1, c1, rfl, hB1, hB2, hBc⟩ := hrc
  obtain ⟨A2, c2, rfl, hC1, hC2, hCc⟩ := hzc
  unfold maxLen at hA2 hB2 hC2
  rw [length_ints] at hC1 ⊢
  rw [hlen] at hB1 ⊢
  have HBc := Lib.hid hBc
  have HCc := Lib.hid hCc
  have HLen := Lib.hid hlen
  clear hR hl hr hz hbd hy hBc hCc
  go_enter Tryz.func101, Tryz.ntmps101
  go_wp2
  go_loopw [12, 10, 11] (fun ix a b wr => ∃ k : Nat, k ≤ y.length ∧ ix = .int .i64 k ∧ a = .int .i64 (usedY Task.crew l r t (y.take k)) ∧ b = .int .i64 (usedY Task.pow l r t (y.take k)) ∧ ∃ q, wr = w.drewN q) (fun ix _ _ _ => y.length - (intOf ix).toNat)
  case atStart => exact ⟨0, Nat.zero_le _, rfl, rfl, rfl, 0, rfl⟩
  case round =>
    obtain ⟨k, hk, rfl, rfl, rfl, q, rfl⟩ := hrel
    have hbA := usedY_bd (r := r) (t := t) HY.out (crew_bd HR.out) k hk
    have hbB := usedY_bd (r := r) (t := t) HY.out (pow_bd HR.out) k hk
    by_cases hkl : k < y.length
    · have hi := HY.out _ (List.getElem_mem hkl)
      have E1 := usedY_snoc (f := Task.crew) (l := l) (r := r) (t := t) hkl
      have E2 := usedY_snoc (f := Task.pow) (l := l) (r := r) (t := t) hkl
      rw [fAt_get hi] at E1 E2
      have hcr := fieldB_crew (HR.out.field _ hi)
      have hpw := fieldB_pow (HR.out.field _ hi)
      have hln := fieldB_len (HR.out.field _ hi)
      obtain ⟨b2, off2, rfl, hb2, hcz⟩ := HCc.out k (by rw [length_ints]; exact hkl)
      have z1 := hcz k (by rw [length_ints]; exact hkl)
      have ez : (ints y)[k]'(by rw [length_ints]; exact hkl) = ((y[k] : Nat) : Int) := by simp [ints]
      rw [ez] at z1
      obtain ⟨b1, off1, rfl, hb1, hcr1⟩ := HBc.out y[k] (by rw [HLen.out]; exact hi)
      have r1 := hcr1 y[k] (by rw [HLen.out]; exact hi)
      rw [← atI_get (by rw [HLen.out]; exact hi)] at r1
      obtain ⟨b0, off0, e0, hb0, hct⟩ := HL.out.cells hi
      subst e0
      obtain ⟨-, t1, t2, t3, -⟩ := hct _ hi
      have hxb := HBd.out _ (List.getElem_mem (show y[k] < r.length by rw [HLen.out]; exact hi))
      rw [← atI_get (by rw [HLen.out]; exact hi)] at hxb
      have HE : Hid (endN l r y[k] = atI r y[k] + l[y[k]].len) := by unfold Hid endN; rw [lenAt_eq hi]
      have HOn : Hid (onR l r t y[k] = (decide (atI r y[k] ≤ t) && decide (t < endN l r y[k]))) := rfl
      rw [HE.out] at HOn
      clear HE hct hcz ez hcr1
      generalize l[y[k]].crew = cr at *
      generalize l[y[k]].pow = pw at *
      generalize l[y[k]].len = ln at *
      generalize onR l r t y[k] = on at *
      generalize y[k] = i at *
      generalize atI r i = x at *
      have i1 : (0 : Int) ≤ (i : Int) := Int.natCast_nonneg _
      have i2 : (i : Int) < (l.length : Int) := by omega
      have i3 : (0 : Int) ≤ (k : Int) := Int.natCast_nonneg _
      have i4 : (k : Int) < (y.length : Int) := by omega
      have w1 : IntKind.i64.wrap (x + ln) = x + ln := IntWalk.i64_in _ (by omega)
      by_cases d1 : x ≤ t
      · by_cases d2 : t < x + ln
        · have HOn' : Hid (on = true) := by unfold Hid; rw [HOn.out]; simp [d1, d2]
          rw [HOn'.out, if_pos rfl] at E1 E2
          have HE1 := Lib.hid E1
          have HE2 := Lib.hid E2
          have w2 : IntKind.i64.wrap (usedY Task.crew l r t (y.take k) + cr) = usedY Task.crew l r t (y.take k) + cr := IntWalk.i64_in _ (by omega)
          have w3 : IntKind.i64.wrap (usedY Task.pow l r t (y.take k) + pw) = usedY Task.pow l r t (y.take k) + pw := IntWalk.i64_in _ (by omega)
          clear E1 E2 HOn
          go_wp2_with fail
          go_quiet (fail)
          go_wp2
          go_roundw
          case rel => exact ⟨k + 1, by omega, by go_num, by rw [HE1.out], by rw [HE2.out], _, rfl⟩
          case measure => simp [intOf]; omega
        · have HOn' : Hid (on = false) := by unfold Hid; rw [HOn.out]; simp [d2]
          rw [HOn'.out, if_neg (by simp), Int.add_zero] at E1 E2
          have HE1 := Lib.hid E1
          have HE2 := Lib.hid E2
          have d2b : decide (t < x + ln) = false := by simpa using d2
          clear E1 E2 HOn
          go_wp2_with fail
          go_quiet (fail)
          go_wp2
          go_roundw
          case rel => exact ⟨k + 1, by omega, by go_num, by rw [HE1.out], by rw [HE2.out], _, rfl⟩
          case measure => simp [intOf]; omega
      · have HOn' : Hid (on = false) := by unfold Hid; rw [HOn.out]; simp [d1]
        rw [HOn'.out, if_neg (by simp), Int.add_zero] at E1 E2
        have HE1 := Lib.hid E1
        have HE2 := Lib.hid E2
        have d1b : decide (x ≤ t) = false := by simpa using d1
        clear E1 E2 HOn
        go_wp2_with fail
        go_quiet (fail)
        go_wp2
        go_roundw
        case rel => exact ⟨k + 1, by omega, by go_num, by rw [HE1.out], by rw [HE2.out], _, rfl⟩
        case measure => simp [intOf]; omega
    · have hke : k = y.length := by omega
      subst hke
      rw [List.take_length]
      go_wp2_with fail
      refine bodyPost_ret (results_tmp2 rfl _ _ _) (by rfl) ?_
      exact ⟨rfl, _, rfl⟩

end Go.Proofs.YtfcfphamecbcgaaGreat

/- the reference's fits. -/
namespace Go.Proofs.YtfcfphamecbcgaaGreat
open Go.RowKit Go.Shelf

/-- A start within a task's time. -/
def inB (t n x : Int) : Bool := decide (t < x) && decide (x < t + n)
/-- The times at which a task is looked at. -/
def timesR (l : List Task) (r : List Int) (i : Nat) (t : Int) (y : List Nat) : List Int := t :: (y.map (atI r)).filter (inB t (lenAt l i))
/-- At a time there is crew and power left for a task. -/
def roomB (l : List Task) (c p : Int) (r : List Int) (y : List Nat) (i : Nat) (x : Int) : Bool := decide (usedY Task.crew l r x y + fAt Task.crew l i ≤ c) && decide (usedY Task.pow l r x y + fAt Task.pow l i ≤ p)
def fitsR (l : List Task) (c p : Int) (r : List Int) (y : List Nat) (i : Nat) (t : Int) : Bool := (timesR l r i t y).all (roomB l c p r y i)

theorem timesR_snoc {l : List Task} {r : List Int} {i : Nat} {t : Int} {y : List Nat} {k : Nat} (h : k < y.length) :
    timesR l r i t (y.take (k + 1)) = if inB t (lenAt l i) (atI r y[k]) then timesR l r i t (y.take k) ++ [atI r y[k]] else timesR l r i t (y.take k) := by
  unfold timesR
  rw [take_snoc y k h, List.map_append, List.filter_append]
  cases h' : inB t (lenAt l i) (atI r y[k]) <;> simp [h']
theorem timesR_len {l : List Task} {r : List Int} {i : Nat} {t : Int} {y : List Nat} : (timesR l r i t y).length ≤ y.length + 1 := by
  unfold timesR
  have := List.length_filter_le (inB t (lenAt l i)) (y.map (atI r))
  rw [List.length_map] at this
  simp only [List.length_cons]
  omega

theorem timesR_mem {l : List Task} {r : List Int} {i : Nat} {t : Int} {y : List Nat} {P : Int → Prop} (ht : P t) (hr : ∀ x ∈ r, P x) (h0 : P 0) : ∀ x ∈ timesR l r i t y, P x := by
  intro x hx
  unfold timesR at hx
  rcases List.mem_cons.1 hx with rfl | hx
  · exact ht
  · obtain ⟨j, hj, rfl⟩ := List.mem_map.1 (List.mem_filter.1 hx).1
    by_cases h : j < r.length
    · rw [atI_get h]; exact hr _ (List.getElem_mem h)
    · unfold atI
      rw [List.getD_eq_getElem?_getD, List.getElem?_eq_none (by omega)]
      exact h0

set_option maxRecDepth 100000 in
set_option maxHeartbeats 8000000 in
theorem refFits43 (v u z : Value) (l : List Task) (c p : Int) (r : List Int) (y : List Nat) (i : Nat) (t : Int) (w : World) (hR : RightT l) (hl : TasksAt w w.heap.size v l) (hr : IntsAt w w.heap.size u r) (hz : IntsAt w w.heap.size z (ints y)) (hlen : r.length = l.length) (hbd : ∀ x ∈ r, -1 ≤ x ∧ x ≤ 1000000) (hy : ∀ i ∈ y, i < l.length) (hy8 : y.length ≤ 8) (hi : i < l.length) (ht : 0 ≤ t ∧ t ≤ 1010000) :
    Calls Tryz.prog 87 #[v, .int .i64 c, .int .i64 p, u, z, .int .i64 i, .int .i64 t] w fun e w' => e = .returned (.bool (fitsR l c p r y i t)) ∧ Below w.heap.size w w' := by
  have HA : Hid (∀ x w', Below w.heap.size w w' → Calls Tryz.prog 101 #[v, u, z, .int .i64 x] w' fun e w'' => e = .returned (.tuple #[.int .i64 (usedY Task.crew l r x y), .int .i64 (usedY Task.pow l r x y)]) ∧ ∃ q, w'.drewN q = w'') := fun x w' hb =>
    refAt43 v u z l r y x w.heap.size w' hR (hl.below hb (Nat.le_refl _)) (hr.below hb (Nat.le_refl _)) (hz.below hb (Nat.le_refl _)) hlen hbd hy hy8
  have h8 := hR.len
  have hln := fieldB_len (hR.field i hi)
  have hcr := fieldB_crew (hR.field i hi)
  have hpw := fieldB_pow (hR.field i hi)
  have HUA : Hid (∀ x, 0 ≤ usedY Task.crew l r x y ∧ usedY Task.crew l r x y ≤ 800) := fun x => by
    have := usedY_bd (r := r) (t := x) hy (crew_bd hR) y.length (Nat.le_refl _)
    rw [List.take_length] at this
    omega
  have HUB : Hid (∀ x, 0 ≤ usedY Task.pow l r x y ∧ usedY Task.pow l r x y ≤ 800) := fun x => by
    have := usedY_bd (r := r) (t := x) hy (pow_bd hR) y.length (Nat.le_refl _)
    rw [List.take_length] at this
    omega
  have hrc := hr.open_
  have hzc := hz.open_
  obtain ⟨A, cc, rfl, hA1, hA2, -⟩ := hl.open_
  obtain ⟨A1, c1, rfl, hB1, hB2, hBc⟩ := hrc
  obtain ⟨A2, c2, rfl, hC1, hC2, hCc⟩ := hzc
  obtain ⟨b0, off0, rfl, hb0, hct⟩ := hl.cells hi
  obtain ⟨-, t1, t2, t3, -⟩ := hct i hi
  unfold maxLen at hA2 hB2 hC2
  rw [length_ints] at hC1 HA ⊢
  rw [hlen] at hB1 HA ⊢
  have HRC : Hid (∀ k (hk : k < y.length), ∃ b off b1 off1, A2 = some ⟨b, off, none⟩ ∧ b < w.heap.size ∧ w.cell? ⟨b, off + k, none⟩ = some (.int .i64 (y[k] : Nat)) ∧ A1 = some ⟨b1, off1, none⟩ ∧ b1 < w.heap.size ∧ w.cell? ⟨b1, off1 + y[k], none⟩ = some (.int .i64 (atI r y[k])) ∧ y[k] < l.length ∧ -1 ≤ atI r y[k] ∧ atI r y[k] ≤ 1000000) := fun k hk => by
    obtain ⟨b, off, e, hb, hc⟩ := hCc k (by rw [length_ints]; exact hk)
    have hj := hy _ (List.getElem_mem hk)
    obtain ⟨b1, off1, e1, hb1, hc1⟩ := hBc y[k] (by omega)
    have h1 := hc k (by rw [length_ints]; exact hk)
    have h2 := hc1 y[k] (by omega)
    rw [← atI_get (by omega)] at h2
    have h3 := hbd _ (List.getElem_mem (show y[k] < r.length by omega))
    rw [← atI_get (by omega)] at h3
    exact ⟨b, off, b1, off1, e, hb, by simpa [ints] using h1, e1, hb1, h2, hj, h3⟩
  have HTm : Hid (∀ x ∈ timesR l r i t y, -1 ≤ x ∧ x ≤ 1010000) := timesR_mem (by omega) (fun x hx => by have := hbd x hx; omega) (by omega)
  have HTl : Hid ((timesR l r i t y).length ≤ 9) := by have := timesR_len (l := l) (r := r) (i := i) (t := t) (y := y); unfold Hid; omega
  have HLen := lenAt_eq hi
  have HCr := fAt_get (f := Task.crew) hi
  have HPw := fAt_get (f := Task.pow) hi
  have i1 : (0 : Int) ≤ (i : Int) := Int.natCast_nonneg _
  have i2 : (i : Int) < (l.length : Int) := by omega
  have HR' : Hid (fitsR l c p r y i t = (timesR l r i t y).all (roomB l c p r y i)) := rfl
  have hb00 : Below w.heap.size w (w.alloc (.cells #[.int .i64 t] 3)) := (Below.refl _ _).alloc (Nat.le_refl _) _
  have hown0 : (w.alloc (.cells #[.int .i64 t] 3)).ownsRow w.heap.size 3 1 (.slice (some ⟨w.heap.size, 0, none⟩) (timesR l r i t (y.take 0)).length 1) (timesR l r i t (y.take 0)).length ((timesR l r i t (y.take 0)).map (Value.int .i64)) := own_of_whole (Blk.new w 3 #[.int .i64 t]) (Nat.le_refl _) rfl (by simp [maxLen, timesR])
  have Hown0 := Lib.hid hown0
  have HT2 : Hid (∀ w', Below w.heap.size w w' → w'.cell? ⟨b0, off0 + i * 5 + 1, none⟩ = some (.int .i64 l[i].len) ∧ w'.cell? ⟨b0, off0 + i * 5 + 2, none⟩ = some (.int .i64 l[i].crew) ∧ w'.cell? ⟨b0, off0 + i * 5 + 3, none⟩ = some (.int .i64 l[i].pow)) := fun w' hb => ⟨(hb.cell (p := ⟨b0, _, none⟩) hb0).trans t1, (hb.cell (p := ⟨b0, _, none⟩) hb0).trans t2, (hb.cell (p := ⟨b0, _, none⟩) hb0).trans t3⟩
  clear hl hr hz hBc hCc hct t1 t2 t3 hown0 hR hbd hy
  go_enter Tryz.func87, Tryz.ntmps87
  go_wp2_with fail
  generalize w.alloc (.cells #[.int .i64 t] 3) = w1 at *
  go_loopw [16, 15] (fun ix tv wr => ∃ (k gT cap : Nat), k ≤ y.length ∧ ix = .int .i64 k ∧ tv = .slice (some ⟨gT, 0, none⟩) (timesR l r i t (y.take k)).length cap ∧
    Hid (wr.ownsRow w.heap.size 3 1 (.slice (some ⟨gT, 0, none⟩) (timesR l r i t (y.take k)).length cap) (timesR l r i t (y.take k)).length ((timesR l r i t (y.take k)).map (Value.int .i64))) ∧ Below w.heap.size w wr) (fun ix _ _ => y.length - (intOf ix).toNat)
  case atStart => exact ⟨0, w.heap.size, 1, Nat.zero_le _, rfl, rfl, Hown0, hb00⟩
  case round =>
    clear Hown0 hb00
    obtain ⟨k, gT, capT, hk, rfl, rfl, Hown, hbel⟩ := hrel
    by_cases hkl : k < y.length
    · obtain ⟨b, off, b1, off1, rfl, hb, hz1, rfl, hb1, hr1, hyk, hx1, hx2⟩ := HRC.out k hkl
      have z1 := (hbel.cell (p := ⟨b, _, none⟩) hb).trans hz1
      have r1 := (hbel.cell (p := ⟨b1, _, none⟩) hb1).trans hr1
      obtain ⟨t1, -, -⟩ := HT2.out wr hbel
      have hS := timesR_snoc (l := l) (r := r) (i := i) (t := t) hkl
      rw [HLen] at hS
      have hcapT := own_cap Hown.out
      have hTl := timesR_len (l := l) (r := r) (i := i) (t := t) (y := y.take k)
      rw [List.length_take] at hTl
      have i3 : (0 : Int) ≤ (k : Int) := Int.natCast_nonneg _
      have i4 : (k : Int) < (y.length : Int) := by omega
      have i5 : (0 : Int) ≤ ((y[k] : Nat) : Int) := Int.natCast_nonneg _
      have i6 : ((y[k] : Nat) : Int) < (l.length : Int) := by omega
      have HS := Lib.hid hS
      clear hS hz1 hr1
      generalize y[k] = j at *
      generalize atI r j = x at *
      have w1 : IntKind.i64.wrap (t + l[i].len) = t + l[i].len := IntWalk.i64_in _ (by omega)
      have HI : Hid (inB t l[i].len x = (decide (t < x) && decide (x < t + l[i].len))) := rfl
      by_cases d1 : t < x
      · by_cases d2 : x < t + l[i].len
        · have HS' : Hid (timesR l r i t (y.take (k + 1)) = timesR l r i t (y.take k) ++ [x]) := by unfold Hid; rw [HS.out, HI.out]; simp [d1, d2]
          clear HS HI
          go_wp2_with (at_builtin; refine wpList_pushN _ rfl (.tmp 50) (.tmp 52) 23 rfl w.heap.size 3 info_int Tryz.underlying23 rfl _ (timesR l r i t (y.take k)).length _ rfl Hown.out (.int .i64 x) rfl wr.heap.size (by simp) rfl (by unfold maxLen; omega) (by omega) (by simpa using hbel.size) ?_; intro g3 cap3 w3 hown3 hgrow3 hbg hgg)
          have hown3' : w3.ownsRow w.heap.size 3 1 (.slice (some ⟨g3, 0, none⟩) (timesR l r i t (y.take (k + 1))).length cap3) (timesR l r i t (y.take (k + 1))).length ((timesR l r i t (y.take (k + 1))).map (Value.int .i64)) := by
            rw [HS'.out, List.length_append, List.length_singleton, List.map_append]
            exact hown3
          have hb3 : Below w.heap.size w w3 := hbel.grown hgrow3 hbel.size (fun k hk => by cases hk; exact (Hown.out.lt _ rfl).1)
          have Hown3 := Lib.hid hown3'
          clear hown3 hown3' hgrow3 hgg
          go_wp2
          go_roundw
          case rel => exact ⟨k + 1, g3, cap3, by omega, by go_num, by rw [HS'.out, List.length_append, List.length_singleton], Hown3, hb3⟩
          case measure => simp [intOf]; omega
        · have HS' : Hid (timesR l r i t (y.take (k + 1)) = timesR l r i t (y.take k)) := by unfold Hid; rw [HS.out, HI.out]; simp [d2]
          have d2b : decide (x < t + l[i].len) = false := by simpa using d2
          clear HS HI
          go_wp2_with fail
          go_roundw
          case rel => exact ⟨k + 1, gT, capT, by omega, by go_num, by rw [HS'.out], by rw [HS'.out]; exact Hown, hbel⟩
          case measure => simp [intOf]; omega
      · have HS' : Hid (timesR l r i t (y.take (k + 1)) = timesR l r i t (y.take k)) := by unfold Hid; rw [HS.out, HI.out]; simp [d1]
        have d1b : decide (t < x) = false := by simpa using d1
        clear HS HI
        go_wp2_with fail
        go_roundw
        case rel => exact ⟨k + 1, gT, capT, by omega, by go_num, by rw [HS'.out], by rw [HS'.out]; exact Hown, hbel⟩
        case measure => simp [intOf]; omega
    · have hke : k = y.length := by omega
      subst hke
      rw [List.take_length] at Hown
      rw [List.take_length]
      have hcapT := own_cap Hown.out
      have HR2 : Hid (∀ x, roomB l c p r y i x = (decide (usedY Task.crew l r x y + l[i].crew ≤ c) && decide (usedY Task.pow l r x y + l[i].pow ≤ p))) := fun x => by unfold roomB; rw [HCr, HPw]
      have hTl := HTl.out
      obtain ⟨-, t2, t3⟩ := HT2.out wr hbel
      clear HRC HLen HCr HPw HT2 HTl
      generalize timesR l r i t y = T at *
      go_wp2
      go_loopw [18] (fun ix wr' => ∃ j : Nat, j ≤ T.length ∧ ix = .int .i64 j ∧ Hid (∀ x ∈ T.take j, roomB l c p r y i x = true) ∧ ∃ q, wr' = wr.drewN q) (fun ix _ => T.length - (intOf ix).toNat)
      case atStart => exact ⟨0, Nat.zero_le _, rfl, fun x hx => absurd hx (by simp), 0, rfl⟩
      case round =>
        obtain ⟨j, hj, rfl, HNo, q, rfl⟩ := hrel
        by_cases hjl : j < T.length
        · have hcT := Hown.out.cellAt j (by omega)
          rw [List.getElem?_map, List.getElem?_eq_getElem hjl, Option.map_some] at hcT
          have hx := HTm.out _ (List.getElem_mem hjl)
          have HAc := HA.out T[j] (wr.drewN q) (below_drewN hbel q)
          have hua := HUA.out T[j]
          have hub := HUB.out T[j]
          have HRm := HR2.out T[j]
          have HNx : Hid (roomB l c p r y i T[j] = true → ∀ x ∈ T.take (j + 1), roomB l c p r y i x = true) := fun h x hx => by
            rw [take_snoc T j hjl] at hx
            rcases List.mem_append.1 hx with hx | hx
            · exact HNo.out x hx
            · rw [List.mem_singleton.1 hx]; exact h
          have HNf : Hid (roomB l c p r y i T[j] = false → fitsR l c p r y i t = false) := fun h => by rw [HR'.out, List.all_eq_false]; exact ⟨_, List.getElem_mem hjl, by simp [h]⟩
          have i3 : (0 : Int) ≤ (j : Int) := Int.natCast_nonneg _
          have i4 : (j : Int) < (T.length : Int) := by omega
          have HRm' := Lib.hid HRm
          clear HRm HNo
          generalize roomB l c p r y i T[j] = rm at *
          generalize usedY Task.crew l r T[j] y = ua at *
          generalize usedY Task.pow l r T[j] y = ub at *
          generalize T[j] = x at *
          have w1 : IntKind.i64.wrap (ua + l[i].crew) = ua + l[i].crew := IntWalk.i64_in _ (by omega)
          have w2 : IntKind.i64.wrap (ub + l[i].pow) = ub + l[i].pow := IntWalk.i64_in _ (by omega)
          by_cases d1 : ua + l[i].crew ≤ c
          · by_cases d2 : ub + l[i].pow ≤ p
            · have hN := Lib.hid (HNx.out (by rw [HRm'.out]; simp [d1, d2]))
              clear HNx HNf HRm'
              go_wp2_with (go_at_call 101; refine HAc.mono ?_; rintro e w' ⟨rfl, q2, rfl⟩)
              go_roundw
              case rel => exact ⟨j + 1, by omega, by go_num, hN, _, rfl⟩
              case measure => simp [intOf]; omega
            · have hN := Lib.hid (HNf.out (by rw [HRm'.out]; simp [d2]))
              clear HNx HNf HRm'
              go_wp2_with (go_at_call 101; refine HAc.mono ?_; rintro e w' ⟨rfl, q2, rfl⟩)
              go_ret
              exact ⟨ret_bool hN.out.symm, below_drewN hbel _⟩
          · have hN := Lib.hid (HNf.out (by rw [HRm'.out]; simp [d1]))
            clear HNx HNf HRm'
            go_wp2_with (go_at_call 101; refine HAc.mono ?_; rintro e w' ⟨rfl, q2, rfl⟩)
            go_ret
            exact ⟨ret_bool hN.out.symm, below_drewN hbel _⟩
        · have hje : j = T.length := by omega
          subst hje
          have hV : Hid (fitsR l c p r y i t = true) := by
            unfold Hid
            rw [HR'.out, List.all_eq_true]
            intro x hx
            exact HNo.out x (by rwa [List.take_length])
          go_wp2_with fail
          go_ret
          exact ⟨ret_bool hV.out.symm, below_drewN hbel _⟩

end Go.Proofs.YtfcfphamecbcgaaGreat

/- The reference's least start, and the program's: plain. -/
namespace Go.Proofs.YtfcfphamecbcgaaGreat
open Go.RowKit Go.Shelf

/-- y are the placed tasks; s the program's starts, r the reference's. -/
structure Tied (l : List Task) (s r : List Int) (y : List Nat) : Prop where
  len : s.length = l.length
  lenR : r.length = l.length
  nodup : y.Nodup
  lt : ∀ i ∈ y, i < l.length
  on : ∀ i ∈ y, atI s i = atI r i ∧ 0 ≤ atI r i
  off : ∀ i, i < l.length → i ∉ y → atI s i = -1

theorem nodup_snocN {y : List Nat} {i : Nat} (h : (y ++ [i]).Nodup) : y.Nodup ∧ i ∉ y := by
  have hn := List.nodup_append.1 h
  exact ⟨hn.1, fun hm => hn.2.2 i hm i (by simp) rfl⟩
theorem nodup_snocN' {y : List Nat} {i : Nat} (h : y.Nodup) (hi : i ∉ y) : (y ++ [i]).Nodup :=
  List.nodup_append.2 ⟨h, by simp, fun a ha b hb => by rw [List.mem_singleton.1 hb]; exact fun e => hi (e ▸ ha)⟩
theorem Tied.snoc_inv {l : List Task} {s r : List Int} {y : List Nat} {i : Nat} (h : Tied l s r (y ++ [i])) : i < l.length ∧ i ∉ y ∧ Tied l (s.set i (-1)) r y := by
  obtain ⟨hn, hiy⟩ := nodup_snocN h.nodup
  have hi := h.lt i (by simp)
  refine ⟨hi, hiy, by rw [List.length_set]; exact h.len, h.lenR, hn, fun j hj => h.lt j (by simp [hj]), fun j hj => ?_, fun j hj hjy => ?_⟩
  · have : i ≠ j := fun e => hiy (e ▸ hj)
    rw [atI_set_ne this]
    exact h.on j (by simp [hj])
  · by_cases e : i = j
    · subst e
      rw [atI_set_self (by rw [h.len]; exact hj)]
    · rw [atI_set_ne e]
      exact h.off j hj (by simp only [List.mem_append, List.mem_singleton, not_or]; exact ⟨hjy, fun h => e h.symm⟩)
theorem Tied.snoc {l : List Task} {s r : List Int} {y : List Nat} {i : Nat} {t : Int} (h : Tied l s r y) (hi : i < l.length) (hy : i ∉ y) (ht : 0 ≤ t) : Tied l (s.set i t) (r.set i t) (y ++ [i]) := by
  have h1 := h.len
  have h2 := h.lenR
  refine ⟨by rw [List.length_set]; exact h.len, by rw [List.length_set]; exact h.lenR, nodup_snocN' h.nodup hy, fun j hj => ?_, fun j hj => ?_, fun j hj hjy => ?_⟩
  · rcases List.mem_append.1 hj with hj | hj
    · exact h.lt j hj
    · rw [List.mem_singleton.1 hj]; exact hi
  · by_cases e : i = j
    · subst e
      rw [atI_set_self (by omega), atI_set_self (by omega)]
      exact ⟨rfl, ht⟩
    · rw [atI_set_ne e, atI_set_ne e]
      rcases List.mem_append.1 hj with hj | hj
      · exact h.on j hj
      · exact absurd (List.mem_singleton.1 hj).symm e
  · simp only [List.mem_append, List.mem_singleton, not_or] at hjy
    rw [atI_set_ne (fun e => hjy.2 e.symm)]
    exact h.off j hj hjy.1
theorem Tied.all_on {l : List Task} {s r : List Int} {y : List Nat} (h : Tied l s r y) (hy : y.length = l.length) {i : Nat} (hi : i < l.length) : i ∈ y := by
  apply Classical.byContradiction
  intro hn
  have := List.Nodup.length_le_of_subset (nodup_snocN' h.nodup hn) (l₂ := List.range l.length) (fun j hj => by
    rw [List.mem_range]
    rcases List.mem_append.1 hj with hj | hj
    · exact h.lt j hj
    · rw [List.mem_singleton.1 hj]; exact hi)
  simp only [List.length_append, List.length_range, List.length_singleton] at this
  omega

/-! ### What is needed at a time -/
theorem usedTo_none {f : Task → Int} {l : List Task} {s : List Int} {t : Int} : ∀ k, (∀ j, j < k → onB l s t j = false) → usedTo f l s t k = 0
  | 0, _ => rfl
  | k + 1, h => by
    rw [usedTo, usedTo_none k (fun j hj => h j (by omega)), h k (by omega)]
    rfl
theorem onB_off {l : List Task} {s : List Int} {t : Int} {i : Nat} (h : atI s i < 0) : onB l s t i = false := by
  unfold onB
  rw [decide_eq_false (show ¬ 0 ≤ atI s i by omega)]
  rfl
theorem usedTo_set {f : Task → Int} {l : List Task} {s : List Int} {t x : Int} {i : Nat} (hs : atI s i < 0) : ∀ k, usedTo f l (s.set i x) t k = usedTo f l s t k + if i < k ∧ onB l (s.set i x) t i = true then fAt f l i else 0
  | 0 => by simp [usedTo]
  | k + 1 => by
    have ih := usedTo_set (f := f) (l := l) (t := t) (x := x) hs k
    rw [usedTo, usedTo, ih]
    by_cases e : k = i
    · subst e
      rw [onB_off (s := s) hs, if_neg (show ¬ (k < k ∧ onB l (s.set k x) t k = true) from fun h => by omega)]
      by_cases h2 : onB l (s.set k x) t k = true
      · rw [if_pos h2, if_neg (show ¬ false = true by simp), if_pos (show k < k + 1 ∧ onB l (s.set k x) t k = true from ⟨by omega, h2⟩)]
        try omega
      · rw [if_neg h2, if_neg (show ¬ false = true by simp), if_neg (show ¬ (k < k + 1 ∧ onB l (s.set k x) t k = true) from fun h => h2 h.2)]
        try omega
    · have h1 : onB l (s.set i x) t k = onB l s t k := by unfold onB; rw [atI_set_ne (Ne.symm e), endN_set_ne (Ne.symm e)]
      rw [h1]
      by_cases h2 : i < k ∧ onB l (s.set i x) t i = true
      · rw [if_pos h2, if_pos (show i < k + 1 ∧ onB l (s.set i x) t i = true from ⟨by omega, h2.2⟩)]; omega
      · rw [if_neg h2, if_neg (show ¬ (i < k + 1 ∧ onB l (s.set i x) t i = true) from fun h => h2 ⟨by omega, h.2⟩)]; omega
theorem Tied.onR {l : List Task} {s r : List Int} {y : List Nat} (h : Tied l s r y) {i : Nat} (hi : i ∈ y) (t : Int) : onB l s t i = onR l r t i := by
  obtain ⟨h1, h2⟩ := h.on i hi
  unfold onB Proofs.YtfcfphamecbcgaaGreat.onR endN
  rw [h1, decide_eq_true h2, Bool.true_and]
theorem usedY_append {f : Task → Int} {l : List Task} {r : List Int} {t : Int} {y : List Nat} {i : Nat} : usedY f l r t (y ++ [i]) = usedY f l r t y + if onR l r t i then fAt f l i else 0 := by
  unfold usedY
  rw [List.foldl_append]
  rfl
theorem snoc_cases {y : List Nat} {n : Nat} (h : y.length = n + 1) : ∃ z i, y = z ++ [i] ∧ z.length = n := by
  have hne : y ≠ [] := fun e => by rw [e] at h; simp at h
  refine ⟨y.dropLast, y.getLast hne, (List.dropLast_concat_getLast hne).symm, by rw [List.length_dropLast]; omega⟩
theorem Tied.used {f : Task → Int} {l : List Task} {r : List Int} {t : Int} : ∀ (n : Nat) {y : List Nat} {s : List Int}, y.length = n → Tied l s r y → usedTo f l s t l.length = usedY f l r t y
  | 0, y, s, hy, h => by
    have : y = [] := List.length_eq_zero_iff.1 hy
    subst this
    rw [usedTo_none l.length (fun j hj => onB_off (by rw [h.off j hj (by simp)]; omega))]
    rfl
  | n + 1, y, s, hy, h => by
    obtain ⟨z, i, rfl, hz⟩ := snoc_cases hy
    obtain ⟨hi, hiz, h'⟩ := h.snoc_inv
    have hl := h.len
    have e : (s.set i (-1)).set i (atI s i) = s := by
      rw [List.set_set, atI_get (by omega)]
      simp
    have e2 := usedTo_set (f := f) (l := l) (s := s.set i (-1)) (t := t) (x := atI s i) (i := i) (by rw [atI_set_self (by omega)]; omega) l.length
    rw [e] at e2
    rw [e2, Tied.used n hz h', usedY_append, h.onR (by simp) t]
    by_cases h2 : Proofs.YtfcfphamecbcgaaGreat.onR l r t i = true
    · rw [if_pos h2, if_pos ⟨hi, h2⟩]
    · rw [if_neg h2, if_neg (fun h => h2 h.2)]

/-! ### A start fits -/
theorem Tied.whole {l : List Task} {c p : Int} {s r : List Int} {y : List Nat} {i : Nat} {x : Int} (h : Tied l s r y) (hi : i < l.length) (hy : i ∉ y) (hx : 0 ≤ x) (hlen : 1 ≤ lenAt l i) : wholeB l c p (s.set i x) i = fitsR l c p r y i x := by
  have hl := h.len
  have hoff := h.off i hi hy
  have hfit : ∀ z, x ≤ z → z < x + lenAt l i → fitsB l c p (s.set i x) z = roomB l c p r y i z := fun z h1 h2 => by
    have hon : onB l (s.set i x) z i = true := by
      unfold onB
      rw [atI_set_self (by omega), endN_set_self (by omega)]
      simp [hx, h1, h2]
    unfold fitsB roomB
    rw [usedTo_set (by omega), usedTo_set (by omega), if_pos ⟨hi, hon⟩, if_pos ⟨hi, hon⟩, Tied.used _ rfl h, Tied.used _ rfl h]
  have hfx := hfit x (Int.le_refl _) (by omega)
  unfold wholeB fitsR
  rw [atI_set_self (by omega), hfx]
  rw [Bool.eq_iff_iff]
  simp only [Bool.and_eq_true, Bool.not_eq_true', List.any_eq_false, List.all_eq_true]
  constructor
  · rintro ⟨h1, h2⟩ z hz
    unfold timesR at hz
    rcases List.mem_cons.1 hz with rfl | hz
    · exact h1
    · obtain ⟨hz, hin⟩ := List.mem_filter.1 hz
      obtain ⟨j, hj, rfl⟩ := List.mem_map.1 hz
      unfold inB at hin
      simp only [Bool.and_eq_true, decide_eq_true_eq] at hin
      have hjl := h.lt j hj
      have hij : i ≠ j := fun e => hy (e ▸ hj)
      have hm : atI r j ∈ s.set i x := by
        rw [← (h.on j hj).1, ← atI_set_ne (s := s) (x := x) hij, atI_get (by rw [List.length_set]; omega)]
        exact List.getElem_mem _
      have h3 := h2 _ hm
      unfold badB at h3
      rw [atI_set_self (by omega), endN_set_self (by omega), decide_eq_true hin.1, decide_eq_true hin.2, hfit _ (by omega) hin.2] at h3
      simpa using h3
  · intro h1
    refine ⟨h1 x (by unfold timesR; simp), fun z hz => ?_⟩
    obtain ⟨k, hk, rfl⟩ := List.mem_iff_getElem.1 hz
    rw [List.length_set] at hk
    have hat : (s.set i x)[k]'(by rw [List.length_set]; exact hk) = atI (s.set i x) k := (atI_get (by rw [List.length_set]; exact hk)).symm
    rw [hat]
    unfold badB
    rw [atI_set_self (by omega), endN_set_self (by omega)]
    by_cases e : i = k
    · subst e
      rw [atI_set_self (by omega), decide_eq_false (show ¬ x < x by omega)]
      simp
    · rw [atI_set_ne e]
      by_cases hky : k ∈ y
      · obtain ⟨h3, h4⟩ := h.on k hky
        rw [h3]
        by_cases h5 : x < atI r k
        · by_cases h6 : atI r k < x + lenAt l i
          · rw [hfit _ (by omega) h6]
            have := h1 (atI r k) (by
              unfold timesR
              refine List.mem_cons_of_mem _ (List.mem_filter.2 ⟨List.mem_map.2 ⟨k, hky, rfl⟩, ?_⟩)
              unfold inB
              rw [decide_eq_true h5, decide_eq_true h6]
              rfl)
            rw [this]
            simp
          · rw [decide_eq_false h6]; simp
        · rw [decide_eq_false h5]; simp
      · rw [h.off k (by omega) hky, decide_eq_false (show ¬ x < -1 by omega)]
        simp

/-! ### The least start -/
theorem find_least {T : List Int} {q : Int → Bool} {t : Int} (hs : T.Pairwise (fun a b => a ≤ b)) (h : T.find? q = some t) : t ∈ T ∧ q t = true ∧ ∀ x ∈ T, q x = true → t ≤ x := by
  refine ⟨List.mem_of_find?_eq_some h, List.find?_some h, fun x hx hq => ?_⟩
  obtain ⟨-, us, vs, rfl, has⟩ := List.find?_eq_some_iff_append.1 h
  rcases List.mem_append.1 hx with hx | hx
  · have := has x hx
    simp [hq] at this
  · rcases List.mem_cons.1 hx with rfl | hx
    · exact Int.le_refl _
    · exact (List.pairwise_cons.1 (List.pairwise_append.1 hs).2.1).1 x hx
theorem timesTo_inv {l : List Task} {s : List Int} {f x : Int} : ∀ k, x ∈ timesTo l s f k → x = f ∨ ∃ j, j < k ∧ 0 ≤ atI s j ∧ f < endN l s j ∧ x = endN l s j
  | 0, h => by simp only [timesTo, List.mem_singleton] at h; exact .inl h
  | k + 1, h => by
    unfold timesTo at h
    split at h
    · rename_i hc
      rcases List.mem_append.1 h with h | h
      · rcases timesTo_inv k h with h | ⟨j, hj, r⟩
        · exact .inl h
        · exact .inr ⟨j, by omega, r⟩
      · exact .inr ⟨k, by omega, hc.1, hc.2, List.mem_singleton.1 h⟩
    · rcases timesTo_inv k h with h | ⟨j, hj, r⟩
      · exact .inl h
      · exact .inr ⟨j, by omega, r⟩

/-- One more end is tried. -/
def minStep (e : Nat → Int) (q : Int → Bool) (f b : Int) (j : Nat) : Int := if f < e j ∧ (b < 0 ∨ e j < b) ∧ q (e j) = true then e j else b
def minTo (e : Nat → Int) (q : Int → Bool) (f : Int) (z : List Nat) : Int := z.foldl (minStep e q f) (-1)
theorem minTo_snoc {e : Nat → Int} {q : Int → Bool} {f : Int} {z : List Nat} {k : Nat} (h : k < z.length) : minTo e q f (z.take (k + 1)) = minStep e q f (minTo e q f (z.take k)) z[k] := by
  unfold minTo
  rw [take_snoc z k h, List.foldl_append]
  rfl
theorem minTo_char {e : Nat → Int} {q : Int → Bool} {f : Int} (hf : 0 ≤ f) {z : List Nat} : ∀ k, k ≤ z.length → (minTo e q f (z.take k) = -1 ∧ ∀ j ∈ z.take k, f < e j → q (e j) = false) ∨
    ∃ j ∈ z.take k, minTo e q f (z.take k) = e j ∧ f < e j ∧ q (e j) = true ∧ ∀ i ∈ z.take k, f < e i → q (e i) = true → minTo e q f (z.take k) ≤ e i
  | 0, _ => .inl ⟨rfl, by simp⟩
  | k + 1, hk => by
    have ih := minTo_char (e := e) (q := q) hf (z := z) k (by omega)
    have hlt : k < z.length := by omega
    have hm : ∀ j, j ∈ z.take (k + 1) ↔ j ∈ z.take k ∨ j = z[k] := fun j => by rw [take_snoc z k hlt, List.mem_append, List.mem_singleton]
    rw [minTo_snoc hlt]
    unfold minStep
    split
    · rename_i hc
      refine .inr ⟨z[k], (hm _).2 (.inr rfl), rfl, hc.1, hc.2.2, fun i hi h1 h2 => ?_⟩
      rcases (hm i).1 hi with hi | rfl
      · rcases ih with ⟨-, ih⟩ | ⟨j, -, e1, h3, -, ih⟩
        · have := ih i hi h1
          rw [h2] at this
          cases this
        · have := ih i hi h1 h2
          omega
      · exact Int.le_refl _
    · rename_i hc
      rcases ih with ⟨e1, ih⟩ | ⟨j, hj, e1, h3, h4, ih⟩
      · refine .inl ⟨e1, fun i hi h1 => ?_⟩
        rcases (hm i).1 hi with hi | rfl
        · exact ih i hi h1
        · cases hq : q (e z[k]) with
          | false => rfl
          | true => exact absurd ⟨h1, .inl (by omega), hq⟩ hc
      · refine .inr ⟨j, (hm _).2 (.inl hj), e1, h3, h4, fun i hi h1 h2 => ?_⟩
        rcases (hm i).1 hi with hi | rfl
        · exact ih i hi h1 h2
        · apply Classical.byContradiction
          intro hn
          exact hc ⟨h1, .inr (by omega), h2⟩

/-- What the reference finds: the least start of a task. -/
def earlyR (l : List Task) (c p : Int) (r : List Int) (y : List Nat) (i : Nat) : Int :=
  if fitsR l c p r y i (firstN l r (rowAt l i)) = true then firstN l r (rowAt l i) else minTo (endN l r) (fitsR l c p r y i) (firstN l r (rowAt l i)) y

theorem firstN_congr {l : List Task} {s r row : List Int} (h : ∀ k ∈ row, atI s k.toNat = atI r k.toNat) : firstN l s row = firstN l r row := by
  unfold firstN
  suffices H : ∀ a, row.foldl (fun a k => max2 a (endN l s k.toNat)) a = row.foldl (fun a k => max2 a (endN l r k.toNat)) a from H 0
  induction row with
  | nil => intro a; rfl
  | cons k row ih =>
    intro a
    rw [List.foldl_cons, List.foldl_cons, show endN l s k.toNat = endN l r k.toNat by unfold endN; rw [h k (by simp)]]
    exact ih (fun j hj => h j (by simp [hj])) _
theorem rowAt_lt {l : List Task} (hR : RightT l) {i : Nat} (hi : i < l.length) {k : Int} (hk : k ∈ rowAt l i) : k.toNat < l.length := by
  have hrow : rowAt l i = pls l l[i].bef := getD_rows hi
  rw [hrow] at hk
  obtain ⟨j, hj, rfl⟩ := mem_row hR hi hk
  simpa using hj
theorem Tied.early {l : List Task} {c p : Int} {s r : List Int} {y : List Nat} {i : Nat} {t : Int} (hR : RightT l) (h : Tied l s r y) (hi : i < l.length) (hy : i ∉ y) (hrow : (rowAt l i).any (unB s) = false) (hp : PutT l c p s i t) : earlyR l c p r y i = t := by
  have hplaced : ∀ j, j < l.length → 0 ≤ atI s j → j ∈ y := fun j hj h0 => by
    apply Classical.byContradiction
    intro hn
    have := h.off j hj hn
    omega
  have hF : firstN l s (rowAt l i) = firstN l r (rowAt l i) := firstN_congr fun k hk => by
    have h1 := List.any_eq_false.1 hrow k hk
    unfold unB at h1
    simp only [decide_eq_true_eq] at h1
    exact (h.on _ (hplaced _ (rowAt_lt hR hi hk) (by omega))).1
  have hE : ∀ j ∈ y, endN l s j = endN l r j := fun j hj => by unfold endN; rw [(h.on j hj).1]
  have hlen : 1 ≤ lenAt l i := by rw [lenAt_eq hi]; exact (fieldB_len (hR.field i hi)).1
  have hf0 : 0 ≤ firstN l s (rowAt l i) := by
    have := foldl_max_ge (fun k : Int => endN l s k.toNat) (rowAt l i) 0
    unfold firstN
    simp only [max2_max]
    exact this
  have hsorted : (timesN l s i).Pairwise (fun a b => a ≤ b) := by
    have := List.pairwise_mergeSort (le := fun x y : Int => decide (x ≤ y)) (fun a b c h1 h2 => by simp only [decide_eq_true_eq] at *; omega) (fun a b => by simp only [Bool.or_eq_true, decide_eq_true_eq]; omega) (timesTo l s (firstN l s (rowAt l i)) l.length)
    exact this.imp (fun h => by simpa using h)
  obtain ⟨ht, hq, hleast⟩ := find_least hsorted hp
  have hT : ∀ x, x ∈ timesN l s i ↔ x ∈ timesTo l s (firstN l s (rowAt l i)) l.length := fun x => (List.mergeSort_perm _ _).mem_iff
  have hmem := timesTo_mem (l := l) (s := s) (f := firstN l s (rowAt l i)) l.length
  unfold earlyR
  rw [hF] at *
  generalize firstN l r (rowAt l i) = f at *
  have hcase := timesTo_inv _ ((hT t).1 ht)
  split
  · rename_i hfit
    have h1 := hleast f ((hT f).2 hmem.1) (by rw [h.whole hi hy hf0 hlen]; exact hfit)
    rcases hcase with rfl | ⟨j, _, _, h2, rfl⟩
    · rfl
    · omega
  · rename_i hfit
    rcases hcase with rfl | ⟨j, hj, h0, h2, rfl⟩
    · rw [h.whole hi hy hf0 hlen] at hq
      exact absurd hq hfit
    · have hjy := hplaced j hj h0
      rw [hE j hjy] at h2 hq hleast ⊢
      rw [h.whole hi hy (by omega) hlen] at hq
      have hch := minTo_char (e := endN l r) (q := fitsR l c p r y i) hf0 (z := y) y.length (Nat.le_refl _)
      rw [List.take_length] at hch
      rcases hch with ⟨-, h3⟩ | ⟨k, hk, h3, h4, h5, h6⟩
      · have := h3 j hjy h2
        rw [hq] at this
        cases this
      · have h7 := h6 j hjy h2 hq
        have hks := (h.on k hk)
        have h8 := hleast (endN l r k) ((hT _).2 (by
          rw [← hE k hk]
          exact hmem.2 k (h.lt k hk) (by omega) (by rw [hE k hk]; exact h4))) (by rw [h.whole hi hy (by omega) hlen]; exact h5)
        omega

end Go.Proofs.YtfcfphamecbcgaaGreat

/- The reference's search over all orders, and the program's: plain. -/
namespace Go.Proofs.YtfcfphamecbcgaaGreat
open Go.RowKit Go.Shelf

/-- The starts of the first k tasks of an order. -/
def listR (l : List Task) (c p : Int) (y : List Nat) : Nat → List Int
  | 0 => List.replicate l.length 0
  | k + 1 => (listR l c p y k).set (y.getD k 0) (earlyR l c p (listR l c p y k) (y.take k) (y.getD k 0))
def listAll (l : List Task) (c p : Int) (y : List Nat) : List Int := listR l c p y y.length
theorem listR_len {l : List Task} {c p : Int} {y : List Nat} : ∀ k, (listR l c p y k).length = l.length
  | 0 => by simp [listR]
  | k + 1 => by rw [listR, List.length_set]; exact listR_len k
theorem listR_append {l : List Task} {c p : Int} {y : List Nat} {i : Nat} : ∀ k, k ≤ y.length → listR l c p (y ++ [i]) k = listR l c p y k
  | 0, _ => rfl
  | k + 1, hk => by
    rw [listR, listR, listR_append k (by omega), List.take_append_of_le_length (by omega)]
    rw [List.getD_eq_getElem?_getD, List.getD_eq_getElem?_getD, List.getElem?_append_left (by omega)]
theorem listAll_snoc {l : List Task} {c p : Int} {y : List Nat} {i : Nat} : listAll l c p (y ++ [i]) = (listAll l c p y).set i (earlyR l c p (listAll l c p y) y i) := by
  unfold listAll
  rw [List.length_append, List.length_singleton, listR, listR_append _ (Nat.le_refl _), List.take_append_of_le_length (Nat.le_refl _), List.take_length]
  simp

/-- All tasks before a task are in a list. -/
def readyB (l : List Task) (y : List Nat) (i : Nat) : Bool := (rowAt l i).all fun k => decide (k.toNat ∈ y)

/-- One more first task is tried; (best, known, out). -/
def furStep (F : List Nat → Int → Int × List Int) (l : List Task) (y : List Nat) (a : Int × Int × List Int) (i : Nat) : Int × Int × List Int :=
  if decide (i ∈ y) || !readyB l y i then a else if 0 ≤ (F (y ++ [i]) a.2.1).1 then ((F (y ++ [i]) a.2.1).1, (F (y ++ [i]) a.2.1).1, (F (y ++ [i]) a.2.1).2) else a
def furTo (F : List Nat → Int → Int × List Int) (l : List Task) (y : List Nat) (known : Int) (k : Nat) : Int × Int × List Int := (List.range k).foldl (furStep F l y) (-1, known, [])
/-- The search over all orders that begin with y; m tasks are left. -/
def furR (l : List Task) (c p : Int) : Nat → List Nat → Int → Int × List Int
  | 0, y, known => if known < 0 ∨ lenTo l (listAll l c p y) l.length < known then (lenTo l (listAll l c p y) l.length, listAll l c p y) else (-1, [])
  | m + 1, y, known => ((furTo (furR l c p m) l y known l.length).1, (furTo (furR l c p m) l y known l.length).2.2)
theorem furTo_succ {F : List Nat → Int → Int × List Int} {l : List Task} {y : List Nat} {known : Int} {k : Nat} : furTo F l y known (k + 1) = furStep F l y (furTo F l y known k) k := by
  unfold furTo
  rw [List.range_succ, List.foldl_append]
  rfl

theorem Tied.skip {l : List Task} {s r : List Int} {y : List Nat} (hR : RightT l) (h : Tied l s r y) {i : Nat} (hi : i < l.length) : skipB l s i = (decide (i ∈ y) || !readyB l y i) := by
  have hon : ∀ j, j < l.length → decide (0 ≤ atI s j) = decide (j ∈ y) := fun j hj => by
    by_cases hm : j ∈ y
    · rw [decide_eq_true hm, (h.on j hm).1, decide_eq_true (h.on j hm).2]
    · rw [decide_eq_false hm, h.off j hj hm]
      rfl
  unfold skipB readyB
  rw [hon i hi]
  congr 1
  rw [Bool.eq_iff_iff, Bool.not_eq_true', List.any_eq_true, List.all_eq_false]
  constructor
  · rintro ⟨k, hk, hu⟩
    refine ⟨k, hk, ?_⟩
    rw [← hon _ (rowAt_lt hR hi hk)]
    unfold unB at hu
    simp only [decide_eq_true_eq] at hu ⊢
    omega
  · rintro ⟨k, hk, hu⟩
    refine ⟨k, hk, ?_⟩
    rw [← hon _ (rowAt_lt hR hi hk)] at hu
    unfold unB
    simp only [decide_eq_true_eq] at hu ⊢
    omega

theorem lenPl_lenTo {l : List Task} {s r : List Int} : ∀ k, (∀ j, j < k → atI s j = atI r j ∧ 0 ≤ atI r j) → lenPl l s k = lenTo l r k
  | 0, _ => rfl
  | k + 1, h => by
    have ih := lenPl_lenTo (l := l) k (fun j hj => h j (by omega))
    obtain ⟨h1, h2⟩ := h k (by omega)
    rw [lenPl, lenTo, h1, if_pos h2, ih]
    have : endN l s k = endN l r k := by unfold endN; rw [h1]
    rw [this]
    rfl
theorem list_atI {s r : List Int} {n : Nat} (hs : s.length = n) (hr : r.length = n) (h : ∀ j, j < n → atI s j = atI r j) : s = r := by
  apply List.ext_getElem (by omega)
  intro j h1 h2
  have := h j (by omega)
  rwa [atI_get h1, atI_get h2] at this

/-- The program's search and the reference's. -/
theorem srch_fur {l : List Task} {c p : Int} (hR : RightT l) (hc : 0 ≤ c ∧ 0 ≤ p) (hfit : l.any (tooMuch c p) = false) : ∀ (m : Nat) (y : List Nat) (s : List Int) (b : Int × List Int), y.length + m = l.length → Tied l s (listAll l c p y) y →
    srch l c p m s b = if 0 ≤ (furR l c p m y b.1).1 then furR l c p m y b.1 else b
  | 0, y, s, b, hm, h => by
    have hall : ∀ j, j < l.length → atI s j = atI (listAll l c p y) j ∧ 0 ≤ atI (listAll l c p y) j := fun j hj => h.on j (h.all_on (by omega) hj)
    have e1 := lenPl_lenTo (l := l) l.length hall
    have e2 : s = listAll l c p y := list_atI h.len h.lenR fun j hj => (hall j hj).1
    have e3 : 0 ≤ lenTo l (listAll l c p y) l.length := by
      have : ∀ k, 0 ≤ lenTo l (listAll l c p y) k := fun k => by
        induction k with
        | zero => exact Int.le_refl _
        | succ k ih => unfold lenTo; split <;> omega
      exact this _
    unfold srch furR
    rw [e1, ← e2]
    rw [← e2] at e3
    by_cases hcc : b.1 < 0 ∨ lenTo l s l.length < b.1
    · simp only [if_pos hcc, if_pos e3]
    · simp only [if_neg hcc]
      rw [if_neg (by simp)]
  | m + 1, y, s, b, hm, h => by
    unfold srch furR
    suffices H : ∀ k, k ≤ l.length → srchTo l c p m s b k = (if 0 ≤ (furTo (furR l c p m) l y b.1 k).1 then ((furTo (furR l c p m) l y b.1 k).1, (furTo (furR l c p m) l y b.1 k).2.2) else b) ∧ (furTo (furR l c p m) l y b.1 k).2.1 = (srchTo l c p m s b k).1 from (H _ (Nat.le_refl _)).1
    intro k
    induction k with
    | zero => exact fun _ => ⟨rfl, rfl⟩
    | succ k ih =>
      intro hk
      obtain ⟨e1, e2⟩ := ih (by omega)
      rw [srchTo_succ, furTo_succ]
      unfold furStep
      rw [h.skip hR (by omega)]
      cases hsk : (decide (k ∈ y) || !readyB l y k) with
      | true =>
        rw [if_pos rfl, if_pos rfl]
        exact ⟨e1, e2⟩
      | false =>
        simp only [Bool.false_eq_true, if_false]
        have hsk' := h.skip hR (i := k) (by omega)
        rw [hsk] at hsk'
        obtain ⟨hn, hrow⟩ := skip_no hsk'
        have hky : k ∉ y := by simp at hsk; exact hsk.1
        have hput := put_exists (s := s) hR hc hfit h.len (show k < l.length by omega)
        have hearly := h.early hR (by omega) hky hrow hput
        have ht : 0 ≤ putN l c p s k := by
          have := List.mem_of_find?_eq_some hput
          have hm := timesTo_inv _ ((List.mergeSort_perm _ _).mem_iff.1 this)
          have hf0 : 0 ≤ firstN l s (rowAt l k) := by
            have := foldl_max_ge (fun k : Int => endN l s k.toNat) (rowAt l k) 0
            unfold firstN
            simp only [max2_max]
            exact this
          rcases hm with hm | ⟨j, _, _, h1, h2⟩ <;> omega
        have hT := h.snoc (i := k) (by omega) hky ht
        have hT' : Tied l (s.set k (putN l c p s k)) (listAll l c p (y ++ [k])) (y ++ [k]) := by
          rw [listAll_snoc, hearly]
          exact hT
        have hI := srch_fur hR hc hfit m (y ++ [k]) _ (srchTo l c p m s b k) (by rw [List.length_append, List.length_singleton]; omega) hT'
        rw [hI, ← e2]
        by_cases hcc : 0 ≤ (furR l c p m (y ++ [k]) (furTo (furR l c p m) l y b.1 k).2.1).1
        · simp only [if_pos hcc]
          exact ⟨trivial, trivial⟩
        · simp only [if_neg hcc]
          exact ⟨e1, e2⟩

theorem tied_nil {l : List Task} {c p : Int} : Tied l (List.replicate l.length (-1)) (listAll l c p []) [] :=
  ⟨by simp, listR_len _, by simp, by simp, by simp, fun i hi _ => by unfold atI; rw [List.getD_eq_getElem?_getD, List.getElem?_replicate, if_pos hi]; rfl⟩
theorem furR_neg {l : List Task} {c p : Int} : ∀ (m : Nat) (y : List Nat) (known : Int), ¬ 0 ≤ (furR l c p m y known).1 → furR l c p m y known = (-1, [])
  | 0, y, known, h => by
    unfold furR at h ⊢
    split
    · rename_i hc
      rw [if_pos hc] at h
      have : ∀ k, 0 ≤ lenTo l (listAll l c p y) k := fun k => by
        induction k with
        | zero => exact Int.le_refl _
        | succ k ih => unfold lenTo; split <;> omega
      exact absurd (this _) h
    · rfl
  | m + 1, y, known, h => by
    unfold furR at h ⊢
    suffices H : ∀ k, 0 ≤ (furTo (furR l c p m) l y known k).1 ∨ ((furTo (furR l c p m) l y known k).1 = -1 ∧ (furTo (furR l c p m) l y known k).2.2 = []) by
      rcases H l.length with h1 | ⟨h1, h2⟩
      · exact absurd h1 h
      · rw [h1, h2]
    intro k
    induction k with
    | zero => exact .inr ⟨rfl, rfl⟩
    | succ k ih =>
      rw [furTo_succ]
      unfold furStep
      split
      · exact ih
      · split
        · rename_i h1
          exact .inl h1
        · exact ih
theorem least_fur {l : List Task} {c p : Int} (hR : RightT l) (hc : 0 ≤ c ∧ 0 ≤ p) (hfit : l.any (tooMuch c p) = false) : leastN l c p = furR l c p l.length [] (-1) := by
  unfold leastN
  rw [srch_fur hR hc hfit l.length [] _ _ (by simp) tied_nil]
  split
  · rfl
  · rename_i h
    exact (furR_neg _ _ _ h).symm

end Go.Proofs.YtfcfphamecbcgaaGreat

/- the reference's ready and earliest. -/
namespace Go.Proofs.YtfcfphamecbcgaaGreat
open Go.RowKit Go.Shelf

/-- What the reference's search reads: tasks, starts, and a list of indices. -/
structure RefSt (w : World) (B : Nat) (v u z : Value) (l : List Task) (r : List Int) (y : List Nat) : Prop where
  tasks : TasksAt w B v l
  starts : IntsAt w B u r
  list : IntsAt w B z (ints y)
  len : r.length = l.length
  bd : ∀ x ∈ r, 0 ≤ x ∧ x ≤ 90000
  lt : ∀ i ∈ y, i < l.length
  y8 : y.length ≤ 8
theorem RefSt.below {w w' : World} {B : Nat} {v u z : Value} {l : List Task} {r : List Int} {y : List Nat} (h : RefSt w B v u z l r y) (hb : Below B w w') : RefSt w' B v u z l r y :=
  ⟨h.tasks.below hb (Nat.le_refl _), h.starts.below hb (Nat.le_refl _), h.list.below hb (Nat.le_refl _), h.len, h.bd, h.lt, h.y8⟩
theorem RefSt.mono {w : World} {B B' : Nat} {v u z : Value} {l : List Task} {r : List Int} {y : List Nat} (h : RefSt w B v u z l r y) (hB : B ≤ B') : RefSt w B' v u z l r y :=
  ⟨h.tasks.mono hB, h.starts.mono hB, h.list.mono hB, h.len, h.bd, h.lt, h.y8⟩
theorem RefSt.at_ {w : World} {B : Nat} {v u z : Value} {l : List Task} {r : List Int} {y : List Nat} (h : RefSt w B v u z l r y) {i : Nat} (hi : i < l.length) : 0 ≤ atI r i ∧ atI r i ≤ 90000 := by
  have hl := h.len
  rw [atI_get (by omega)]
  exact h.bd _ (List.getElem_mem _)
theorem RefSt.endBd {w : World} {B : Nat} {v u z : Value} {l : List Task} {r : List Int} {y : List Nat} (h : RefSt w B v u z l r y) (hR : RightT l) {i : Nat} (hi : i < l.length) : 0 ≤ endN l r i ∧ endN l r i ≤ 100000 := by
  have h1 := h.at_ hi
  have h2 := fieldB_len (hR.field i hi)
  unfold endN
  rw [lenAt_eq hi]
  omega
/-- A start's cell. -/
theorem RefSt.cellS {w : World} {B : Nat} {v u z : Value} {l : List Task} {r : List Int} {y : List Nat} (h : RefSt w B v u z l r y) {i : Nat} (hi : i < l.length) :
    ∃ b off cap, u = .slice (some ⟨b, off, none⟩) l.length cap ∧ b < B ∧ l.length ≤ cap ∧ cap ≤ 9223372036854775807 ∧ w.cell? ⟨b, off + i, none⟩ = some (.int .i64 (atI r i)) := by
  have hl := h.len
  obtain ⟨A, cap, rfl, h1, h2, h3⟩ := h.starts.open_
  unfold maxLen at h2
  obtain ⟨b, off, rfl, hb, hc⟩ := h3 i (by omega)
  exact ⟨b, off, cap, by rw [hl], hb, by omega, h2, by rw [atI_get (by omega)]; exact hc i (by omega)⟩
theorem RefSt.cellY {w : World} {B : Nat} {v u z : Value} {l : List Task} {r : List Int} {y : List Nat} (h : RefSt w B v u z l r y) {k : Nat} (hk : k < y.length) :
    ∃ b off cap, z = .slice (some ⟨b, off, none⟩) y.length cap ∧ b < B ∧ y.length ≤ cap ∧ cap ≤ 9223372036854775807 ∧ w.cell? ⟨b, off + k, none⟩ = some (.int .i64 (y[k] : Nat)) := by
  obtain ⟨A, cap, rfl, h1, h2, h3⟩ := h.list.open_
  have h4 := length_ints y
  unfold maxLen at h2
  obtain ⟨b, off, rfl, hb, hc⟩ := h3 k (by omega)
  exact ⟨b, off, cap, by rw [length_ints], hb, by omega, h2, by
    have e := hc k (by omega)
    have e2 : (ints y)[k]'(by omega) = ((y[k] : Nat) : Int) := by simp [ints]
    rw [e2] at e
    exact e⟩
theorem pls_length {l : List Task} {L : List ByteArray} : (pls l L).length = L.length := by simp [pls]
theorem pls_get {l : List Task} {L : List ByteArray} {k : Nat} (h : k < L.length) : (pls l L)[k]'(by rw [pls_length]; exact h) = pl l L[k] := by simp [pls]

set_option maxRecDepth 100000 in
set_option maxHeartbeats 4000000 in
theorem refEarly (v u z : Value) (l : List Task) (c p : Int) (r : List Int) (y : List Nat) (i : Nat) (w : World) (hR : RightT l) (h : RefSt w w.heap.size v u z l r y) (hi : i < l.length) :
    Calls Tryz.prog 79 #[v, .int .i64 c, .int .i64 p, u, z, .int .i64 i] w fun e w' => e = .returned (.int .i64 (earlyR l c p r y i)) ∧ Below w.heap.size w w' := by
  have HR := Lib.hid hR
  have H := Lib.hid h
  have h8 := hR.len
  have hy8 := h.y8
  have HF : Hid (∀ t w', 0 ≤ t ∧ t ≤ 1010000 → Below w.heap.size w w' → Calls Tryz.prog 87 #[v, .int .i64 c, .int .i64 p, u, z, .int .i64 i, .int .i64 t] w' fun e w'' => e = .returned (.bool (fitsR l c p r y i t)) ∧ Below w'.heap.size w' w'') := fun t w' ht hb => by
    have h' := (h.below hb).mono hb.size
    exact refFits43 v u z l c p r y i t w' hR h'.tasks h'.starts h'.list h'.len (fun x hx => by have := h'.bd x hx; omega) h'.lt h'.y8 hi ht
  have HFind : Hid (∀ s w', Below w.heap.size w w' → Calls Tryz.prog 45 #[v, .string s] w' fun e w'' => e = .returned (.int .i64 (pl l s)) ∧ w' = w'') := fun s w' hb =>
    refFind v l s w' w.heap.size (h.tasks.below hb (Nat.le_refl _))
  have HEB : Hid (∀ k, k < l.length → 0 ≤ endN l r k ∧ endN l r k ≤ 100000) := fun k hk => h.endBd hR hk
  have HMem : Hid (∀ s ∈ l[i].bef, ∃ j : Nat, j < l.length ∧ pl l s = (j : Int)) := fun s hs => mem_row hR hi (by unfold pls; exact List.mem_map.2 ⟨s, hs, rfl⟩)
  obtain ⟨A, cc, rfl, hA1, hA2, -⟩ := h.tasks.open_
  obtain ⟨A1, c1, rfl, hB1, hB2, -⟩ := h.starts.open_
  obtain ⟨A2, c2, rfl, hC1, hC2, -⟩ := h.list.open_
  obtain ⟨b0, off0, rfl, hb0, hct⟩ := h.tasks.cells hi
  obtain ⟨-, t1, -, -, t4⟩ := hct i hi
  obtain ⟨hm1, hm2, hbef⟩ := h.tasks.open_bef hi
  unfold maxLen at hA2 hB2 hC2 hm2
  rw [length_ints] at hC1 HF ⊢
  have hrl := h.len
  rw [hrl] at hB1 HF ⊢
  have HRow : Hid (rowAt l i = pls l l[i].bef) := getD_rows hi
  have HC : Hid (∀ (k : Nat), k < l.length → ∃ b1 off1, A1 = some ⟨b1, off1, none⟩ ∧ b1 < w.heap.size ∧ w.cell? ⟨b1, off1 + k, none⟩ = some (.int .i64 (atI r k))) := fun k hk => by
    obtain ⟨b1, off1, cap1, e1, hb1, -, -, hc1⟩ := h.cellS hk
    injection e1 with e1
    exact ⟨b1, off1, e1, hb1, hc1⟩
  have HCY : Hid (∀ (k : Nat) (hk : k < y.length), ∃ b1 off1, A2 = some ⟨b1, off1, none⟩ ∧ b1 < w.heap.size ∧ w.cell? ⟨b1, off1 + k, none⟩ = some (.int .i64 (y[k] : Nat))) := fun k hk => by
    obtain ⟨b1, off1, cap1, e1, hb1, -, -, hc1⟩ := h.cellY hk
    injection e1 with e1
    exact ⟨b1, off1, e1, hb1, hc1⟩
  have HCT : Hid (∀ (k : Nat) (hk : k < l.length), w.cell? ⟨b0, off0 + k * 5 + 1, none⟩ = some (.int .i64 l[k].len) ∧ 1 ≤ l[k].len ∧ l[k].len ≤ 10000) := fun k hk => ⟨(hct k hk).2.1, fieldB_len (hR.field k hk)⟩
  have HB := Lib.hid hbef
  have i1 : (0 : Int) ≤ (i : Int) := Int.natCast_nonneg _
  have i2 : (i : Int) < (l.length : Int) := by omega
  clear h hR hct hbef hrl
  go_enter Tryz.func79, Tryz.ntmps79
  go_wp2_with fail
  go_loopw [14, 13] (fun ix m wr => ∃ k : Nat, k ≤ l[i].bef.length ∧ ix = .int .i64 k ∧ m = .int .i64 (firstN l r ((pls l l[i].bef).take k)) ∧ ∃ q, wr = w.drewN q) (fun ix _ _ => l[i].bef.length - (intOf ix).toNat)
  case atStart => exact ⟨0, Nat.zero_le _, rfl, rfl, 0, rfl⟩
  case round =>
    obtain ⟨k, hk, rfl, rfl, q, rfl⟩ := hrel
    by_cases hkl : k < l[i].bef.length
    · obtain ⟨b', off', hba, hb', hs⟩ := HB.out k hkl
      have hsk := hs k hkl
      obtain ⟨j, hj, hje⟩ := HMem.out _ (List.getElem_mem hkl)
      have hF := fun q => HFind.out l[i].bef[k] (w.drewN q) (below_drewN (Below.refl _ _) q)
      rw [hje] at hF
      obtain ⟨b1, off1, rfl, hb1, hr1⟩ := HC.out j hj
      obtain ⟨hl1, hl2, hl3⟩ := HCT.out j hj
      have hbe := HEB.out j hj
      have hbf := firstN_bd (l := l) (s := r) (M := 100000) (by omega) k (r := pls l l[i].bef) (fun x hx => by
        unfold pls at hx
        obtain ⟨s, hs, rfl⟩ := List.mem_map.1 hx
        obtain ⟨m, hm, e⟩ := HMem.out s hs
        rw [e]
        exact (HEB.out m hm).2) (by rw [pls_length]; exact hk)
      have HS : Hid (firstN l r ((pls l l[i].bef).take (k + 1)) = max2 (firstN l r ((pls l l[i].bef).take k)) (endN l r j)) := by
        unfold Hid
        rw [firstN_snoc (by rw [pls_length]; exact hkl), pls_get hkl, hje]
        rfl
      have HE : Hid (endN l r j = atI r j + l[j].len) := by unfold Hid endN; rw [lenAt_eq hj]
      rw [HE.out] at hbe HS
      clear hs hje HE
      generalize firstN l r ((pls l l[i].bef).take k) = f0 at *
      generalize atI r j = x at *
      generalize l[j].len = ln at *
      have j1 : (0 : Int) ≤ (j : Int) := Int.natCast_nonneg _
      have j2 : (j : Int) < (l.length : Int) := by omega
      have i3 : (0 : Int) ≤ (k : Int) := Int.natCast_nonneg _
      have i4 : (k : Int) < (l[i].bef.length : Int) := by omega
      have w1 : IntKind.i64.wrap (x + ln) = x + ln := IntWalk.i64_in _ (by omega)
      go_wp2_with (go_at_call 45; refine (hF _).mono ?_; rintro e w' ⟨rfl, rfl⟩)
      go_quiet (fail)
      go_wp2_with fail
      go_roundw
      case rel => exact ⟨k + 1, by omega, by go_num, by rw [HS.out, max2_max], _, rfl⟩
      case measure => simp [intOf]; omega
    · have hke : k = l[i].bef.length := by omega
      subst hke
      have hbf := firstN_bd (l := l) (s := r) (M := 100000) (by omega) l[i].bef.length (r := pls l l[i].bef) (fun x hx => by
        unfold pls at hx
        obtain ⟨s, hs, rfl⟩ := List.mem_map.1 hx
        obtain ⟨m, hm, e⟩ := HMem.out s hs
        rw [e]
        exact (HEB.out m hm).2) (by rw [pls_length]; exact hk)
      have e0 : (pls l l[i].bef).take l[i].bef.length = rowAt l i := by rw [HRow.out, ← pls_length (l := l), List.take_length]
      rw [e0] at hbf ⊢
      have HV : Hid (earlyR l c p r y i = if fitsR l c p r y i (firstN l r (rowAt l i)) = true then firstN l r (rowAt l i) else minTo (endN l r) (fitsR l c p r y i) (firstN l r (rowAt l i)) y) := rfl
      clear e0 HRow
      generalize firstN l r (rowAt l i) = f at *
      have hcall := HF.out f (w.drewN q) (by omega) (below_drewN (Below.refl _ _) q)
      cases hq : fitsR l c p r y i f with
      | true =>
        have HV' : Hid (earlyR l c p r y i = f) := by unfold Hid; rw [HV.out, hq]; rfl
        rw [hq] at hcall
        clear hq HV
        go_wp2_with (go_at_call 87; refine hcall.mono ?_; rintro e w1 ⟨rfl, hb1⟩)
        go_ret
        exact ⟨ret_int HV'.out.symm, (below_drewN (Below.refl _ _) q).trans (hb1.mono (by simp))⟩
      | false =>
        have HV' : Hid (earlyR l c p r y i = minTo (endN l r) (fitsR l c p r y i) f y) := by unfold Hid; rw [HV.out, hq]; rfl
        rw [hq] at hcall
        clear hq HV
        go_wp2_with (go_at_call 87; refine hcall.mono ?_; rintro e w1 ⟨rfl, hb1⟩)
        have hb1' : Below w.heap.size w w1 := (below_drewN (Below.refl _ _) q).trans (hb1.mono (by simp))
        clear hb1 hcall
        go_loopw [17, 16] (fun ix bb wr => ∃ k : Nat, k ≤ y.length ∧ ix = .int .i64 k ∧ bb = .int .i64 (minTo (endN l r) (fitsR l c p r y i) f (y.take k)) ∧ Below w.heap.size w wr) (fun ix _ _ => y.length - (intOf ix).toNat)
        case atStart => exact ⟨0, Nat.zero_le _, rfl, rfl, hb1'⟩
        case round =>
          clear hb1'
          obtain ⟨k, hk, rfl, rfl, hbel⟩ := hrel
          by_cases hkl : k < y.length
          · obtain ⟨b2, off2, rfl, hb2, hz1⟩ := HCY.out k hkl
            have z1 := (hbel.cell (p := ⟨b2, _, none⟩) hb2).trans hz1
            have hj := H.out.lt _ (List.getElem_mem hkl)
            obtain ⟨b1, off1, rfl, hb1, hr1⟩ := HC.out y[k] hj
            have r1 := (hbel.cell (p := ⟨b1, _, none⟩) hb1).trans hr1
            obtain ⟨hl1, hl2, hl3⟩ := HCT.out y[k] hj
            have l1 := (hbel.cell (p := ⟨b0, _, none⟩) hb0).trans hl1
            have hbe := HEB.out _ hj
            have HS : Hid (minTo (endN l r) (fitsR l c p r y i) f (y.take (k + 1)) = minStep (endN l r) (fitsR l c p r y i) f (minTo (endN l r) (fitsR l c p r y i) f (y.take k)) y[k]) := minTo_snoc hkl
            have HE : Hid (endN l r y[k] = atI r y[k] + l[y[k]].len) := by unfold Hid endN; rw [lenAt_eq hj]
            unfold minStep at HS
            rw [HE.out] at hbe HS
            have hcF := fun q => HF.out (atI r y[k] + l[y[k]].len) (wr.drewN q) (by omega) (below_drewN hbel q)
            have hmb := minTo_char (e := endN l r) (q := fitsR l c p r y i) (f := f) (by omega) (z := y) k (by omega)
            have hmb' : -1 ≤ minTo (endN l r) (fitsR l c p r y i) f (y.take k) ∧ minTo (endN l r) (fitsR l c p r y i) f (y.take k) ≤ 100000 := by
              rcases hmb with ⟨e, -⟩ | ⟨j, hjm, e, -⟩
              · omega
              · have := HEB.out j (H.out.lt j (List.mem_of_mem_take hjm))
                omega
            clear hz1 hr1 hl1 HE hmb
            generalize minTo (endN l r) (fitsR l c p r y i) f (y.take k) = bt at *
            generalize l[y[k]].len = ln at *
            generalize y[k] = j at *
            generalize atI r j = x at *
            have j1 : (0 : Int) ≤ (j : Int) := Int.natCast_nonneg _
            have j2 : (j : Int) < (l.length : Int) := by omega
            have i3 : (0 : Int) ≤ (k : Int) := Int.natCast_nonneg _
            have i4 : (k : Int) < (y.length : Int) := by omega
            have w1 : IntKind.i64.wrap (x + ln) = x + ln := IntWalk.i64_in _ (by omega)
            have hsz := hbel.size
            by_cases d1 : f < x + ln
            · by_cases d2 : bt < 0 ∨ x + ln < bt
              · cases hq : fitsR l c p r y i (x + ln) with
                | true =>
                  have HS' : Hid (minTo (endN l r) (fitsR l c p r y i) f (y.take (k + 1)) = x + ln) := by unfold Hid; rw [HS.out, if_pos ⟨d1, d2, hq⟩]
                  rw [hq] at hcF
                  clear hq HS
                  by_cases d3 : bt < 0
                  · go_wp2_with fail
                    go_quiet (fail)
                    go_wp2_with (go_at_call 87; refine (hcF _).mono ?_; rintro e w2 ⟨rfl, hb2⟩)
                    go_roundw
                    case rel => exact ⟨k + 1, by omega, by go_num, by rw [HS'.out], (below_drewN hbel _).trans (hb2.mono (by simpa using hsz))⟩
                    case measure => simp [intOf]; omega
                  · have d4 : x + ln < bt := by omega
                    go_wp2_with fail
                    go_quiet (fail)
                    go_wp2_with (go_at_call 87; refine (hcF _).mono ?_; rintro e w2 ⟨rfl, hb2⟩)
                    go_roundw
                    case rel => exact ⟨k + 1, by omega, by go_num, by rw [HS'.out], (below_drewN hbel _).trans (hb2.mono (by simpa using hsz))⟩
                    case measure => simp [intOf]; omega
                | false =>
                  have HS' : Hid (minTo (endN l r) (fitsR l c p r y i) f (y.take (k + 1)) = bt) := by unfold Hid; rw [HS.out, if_neg (fun h => by rw [hq] at h; exact absurd h.2.2 (by simp))]
                  rw [hq] at hcF
                  clear hq HS
                  by_cases d3 : bt < 0
                  · go_wp2_with fail
                    go_quiet (fail)
                    go_wp2_with (go_at_call 87; refine (hcF _).mono ?_; rintro e w2 ⟨rfl, hb2⟩)
                    go_roundw
                    case rel => exact ⟨k + 1, by omega, by go_num, by rw [HS'.out], (below_drewN hbel _).trans (hb2.mono (by simpa using hsz))⟩
                    case measure => simp [intOf]; omega
                  · have d4 : x + ln < bt := by omega
                    go_wp2_with fail
                    go_quiet (fail)
                    go_wp2_with (go_at_call 87; refine (hcF _).mono ?_; rintro e w2 ⟨rfl, hb2⟩)
                    go_roundw
                    case rel => exact ⟨k + 1, by omega, by go_num, by rw [HS'.out], (below_drewN hbel _).trans (hb2.mono (by simpa using hsz))⟩
                    case measure => simp [intOf]; omega
              · have HS' : Hid (minTo (endN l r) (fitsR l c p r y i) f (y.take (k + 1)) = bt) := by unfold Hid; rw [HS.out, if_neg (fun h => d2 h.2.1)]
                have d3 : ¬ bt < 0 := fun h => d2 (.inl h)
                have d4 : ¬ x + ln < bt := fun h => d2 (.inr h)
                have d3b : decide (bt < 0) = false := by simpa using d3
                have d4b : decide (x + ln < bt) = false := by simpa using d4
                clear hcF HS
                go_wp2_with fail
                go_quiet (fail)
                go_wp2_with fail
                go_roundw
                case rel => exact ⟨k + 1, by omega, by go_num, by rw [HS'.out], below_drewN hbel _⟩
                case measure => simp [intOf]; omega
            · have HS' : Hid (minTo (endN l r) (fitsR l c p r y i) f (y.take (k + 1)) = bt) := by unfold Hid; rw [HS.out, if_neg (fun h => d1 h.1)]
              have d1b : decide (f < x + ln) = false := by simpa using d1
              clear hcF HS
              go_wp2_with fail
              go_quiet (fail)
              go_wp2_with fail
              go_roundw
              case rel => exact ⟨k + 1, by omega, by go_num, by rw [HS'.out], below_drewN hbel _⟩
              case measure => simp [intOf]; omega
          · have hke : k = y.length := by omega
            subst hke
            have HV2 : Hid (minTo (endN l r) (fitsR l c p r y i) f (y.take y.length) = earlyR l c p r y i) := by unfold Hid; rw [HV'.out, List.take_length]
            go_wp2_with fail
            go_ret
            exact ⟨ret_int HV2.out, hbel⟩

end Go.Proofs.YtfcfphamecbcgaaGreat

/- the reference's ready. -/
namespace Go.Proofs.YtfcfphamecbcgaaGreat
open Go.RowKit Go.Shelf

theorem mem_take_succ {y : List Nat} {m j : Nat} (h : m < y.length) : decide (j ∈ y.take (m + 1)) = (decide (j ∈ y.take m) || decide (y[m] = j)) := by
  rw [Bool.eq_iff_iff, decide_eq_true_iff, Bool.or_eq_true, decide_eq_true_iff, decide_eq_true_iff, take_snoc y m h, List.mem_append, List.mem_singleton]
  exact or_congr Iff.rfl eq_comm

set_option maxRecDepth 100000 in
set_option maxHeartbeats 4000000 in
theorem refReady (v z : Value) (l : List Task) (y : List Nat) (i : Nat) (B : Nat) (w : World) (hR : RightT l) (hl : TasksAt w B v l) (hz : IntsAt w B z (ints y)) (hi : i < l.length) :
    Calls Tryz.prog 65 #[v, z, .int .i64 i] w fun e w' => e = .returned (.bool (readyB l y i)) ∧ w = w' := by
  have HFind : Hid (∀ s, Calls Tryz.prog 45 #[v, .string s] w fun e w'' => e = .returned (.int .i64 (pl l s)) ∧ w = w'') := fun s => refFind v l s w B hl
  have HMem : Hid (∀ s ∈ l[i].bef, ∃ j : Nat, j < l.length ∧ pl l s = (j : Int)) := fun s hs => mem_row hR hi (by unfold pls; exact List.mem_map.2 ⟨s, hs, rfl⟩)
  obtain ⟨A, cc, rfl, hA1, hA2, -⟩ := hl.open_
  obtain ⟨A2, c2, rfl, hC1, hC2, hCc⟩ := hz.open_
  obtain ⟨b0, off0, rfl, hb0, hct⟩ := hl.cells hi
  obtain ⟨-, -, -, -, t4⟩ := hct i hi
  obtain ⟨hm1, hm2, hbef⟩ := hl.open_bef hi
  unfold maxLen at hA2 hC2 hm2
  have HCY : Hid (∀ (k : Nat) (hk : k < y.length), ∃ b1 off1, A2 = some ⟨b1, off1, none⟩ ∧ w.cell? ⟨b1, off1 + k, none⟩ = some (.int .i64 (y[k] : Nat))) := fun k hk => by
    obtain ⟨b, off, e, hb, hc⟩ := hCc k (by rw [length_ints]; exact hk)
    exact ⟨b, off, e, by simpa [ints] using hc k (by rw [length_ints]; exact hk)⟩
  rw [length_ints] at hC1 ⊢
  have HRow : Hid (readyB l y i = (pls l l[i].bef).all fun k => decide (k.toNat ∈ y)) := by unfold Hid readyB; rw [show rowAt l i = pls l l[i].bef from getD_rows hi]
  have HB := Lib.hid hbef
  have i1 : (0 : Int) ≤ (i : Int) := Int.natCast_nonneg _
  have i2 : (i : Int) < (l.length : Int) := by omega
  clear hR hl hz hct hbef hCc
  go_enter Tryz.func65, Tryz.ntmps65
  go_wp2_with fail
  go_loopw [7] (fun ix wr => ∃ k : Nat, k ≤ l[i].bef.length ∧ ix = .int .i64 k ∧ Hid (((pls l l[i].bef).take k).all (fun k => decide (k.toNat ∈ y)) = true) ∧ w = wr) (fun ix _ => l[i].bef.length - (intOf ix).toNat)
  case atStart => exact ⟨0, Nat.zero_le _, rfl, rfl, rfl⟩
  case round =>
    obtain ⟨k, hk, rfl, HN, rfl⟩ := hrel
    by_cases hkl : k < l[i].bef.length
    · obtain ⟨b', off', hba, hb', hs⟩ := HB.out k hkl
      have hsk := hs k hkl
      obtain ⟨j, hj, hje⟩ := HMem.out _ (List.getElem_mem hkl)
      have hF := HFind.out l[i].bef[k]
      rw [hje] at hF
      have HS : Hid (decide (j ∈ y) = true → ((pls l l[i].bef).take (k + 1)).all (fun k => decide (k.toNat ∈ y)) = true) := fun h => by
        rw [take_snoc _ k (by rw [pls_length]; exact hkl), List.all_append, HN.out, pls_get hkl, hje]
        simpa using h
      have HNo : Hid (decide (j ∈ y) = false → readyB l y i = false) := fun h => by
        rw [HRow.out, List.all_eq_false]
        refine ⟨(j : Int), ?_, by simpa using h⟩
        rw [← hje, ← pls_get hkl]
        exact List.getElem_mem _
      clear hs hje HN
      have i3 : (0 : Int) ≤ (k : Int) := Int.natCast_nonneg _
      have i4 : (k : Int) < (l[i].bef.length : Int) := by omega
      go_wp2_with (go_at_call 45; refine hF.mono ?_; rintro e w' ⟨rfl, rfl⟩)
      obtain ⟨wo, rfl⟩ : ∃ wo : World, wo = w := ⟨_, rfl⟩
      go_loopw [10, 9] (fun ix inn wr => ∃ m : Nat, m ≤ y.length ∧ ix = .int .i64 m ∧ inn = .bool (decide (j ∈ y.take m)) ∧ wo = wr) (fun ix _ _ => y.length - (intOf ix).toNat)
      case atStart => exact ⟨0, Nat.zero_le _, rfl, rfl, rfl⟩
      case round =>
        clear hF
        obtain ⟨m, hm, rfl, rfl, rfl⟩ := hrel
        by_cases hml : m < y.length
        · obtain ⟨b1, off1, rfl, hz1⟩ := HCY.out m hml
          have HT : Hid (decide (j ∈ y.take (m + 1)) = (decide (j ∈ y.take m) || decide (y[m] = j))) := mem_take_succ hml
          have i5 : (0 : Int) ≤ (m : Int) := Int.natCast_nonneg _
          have i6 : (m : Int) < (y.length : Int) := by omega
          have hb : (((y[m] : Nat) : Int) == (j : Int)) = decide (y[m] = j) := by
            rw [Bool.eq_iff_iff]
            simp
            omega
          generalize decide (j ∈ y.take m) = inn at *
          generalize y[m] = x at *
          cases inn with
          | true =>
            have HT' : Hid (decide (j ∈ y.take (m + 1)) = true) := by unfold Hid; rw [HT.out]; rfl
            clear hb HT
            go_wp2_with fail
            go_roundw
            case rel => exact ⟨m + 1, by omega, by go_num, by rw [HT'.out], by trivial⟩
            case measure => simp [intOf]; omega
          | false =>
            cases hq : decide (x = j) with
            | true =>
              rw [hq] at hb HT
              have HT' : Hid (decide (j ∈ y.take (m + 1)) = true) := HT.out
              clear hq HT
              go_wp2_with fail
              go_roundw
              case rel => exact ⟨m + 1, by omega, by go_num, by rw [HT'.out], by trivial⟩
              case measure => simp [intOf]; omega
            | false =>
              rw [hq] at hb HT
              have HT' : Hid (decide (j ∈ y.take (m + 1)) = false) := HT.out
              clear hq HT
              go_wp2_with fail
              go_roundw
              case rel => exact ⟨m + 1, by omega, by go_num, by rw [HT'.out], by trivial⟩
              case measure => simp [intOf]; omega
        · have hme : m = y.length := by omega
          subst hme
          rw [List.take_length]
          cases hq : decide (j ∈ y) with
          | true =>
            have HS' := Lib.hid (HS.out hq)
            clear hq HS HNo
            go_wp2_with fail
            go_roundw
            case rel => exact ⟨k + 1, by omega, by go_num, HS', by trivial⟩
            case measure => simp [intOf]; omega
          | false =>
            have HS' := Lib.hid (HNo.out hq)
            clear hq HS HNo
            go_wp2_with fail
            go_ret
            exact ⟨ret_bool HS'.out.symm, rfl⟩
    · have hke : k = l[i].bef.length := by omega
      subst hke
      have HV : Hid (readyB l y i = true) := by
        unfold Hid
        rw [HRow.out, ← HN.out, ← pls_length (l := l), List.take_length]
      go_wp2_with fail
      go_ret
      exact ⟨ret_bool HV.out.symm, rfl⟩

end Go.Proofs.YtfcfphamecbcgaaGreat

/- A region that draws its order: its head reads and calls (also functions that make memory), its tail is forced and writes. The head is walked once in the text's order, the tail from every world that the head can leave. -/
namespace Go.Proofs.YtfcfphamecbcgaaGreat
open Go.RowKit Go.Shelf

section
variable {P : Program} {ops : Array Oper} {md : Region.Mode} {C : World → Prop}

/-- Whatever order is picked among the first n operations; f of them are left. -/
def anyHead (P : Program) (md : Region.Mode) (ops : Array Oper) (C : World → Prop) (n : Nat) (L : Array Bool → Act → Prop) : Nat → Array Bool → Act → Prop
  | 0, done, a => L done a
  | f + 1, done, a => ¬ Region.ready md ops done = [] ∧ ∀ i ∈ Region.ready md ops done, i < n ∧ qOp P ops C i (anyHead P md ops C n L f (done.setIfInBounds i true)) a

theorem any_of_head {n g : Nat} {L : Array Bool → Act → Prop} {Q : Exit → Act → World → Prop} (hL : ∀ done a w, C w → L done a → wpAny P md ops Q g done a w) (f : Nat) :
    ∀ (done : Array Bool) (a : Act) (w : World), C w → anyHead P md ops C n L f done a → wpAny P md ops Q (f + g) done a w := by
  induction f with
  | zero => intro done a w hw h; rw [Nat.zero_add]; exact hL done a w hw h
  | succ f ih =>
    intro done a w hw h
    rw [Nat.succ_add]
    exact ⟨fun e => absurd e h.1, fun i hi => wpOp_of_qOp hw (fun a' w' hw' h' => ih _ a' w' hw' h') (h.2 i hi).2⟩

/-- The operation i, which may come now, may be taken first. -/
theorem head_first {n i : Nat} {o : Oper} {v : Value} {L : Array Bool → Act → Prop} (ho : ops[i]? = some o) (hin : i < n) (hn : n < ops.size) (hsel : ∀ (j : Nat) (o : Oper) cs b, ops[j]? = some o → o.op ≠ .select cs b)
    (hsink : Region.sinkB md ops n = true) (hchain : Region.chainB md ops n = true) (hL : ∀ done a, L done a → ∀ j ∈ Region.ready md ops done, n ≤ j) (f : Nat) :
    ∀ (done : Array Bool) (a : Act), HeadInv md ops n done → (∀ j oj, ops[j]? = some oj → j ≠ i → done.getD j true = false → (∀ e ∈ oj.after, Region.binds md e = true → e.on ≠ i) → o.apart ops oj = true) →
      i ∈ Region.ready md ops done → YieldsIn P ops C o v a → anyHead P md ops C n L f (done.setIfInBounds i true) (a.put o.dst v) → anyHead P md ops C n L (f + 1) done a := by
  induction f with
  | zero =>
    intro done a inv hap hr hy h
    have hun := (mem_ready.1 hr).1
    refine ⟨(fun e => by rw [e] at hr; cases hr), fun j hj => ?_⟩
    have hjn : j < n := Nat.lt_of_not_le fun hle => tail_waits hsink hchain hn inv (n - i) i rfl hin hun j hle hj
    refine ⟨hjn, ?_⟩
    by_cases e : j = i
    · rw [e]
      exact hy.qOp ho h
    · have := hL _ _ h j (ready_mono hj e)
      omega
  | succ f ih =>
    intro done a inv hap hr hy h
    have hun := (mem_ready.1 hr).1
    refine ⟨(fun e => by rw [e] at hr; cases hr), fun j hj => ?_⟩
    have hjn : j < n := Nat.lt_of_not_le fun hle => tail_waits hsink hchain hn inv (n - i) i rfl hin hun j hle hj
    refine ⟨hjn, ?_⟩
    by_cases e : j = i
    · rw [e]
      exact hy.qOp ho h
    · have h1 := (h.2 j (ready_mono hj e)).2
      obtain ⟨hju, oj, hoj, hall⟩ := mem_ready.1 hj
      have hno : ∀ x ∈ oj.after, Region.binds md x = true → x.on ≠ i := fun x hx hb he => by
        have h0 := hall x hx hb
        rw [he, getD_both hun] at h0
        cases h0
      have h2 := qOp_put hoj (hap j oj hoj e hju hno) (fun cs b => hsel i o cs b ho) (fun cs b => hsel j oj cs b hoj) hy h1
      refine qOp_mono (fun a' h3 => ?_) h2
      refine ih _ a' (inv.set hj hjn) (fun k ok hk hki hku hkn => ?_) (ready_mono hr (Ne.symm e)) h3.1 ?_
      · refine hap k ok hk hki ?_ hkn
        by_cases hjk : j = k
        · rw [← hjk]; exact hju
        · rwa [getD_set_ne true hjk] at hku
      · rw [Array.setIfInBounds_comm _ _ e]
        exact h3.2

/-- The head's walk in the text's order. -/
theorem head_lex {n g : Nat} {K : Act → Prop} (hn : n < ops.size) (hsel : Region.noSelect ops = true) (hsink : Region.sinkB md ops n = true) (hchain : Region.chainB md ops n = true) (l : List Oper) :
    ∀ (k : Nat) (done : Array Bool) (a : Act), k + l.length = n → (∀ j, j < l.length → l[j]? = ops[k + j]?) → HeadInv md ops n done → Region.lexHead md ops g l.length k done = true → wpQuiet P ops C K l a →
      anyHead P md ops C n (fun done' a' => Region.seqB md ops g n done' = true ∧ K a') l.length done a := by
  induction l with
  | nil =>
    intro k done a hk _ _ hB h
    obtain rfl : k = n := by simpa using hk
    exact ⟨by simpa [Region.lexHead] using hB, h⟩
  | cons o l ih =>
    intro k done a hk hl inv hB h
    have ho : ops[k]? = some o := by simpa using (hl 0 (by simp)).symm
    rw [List.length_cons] at hk hB
    simp only [Region.lexHead, Bool.and_eq_true] at hB
    obtain ⟨⟨h1, h2⟩, h3⟩ := hB
    have hr : k ∈ Region.ready md ops done := by simpa using h1
    have hq : qOp P ops C k (wpQuiet P ops C K l) a := by
      unfold qOp
      rw [ho]
      exact h
    obtain ⟨v, hy, hK⟩ := yieldsIn_of_qOp ho hq
    have hkn : k < n := by omega
    refine head_first ho hkn hn (Region.noSelect_spec hsel) hsink hchain (fun _ _ hL => seqB_ready hL.1) l.length done a inv (Region.free_spec ho h2) hr hy ?_
    refine ih (k + 1) _ _ (by omega) (fun j hj => ?_) (inv.set hr hkn) h3 hK
    have := hl (j + 1) (by rw [List.length_cons]; omega)
    rw [List.getElem?_cons_succ] at this
    rw [this, show k + (j + 1) = k + 1 + j by omega]

/-- A region with a quiet head of n operations and a forced tail. -/
theorem wp_region_qtail {id : Nat} {Q : Exit → Act → World → Prop} {a : Act} {w : World} {l : List Oper} (n : Nat) (hm : P.follows .mixedOrders = true) (hB : Region.lexTailB .any l.toArray n = true) (hC : C w.drew)
    (h : wpQuiet P l.toArray C (fun a' => ∀ w', C w' → wpList P l.toArray Q (l.drop n) a' w') (l.take n) a) : (Code.region id l.toArray true).wp P Q a w := by
  simp only [Region.lexTailB, Bool.and_eq_true, decide_eq_true_eq] at hB
  obtain ⟨⟨⟨⟨hsel, hn⟩, hsink⟩, hchain⟩, hlex⟩ := hB
  have hnl : n < l.length := by simpa using hn
  have htl : (l.take n).length = n := by rw [List.length_take]; omega
  have hdl : (l.drop n).length = l.toArray.size - n := by simp
  have inv0 : HeadInv .any l.toArray n (Array.replicate l.toArray.size false) := by
    refine ⟨by simp, fun j oj _ hj => ?_, fun t _ ht => getD_in (by simpa using ht) (getD_replicate_false _ _)⟩
    rw [getD_replicate_false] at hj
    cases hj
  have H := head_lex (md := .any) (g := l.toArray.size - n) hn hsel hsink hchain (l.take n) 0 _ a (by omega) (fun j hj => by
    rw [htl] at hj
    simp [hj]) inv0 (by rw [htl]; exact hlex) h
  refine wp_region_any hm ?_
  have H2 := any_of_head (Q := Q) (g := l.toArray.size - n) (fun done a' w' hw' hL => by
    have h1 := wpAny_of_seq (md := .any) (Q' := Q) (l.drop n) n done a' w' (fun j => by simp [List.getElem?_drop]) (by rw [hdl]; exact hL.1) (hL.2 w' hw')
    rwa [hdl] at h1) _ _ a _ hC H
  rw [htl, show n + (l.toArray.size - n) = l.toArray.size by omega] at H2
  exact H2

/-- The class of worlds that have grown out of w. -/
theorem wp_region_heldtail {id : Nat} {Q : Exit → Act → World → Prop} {a : Act} {w : World} {l : List Oper} (n : Nat) (hm : P.follows .mixedOrders = true) (hB : Region.lexTailB .any l.toArray n = true)
    (h : wpQuiet P l.toArray (fun w' => ∃ x : HeldB w, w' = x.w) (fun a' => ∀ w', (∃ x : HeldB w, w' = x.w) → wpList P l.toArray Q (l.drop n) a' w') (l.take n) a) : (Code.region id l.toArray true).wp P Q a w :=
  wp_region_qtail (C := fun w' => ∃ x : HeldB w, w' = x.w) n hm hB ⟨⟨w.drew, (Below.refl _ _).drew⟩, rfl⟩ h
end

end Go.Proofs.YtfcfphamecbcgaaGreat

/- the reference's List. -/
namespace Go.Proofs.YtfcfphamecbcgaaGreat
open Go.RowKit Go.Shelf

/-! ### Plain -/
theorem listR_prefix {l : List Task} {c p : Int} {y z : List Nat} : ∀ k, k ≤ y.length → listR l c p (y ++ z) k = listR l c p y k
  | 0, _ => rfl
  | k + 1, hk => by
    rw [listR, listR, listR_prefix k (by omega), List.take_append_of_le_length (by omega)]
    rw [List.getD_eq_getElem?_getD, List.getD_eq_getElem?_getD, List.getElem?_append_left (by omega)]
theorem listR_take {l : List Task} {c p : Int} {y : List Nat} {k : Nat} (hk : k ≤ y.length) : listR l c p y k = listAll l c p (y.take k) := by
  unfold listAll
  have e : (y.take k).length = k := by rw [List.length_take]; omega
  rw [e]
  conv => lhs; rw [← List.take_append_drop k y]
  exact listR_prefix k (by omega)
/-- A beginning of an order. -/
structure Placed (l : List Task) (y : List Nat) : Prop where
  nodup : y.Nodup
  lt : ∀ i ∈ y, i < l.length
  ready : ∀ k (hk : k < y.length), readyB l (y.take k) y[k] = true
theorem Placed.nil (l : List Task) : Placed l [] := ⟨by simp, by simp, fun k hk => absurd hk (by simp)⟩
theorem Placed.snoc {l : List Task} {y : List Nat} {i : Nat} (h : Placed l y) (hi : i < l.length) (hy : i ∉ y) (hr : readyB l y i = true) : Placed l (y ++ [i]) := by
  refine ⟨nodup_snocN' h.nodup hy, fun j hj => ?_, fun k hk => ?_⟩
  · rcases List.mem_append.1 hj with hj | hj
    · exact h.lt j hj
    · rw [List.mem_singleton.1 hj]; exact hi
  · rw [List.length_append, List.length_singleton] at hk
    by_cases e : k < y.length
    · rw [List.take_append_of_le_length (by omega), List.getElem_append_left e]
      exact h.ready k e
    · have : k = y.length := by omega
      subst this
      rw [List.take_append_of_le_length (Nat.le_refl _), List.take_length]
      simpa using hr
theorem Placed.front {l : List Task} {y z : List Nat} (h : Placed l (y ++ z)) : Placed l y := by
  refine ⟨(List.nodup_append.1 h.nodup).1, fun j hj => h.lt j (List.mem_append_left _ hj), fun k hk => ?_⟩
  have := h.ready k (by rw [List.length_append]; omega)
  rwa [List.take_append_of_le_length (by omega), List.getElem_append_left hk] at this
theorem Placed.take {l : List Task} {y : List Nat} (h : Placed l y) (k : Nat) : Placed l (y.take k) := by
  rw [← List.take_append_drop k y] at h
  exact h.front
theorem Placed.short {l : List Task} {y : List Nat} (h : Placed l y) : y.length ≤ l.length := by
  have := List.Nodup.length_le_of_subset h.nodup (l₂ := List.range l.length) (fun j hj => List.mem_range.2 (h.lt j hj))
  simpa using this
/-- The starts of a beginning are the program's. -/
theorem Placed.tied {l : List Task} {c p : Int} (hR : RightT l) (hc : 0 ≤ c ∧ 0 ≤ p) (hfit : l.any (tooMuch c p) = false) : ∀ (n : Nat) {y : List Nat}, y.length = n → Placed l y →
    ∃ s, Tied l s (listAll l c p y) y ∧ (∀ x ∈ s, -1 ≤ x ∧ x ≤ 10000 * (n : Int)) ∧ ∀ x ∈ listAll l c p y, 0 ≤ x ∧ x ≤ 10000 * (n : Int)
  | 0, y, hy, _ => by
    have : y = [] := List.length_eq_zero_iff.1 hy
    subst this
    exact ⟨_, tied_nil, fun x hx => by rw [(List.mem_replicate.1 hx).2]; omega, fun x hx => by
      have : x ∈ List.replicate l.length (0 : Int) := hx
      rw [(List.mem_replicate.1 this).2]; omega⟩
  | n + 1, y, hy, h => by
    obtain ⟨z, i, rfl, hz⟩ := snoc_cases hy
    obtain ⟨s, hT, hsb, hb⟩ := Placed.tied hR hc hfit n hz h.front
    obtain ⟨hn, hiz⟩ := nodup_snocN h.nodup
    have hi := h.lt i (by simp)
    have hr := h.ready z.length (by simp)
    rw [List.take_append_of_le_length (Nat.le_refl _), List.take_length] at hr
    have hr' : readyB l z i = true := by simpa using hr
    have hsk := hT.skip hR hi
    rw [hr', decide_eq_false hiz] at hsk
    obtain ⟨hun, hrow⟩ := skip_no hsk
    have hput := put_exists (s := s) hR hc hfit hT.len hi
    have he := hT.early hR hi hiz hrow hput
    have hbd := putN_bd (count := n) hR hT.len hi (fun x hx => (hsb x hx).2) hput
    refine ⟨s.set i (putN l c p s i), by rw [listAll_snoc, he]; exact hT.snoc hi hiz hbd.1, fun x hx => ?_, fun x hx => ?_⟩
    · rcases List.mem_or_eq_of_mem_set hx with hx | rfl
      · have := hsb x hx; omega
      · omega
    · rw [listAll_snoc, he] at hx
      rcases List.mem_or_eq_of_mem_set hx with hx | rfl
      · have := hb x hx; omega
      · omega

theorem ints_take (y : List Nat) (k : Nat) : ints (y.take k) = (ints y).take k := by simp [ints, List.map_take]
theorem RowAt.take {α : Type} {enc : α → Value} {w : World} {B n c : Nat} {A : Option Addr} {l : List α} (h : RowAt enc w B (.slice A n c) l) (k : Nat) (hk : k ≤ l.length) : RowAt enc w B (.slice A k c) (l.take k) := by
  obtain ⟨A', c', e, h2, h3, h4⟩ := h
  injection e with e1 e2 e3
  subst e1 e3
  have hl : (l.take k).length = k := by rw [List.length_take]; omega
  refine ⟨A, c, by rw [hl], by omega, h3, fun hn => ?_⟩
  obtain ⟨b, off, e, hlt, hc⟩ := h4 (by omega)
  refine ⟨b, off, e, hlt, fun j u hu => hc j u ?_⟩
  rw [List.getElem?_map, Option.map_eq_some_iff] at hu
  obtain ⟨a, ha, rfl⟩ := hu
  rw [List.getElem?_map, Option.map_eq_some_iff]
  refine ⟨a, ?_, rfl⟩
  rw [List.getElem?_take] at ha
  split at ha
  · exact ha
  · cases ha

/-! ### The walk -/
/-- What List leaves. -/
def ListPost (l : List Task) (c p : Int) (y : List Nat) (w : World) (e : Ending) (w' : World) : Prop :=
  Below w.heap.size w w' ∧ ∃ O, e = .returned (.slice (some ⟨O, 0, none⟩) l.length l.length) ∧ w'.ownsRow w.heap.size 3 1 (.slice (some ⟨O, 0, none⟩) l.length l.length) l.length ((listAll l c p y).map (Value.int .i64))

set_option maxRecDepth 100000 in
set_option maxHeartbeats 4000000 in
theorem refList (v z : Value) (l : List Task) (c p : Int) (y : List Nat) (w : World) (hR : RightT l) (hc : 0 ≤ c ∧ 0 ≤ p) (hfit : l.any (tooMuch c p) = false) (hP : Placed l y) (hl : TasksAt w w.heap.size v l) (hz : IntsAt w w.heap.size z (ints y)) :
    Calls Tryz.prog 64 #[v, .int .i64 c, .int .i64 p, z] w (ListPost l c p y w) := by
  have h8 := hR.len
  have hys := hP.short
  have HE : Hid (∀ k, k < y.length → ∀ (A2 : Option Addr) (c2 O : Nat) w', z = .slice A2 y.length c2 → Below w.heap.size w w' → O < w'.heap.size → w'.ownsRow w.heap.size 3 1 (.slice (some ⟨O, 0, none⟩) l.length l.length) l.length ((listR l c p y k).map (Value.int .i64)) →
      Calls Tryz.prog 79 #[v, .int .i64 c, .int .i64 p, .slice (some ⟨O, 0, none⟩) l.length l.length, .slice A2 k c2, .int .i64 (y.getD k 0 : Nat)] w' fun e w'' => e = .returned (.int .i64 (earlyR l c p (listR l c p y k) (y.take k) (y.getD k 0))) ∧ Below w'.heap.size w' w'') := fun k hk A2 c2 O w' ez hb hO hown => by
    have hi := hP.lt _ (List.getElem_mem hk)
    have e : y.getD k 0 = y[k] := by rw [List.getD_eq_getElem?_getD, List.getElem?_eq_getElem hk]; rfl
    obtain ⟨s, hT, -, hbd⟩ := Placed.tied (c := c) (p := p) hR hc hfit _ rfl (hP.take k)
    rw [← listR_take (by omega)] at hbd
    rw [List.length_take] at hbd
    subst ez
    have hz' : IntsAt w' w'.heap.size (.slice A2 k c2) (ints (y.take k)) := by
      rw [ints_take]
      have := ((hz.below hb (Nat.le_refl _)).mono hb.size)
      have h2 : RowAt (Value.int .i64) w' w'.heap.size (.slice A2 y.length c2) (ints y) := this
      exact RowAt.take h2 k (by rw [length_ints]; omega)
    rw [e]
    exact refEarly v _ _ l c p _ (y.take k) y[k] w' hR ⟨(hl.below hb (Nat.le_refl _)).mono hb.size, RowAt.of_own hown, hz', listR_len _, fun x hx => by have := hbd x hx; omega, fun i hi => hP.lt i (List.mem_of_mem_take hi), by rw [List.length_take]; omega⟩ hi
  obtain ⟨A, cc, rfl, hA1, hA2, -⟩ := hl.open_
  obtain ⟨A2, c2, rfl, hC1, hC2, hCc⟩ := hz.open_
  unfold maxLen at hA2 hC2
  have HCY : Hid (∀ (k : Nat) (hk : k < y.length), ∃ b1 off1, A2 = some ⟨b1, off1, none⟩ ∧ b1 < w.heap.size ∧ w.cell? ⟨b1, off1 + k, none⟩ = some (.int .i64 (y.getD k 0 : Nat))) := fun k hk => by
    obtain ⟨b, off, e, hb, hc⟩ := hCc k (by rw [length_ints]; exact hk)
    have e2 : y.getD k 0 = y[k] := by rw [List.getD_eq_getElem?_getD, List.getElem?_eq_getElem hk]; rfl
    rw [e2]
    exact ⟨b, off, e, hb, by simpa [ints] using hc k (by rw [length_ints]; exact hk)⟩
  rw [length_ints] at hC1 HE ⊢
  have HLt : Hid (∀ k (_ : k < y.length), y.getD k 0 < l.length) := fun k hk => by
    rw [List.getD_eq_getElem?_getD, List.getElem?_eq_getElem hk]
    exact hP.lt _ (List.getElem_mem hk)
  clear hR hl hz hCc hP hfit hc
  obtain ⟨i0, hi0, hz0, hz1, hz2⟩ := info_parts info_int
  have hbytes : i0.bytes * l.length ≤ 281474976710656 := by rw [hz2]; omega
  go_enter Tryz.func64, Tryz.ntmps64
  go_wp2_with (at_make; refine wpList_make_full _ rfl _ _ 23 rfl w.heap.size 3 i0 (.int .i64 0) 1 Tryz.underlying23 hi0 hz0 hz1 .i64 .i64 _ _ l.length rfl rfl rfl rfl hbytes (by unfold maxLen; omega) (Nat.le_refl _) ?_; intro w2 hown2 hgrow2)
  have hb2 := (Below.refl w.heap.size w).grown hgrow2 (Nat.le_refl _) (fun k hk => by cases hk)
  rw [made_zero] at hown2
  have Hown2 : Hid (w2.ownsRow w.heap.size 3 1 (.slice (some ⟨w.heap.size, 0, none⟩) l.length l.length) l.length ((listR l c p y 0).map (Value.int .i64))) := hown2
  clear hgrow2 hi0 hz0 hz1 hz2 hbytes hown2
  go_loopw [10] (fun ix wr => ∃ k : Nat, k ≤ y.length ∧ ix = .int .i64 k ∧ Hid (wr.ownsRow w.heap.size 3 1 (.slice (some ⟨w.heap.size, 0, none⟩) l.length l.length) l.length ((listR l c p y k).map (Value.int .i64))) ∧ Below w.heap.size w wr) (fun ix _ => y.length - (intOf ix).toNat)
  case atStart => exact ⟨0, Nat.zero_le _, rfl, Hown2, hb2⟩
  case round =>
    clear Hown2 hb2
    obtain ⟨k, hk, rfl, Hown, hbel⟩ := hrel
    by_cases hkl : k < y.length
    · obtain ⟨b2, off2, rfl, hb2, hz1⟩ := HCY.out k hkl
      have z1 := (hbel.cell (p := ⟨b2, _, none⟩) hb2).trans hz1
      have hj := HLt.out k hkl
      have hO := (Hown.out.lt _ rfl).2
      have hcE := HeldB.call (fun w' (hb : Below wr.heap.size wr w') => HE.out k hkl (some ⟨b2, off2, none⟩) c2 w.heap.size w' rfl (hbel.trans (hb.mono hbel.size)) (Nat.lt_of_lt_of_le hO hb.size) (Hown.out.kept (grown_below (row := none) hb) (by simp [Value.ownBlock])))
      have y1 := HeldB.cell z1
      have HL' : Hid (listR l c p y (k + 1) = (listR l c p y k).set (y.getD k 0) (earlyR l c p (listR l c p y k) (y.take k) (y.getD k 0))) := rfl
      have HLn : Hid ((listR l c p y k).length = l.length) := listR_len k
      generalize earlyR l c p (listR l c p y k) (y.take k) (y.getD k 0) = t at *
      generalize y.getD k 0 = j at *
      have j1 : (0 : Int) ≤ (j : Int) := Int.natCast_nonneg _
      have j2 : (j : Int) < (l.length : Int) := by omega
      have i3 : (0 : Int) ≤ (k : Int) := Int.natCast_nonneg _
      have i4 : (k : Int) < (y.length : Int) := by omega
      have i5 : (k : Int) ≤ (c2 : Int) := by omega
      clear hz1
      go_wp2_with fail
      refine wp_region_heldtail 18 (by kernel_rfl) (by kernel_rfl) ?_
      simp only [List.take_succ_cons, List.take_zero, List.drop_succ_cons, List.drop_zero]
      repeat (go_big_quiet_step ((go_at_call 79; exact hcE _)))
      refine wpQuiet_nil ?_
      rintro w5 ⟨⟨w6, hb5⟩, rfl⟩
      have hown5 := Hown.out.kept (grown_below (row := none) hb5) (by simp [Value.ownBlock])
      have hc5 := hown5.cellAt j (by omega)
      rw [List.getElem?_map, List.getElem?_eq_getElem (by rw [HLn.out]; exact hj)] at hc5
      have hf5 := hown5.frozenAt j
      obtain ⟨hM2, hg2⟩ := hown5.stored j (.int .i64 t)
      have Hown' : Hid ((w5.setCell ⟨w.heap.size, j, none⟩ (.int .i64 t)).ownsRow w.heap.size 3 1 (.slice (some ⟨w.heap.size, 0, none⟩) l.length l.length) l.length ((listR l c p y (k + 1)).map (Value.int .i64))) := by
        unfold Hid
        rw [HL'.out, List.map_set]
        exact hM2
      have hbel2 := (hbel.trans (hb5.mono hbel.size)).setCell (p := ⟨w.heap.size, j, none⟩) (Nat.le_refl _) (.int .i64 t)
      clear hown5 hM2 hg2 y1 hcE z1
      go_wp2_with fail
      go_roundw
      case rel => exact ⟨k + 1, by omega, by go_num, Hown', hbel2⟩
      case measure => simp [intOf]; omega
    · have hke : k = y.length := by omega
      subst hke
      go_wp2_with fail
      go_ret
      exact ⟨hbel, _, rfl, Hown.out⟩

end Go.Proofs.YtfcfphamecbcgaaGreat

/- the reference's Length, Starts, and Needed. -/
namespace Go.Proofs.YtfcfphamecbcgaaGreat
open Go.RowKit Go.Shelf

set_option maxRecDepth 100000 in
set_option maxHeartbeats 2000000 in
theorem refLen (v u : Value) (l : List Task) (s : List Int) (B : Nat) (w : World) (hR : RightT l) (hl : TasksAt w B v l) (hs : IntsAt w B u s) (hlen : s.length = l.length) (hbd : ∀ x ∈ s, 0 ≤ x ∧ x ≤ 1000000) :
    Calls Tryz.prog 31 #[v, u] w fun e w' => e = .returned (.int .i64 (lenTo l s l.length)) ∧ ∃ q, w.drewN q = w' := by
  have h8 := hR.len
  have HB := Lib.hid (lenTo_bd hR hlen hbd)
  obtain ⟨A, cc, rfl, hA1, hA2, hAc⟩ := hl.open_
  obtain ⟨A', cc', rfl, hA1', hA2', hBc⟩ := hs.open_
  unfold maxLen at hA2 hA2'
  have HC : Hid (∀ (k : Nat) (hk : k < l.length), ∃ b0 off0 b1 off1, A = some ⟨b0, off0, none⟩ ∧ A' = some ⟨b1, off1, none⟩ ∧ w.cell? ⟨b0, off0 + k * 5 + 1, none⟩ = some (.int .i64 l[k].len) ∧ w.cell? ⟨b1, off1 + k, none⟩ = some (.int .i64 (atI s k)) ∧ 1 ≤ l[k].len ∧ l[k].len ≤ 10000 ∧ 0 ≤ atI s k ∧ atI s k ≤ 1000000) := fun k hk => by
    obtain ⟨b0, off0, e0, -, h0⟩ := hAc k hk
    obtain ⟨b1, off1, e1, -, h1⟩ := hBc k (by omega)
    have h2 := hbd _ (List.getElem_mem (show k < s.length by omega))
    rw [← atI_get (by omega)] at h2
    exact ⟨b0, off0, b1, off1, e0, e1, (h0 k hk).2.1, by rw [atI_get (by omega)]; exact h1 k (by omega), (fieldB_len (hR.field k hk)).1, (fieldB_len (hR.field k hk)).2, h2.1, h2.2⟩
  rw [hlen] at hA1' ⊢
  clear hl hs hAc hBc hR hbd hlen
  go_enter Tryz.func31, Tryz.ntmps31
  go_wp2_with fail
  go_loopw [6, 5] (fun ix m wr => ∃ k : Nat, k ≤ l.length ∧ ix = .int .i64 k ∧ m = .int .i64 (lenTo l s k) ∧ ∃ q, wr = w.drewN q) (fun ix _ _ => l.length - (intOf ix).toNat)
  case atStart => exact ⟨0, Nat.zero_le _, rfl, rfl, 0, rfl⟩
  case round =>
    obtain ⟨k, hk, rfl, rfl, q, rfl⟩ := hrel
    by_cases hkl : k < l.length
    · obtain ⟨b0, off0, b1, off1, rfl, rfl, h0, h1, h2, h3, h4, h5⟩ := HC.out k hkl
      have hb := HB.out k hk
      have HS : Hid (lenTo l s (k + 1) = max (lenTo l s k) (atI s k + l[k].len)) := by
        unfold Hid
        have e : endN l s k = atI s k + l[k].len := by unfold endN; rw [lenAt_eq hkl]
        rw [lenTo, e]
        split <;> omega
      generalize lenTo l s k = m at *
      generalize atI s k = x at *
      generalize l[k].len = ln at *
      have i3 : (0 : Int) ≤ (k : Int) := Int.natCast_nonneg _
      have i4 : (k : Int) < (l.length : Int) := by omega
      have w1 : IntKind.i64.wrap (x + ln) = x + ln := IntWalk.i64_in _ (by omega)
      go_wp2_with fail
      go_quiet (fail)
      go_wp2_with fail
      go_roundw
      case rel => exact ⟨k + 1, by omega, by go_num, by rw [HS.out], _, rfl⟩
      case measure => simp [intOf]; omega
    · have hke : k = l.length := by omega
      subst hke
      go_wp2_with fail
      go_ret
      exact ⟨rfl, _, rfl⟩

set_option maxRecDepth 100000 in
set_option maxHeartbeats 2000000 in
theorem refStarts (v u : Value) (l : List Task) (s : List Int) (B : Nat) (w : World) (hl : TasksAt w B v l) (hs : IntsAt w B u s) (_hw : Wide s) :
    Calls Tryz.prog 43 #[v, u] w fun e w' => e = .returned (.int .i64 (startsN l s)) ∧ w = w' := by
  obtain ⟨A, cc, rfl, hA1, hA2, -⟩ := hl.open_
  obtain ⟨A', cc', rfl, hA1', hA2', hBc⟩ := hs.open_
  unfold maxLen at hA2 hA2'
  have HBc := Lib.hid hBc
  clear hl hs hBc
  by_cases h : s.length = l.length
  · have HV : Hid (startsN l s = if s.any outB then 2 else 0) := by unfold Hid startsN; rw [if_pos h]
    have hb : ((s.length : Int) != l.length) = false := by simp [h]
    clear h
    go_enter Tryz.func43, Tryz.ntmps43
    go_wp2_with fail
    go_loopw [5] (fun ix wr => ∃ k : Nat, k ≤ s.length ∧ ix = .int .i64 k ∧ Hid ((s.take k).any outB = false) ∧ w = wr) (fun ix _ => s.length - (intOf ix).toNat)
    case atStart => exact ⟨0, Nat.zero_le _, rfl, rfl, rfl⟩
    case round =>
      obtain ⟨k, hk, rfl, HN, rfl⟩ := hrel
      by_cases hkl : k < s.length
      · obtain ⟨b, off, rfl, hb, hc⟩ := HBc.out k hkl
        have h1 := hc k hkl
        have HO : Hid (outB s[k] = !betweenB s[k] 0 1000000) := by
          unfold Hid outB betweenB
          rw [Bool.eq_iff_iff]
          simp
        have HY : Hid (outB s[k] = false → (s.take (k + 1)).any outB = false) := fun h => any_take hkl HN.out h
        have HX : Hid (outB s[k] = true → startsN l s = 2) := fun h => by rw [HV.out, any_hit hkl h]; rfl
        have hcall := refBetween s[k] 0 1000000 w
        have i3 : (0 : Int) ≤ (k : Int) := Int.natCast_nonneg _
        have i4 : (k : Int) < (s.length : Int) := by omega
        clear hc HN
        generalize outB s[k] = ob at *
        generalize s[k] = x at *
        cases hq : betweenB x 0 1000000 with
        | true =>
          have HY' := Lib.hid (HY.out (by rw [HO.out, hq]; rfl))
          rw [hq] at hcall
          clear hq HY HX HO
          go_wp2_with (go_at_call 41; refine hcall.mono ?_; rintro e w' ⟨rfl, rfl⟩)
          go_roundw
          case rel => exact ⟨k + 1, by omega, by go_num, HY', by trivial⟩
          case measure => simp [intOf]; omega
        | false =>
          have HX' := Lib.hid (HX.out (by rw [HO.out, hq]; rfl))
          rw [hq] at hcall
          clear hq HY HX HO
          go_wp2_with (go_at_call 41; refine hcall.mono ?_; rintro e w' ⟨rfl, rfl⟩)
          go_ret
          exact ⟨ret_int HX'.out.symm, rfl⟩
      · have hke : k = s.length := by omega
        subst hke
        have HV' : Hid (startsN l s = 0) := by
          have := HN.out
          rw [List.take_length] at this
          unfold Hid
          rw [HV.out, this]
          rfl
        go_wp2_with fail
        go_ret
        exact ⟨ret_int HV'.out.symm, rfl⟩
  · have HV : Hid (startsN l s = 3) := by unfold Hid startsN; rw [if_neg h]
    have hb : ((s.length : Int) != l.length) = true := by simp; omega
    clear h
    go_enter Tryz.func43, Tryz.ntmps43
    go_wp2
    go_ret
    exact ⟨ret_int HV.out.symm, rfl⟩

set_option maxRecDepth 100000 in
set_option maxHeartbeats 2000000 in
theorem refNeeded (v : Value) (l : List Task) (c p : Int) (B : Nat) (w : World) (hl : TasksAt w B v l) :
    Calls Tryz.prog 27 #[v, .int .i64 c, .int .i64 p] w fun e w' => e = .returned (.bool (l.any (tooMuch c p))) ∧ w = w' := by
  obtain ⟨A, cc, rfl, hA1, hA2, hAc⟩ := hl.open_
  unfold maxLen at hA2
  have HC := Lib.hid hAc
  clear hl hAc
  go_enter Tryz.func27, Tryz.ntmps27
  go_wp2_with fail
  go_loopw [7] (fun ix wr => ∃ k : Nat, k ≤ l.length ∧ ix = .int .i64 k ∧ Hid ((l.take k).any (tooMuch c p) = false) ∧ w = wr) (fun ix _ => l.length - (intOf ix).toNat)
  case atStart => exact ⟨0, Nat.zero_le _, rfl, rfl, rfl⟩
  case round =>
    obtain ⟨k, hk, rfl, HN, rfl⟩ := hrel
    by_cases hkl : k < l.length
    · obtain ⟨b, off, rfl, hb, hc⟩ := HC.out k hkl
      obtain ⟨-, -, t2, t3, -⟩ := hc k hkl
      have HO : Hid (tooMuch c p l[k] = (decide (c < l[k].crew) || decide (p < l[k].pow))) := rfl
      have HY : Hid (tooMuch c p l[k] = false → (l.take (k + 1)).any (tooMuch c p) = false) := fun h => any_take hkl HN.out h
      have HX : Hid (tooMuch c p l[k] = true → l.any (tooMuch c p) = true) := fun h => any_hit hkl h
      have i3 : (0 : Int) ≤ (k : Int) := Int.natCast_nonneg _
      have i4 : (k : Int) < (l.length : Int) := by omega
      clear hc HN
      generalize tooMuch c p l[k] = ob at *
      generalize l[k].crew = x at *
      generalize l[k].pow = y at *
      by_cases d1 : c < x
      · have HX' := Lib.hid (HX.out (by rw [HO.out]; simp [d1]))
        clear HY HX HO
        go_wp2_with fail
        go_ret
        exact ⟨ret_bool HX'.out.symm, rfl⟩
      · have d1b : decide (c < x) = false := by simpa using d1
        by_cases d2 : p < y
        · have HX' := Lib.hid (HX.out (by rw [HO.out]; simp [d2]))
          clear HY HX HO
          go_wp2_with fail
          go_ret
          exact ⟨ret_bool HX'.out.symm, rfl⟩
        · have d2b : decide (p < y) = false := by simpa using d2
          have HY' := Lib.hid (HY.out (by rw [HO.out, d1b, d2b]; rfl))
          clear HY HX HO
          go_wp2_with fail
          go_roundw
          case rel => exact ⟨k + 1, by omega, by go_num, HY', by trivial⟩
          case measure => simp [intOf]; omega
    · have hke : k = l.length := by omega
      subst hke
      have HV' : Hid (l.any (tooMuch c p) = false) := by
        have := HN.out
        rw [List.take_length] at this
        exact this
      go_wp2_with fail
      go_ret
      exact ⟨ret_bool HV'.out.symm, rfl⟩

end Go.Proofs.YtfcfphamecbcgaaGreat

/- the reference's search over all orders, and its Least. -/
namespace Go.Proofs.YtfcfphamecbcgaaGreat
open Go.RowKit Go.Shelf

/-- What the search leaves. -/
def FurPost (r : Int × List Int) (w : World) (e : Ending) (w' : World) : Prop :=
  Below w.heap.size w w' ∧ (-1 ≤ r.1 ∧ r.1 ≤ 1010000) ∧ ∃ A cap, e = .returned (.tuple #[.int .i64 r.1, .slice A r.2.length cap]) ∧ w'.ownsRow w.heap.size 3 1 (.slice A r.2.length cap) r.2.length (r.2.map (Value.int .i64))

theorem own_nilI (w : World) (B e : Nat) : w.ownsRow B e 1 (.slice none 0 0) 0 [] := World.ownsRow_nil _ _ _ _

set_option maxRecDepth 100000 in
set_option maxHeartbeats 8000000 in
theorem refFurther (v : Value) (l : List Task) (c p : Int) (hR : RightT l) (hc : 0 ≤ c ∧ 0 ≤ p) (hfit : l.any (tooMuch c p) = false) : ∀ (m : Nat) (y : List Nat) (known : Int) (z : Value) (w : World), y.length + m = l.length → Placed l y → -1 ≤ known ∧ known ≤ 1010000 →
    TasksAt w w.heap.size v l → IntsAt w w.heap.size z (ints y) → Calls Tryz.prog 46 #[v, .int .i64 c, .int .i64 p, z, .int .i64 known] w (FurPost (furR l c p m y known) w) := by
  intro m
  induction m with
  | zero =>
    intro y known z w hm hP hk hl hz
    have h8 := hR.len
    have hL := refList v z l c p y w hR hc hfit hP hl hz
    unfold ListPost at hL
    obtain ⟨s, -, -, hbd⟩ := Placed.tied (c := c) (p := p) hR hc hfit _ rfl hP
    have HLen : Hid (∀ w' O, Below w.heap.size w w' → w'.ownsRow w.heap.size 3 1 (.slice (some ⟨O, 0, none⟩) l.length l.length) l.length ((listAll l c p y).map (Value.int .i64)) →
        Calls Tryz.prog 31 #[v, .slice (some ⟨O, 0, none⟩) l.length l.length] w' fun e w'' => e = .returned (.int .i64 (lenTo l (listAll l c p y) l.length)) ∧ ∃ q, w'.drewN q = w'') := fun w' O hb hown =>
      refLen v _ l _ w'.heap.size w' hR ((hl.below hb (Nat.le_refl _)).mono hb.size) (RowAt.of_own hown) (listR_len _) (fun x hx => by have := hbd x hx; omega)
    have hlb := lenTo_bd hR (s := listAll l c p y) (listR_len _) (fun x hx => by have := hbd x hx; omega) l.length (Nat.le_refl _)
    have HF : Hid (furR l c p 0 y known = if known < 0 ∨ lenTo l (listAll l c p y) l.length < known then (lenTo l (listAll l c p y) l.length, listAll l c p y) else (-1, [])) := rfl
    have HLn : Hid ((listAll l c p y).length = l.length) := listR_len _
    obtain ⟨A, cc, rfl, hA1, hA2, -⟩ := hl.open_
    obtain ⟨A2, c2, rfl, hC1, hC2, -⟩ := hz.open_
    rw [length_ints] at hC1 hL ⊢
    unfold maxLen at hA2 hC2
    have hb : ((y.length : Int) == (l.length : Int)) = true := by simp; omega
    clear hl hz hP hbd hR hfit hc
    generalize lenTo l (listAll l c p y) l.length = n at *
    generalize listAll l c p y = S at *
    by_cases hcc : known < 0 ∨ n < known
    · have HF' : Hid (furR l c p 0 y known = (n, S)) := by unfold Hid; rw [HF.out, if_pos hcc]
      clear HF
      by_cases d1 : known < 0
      · go_enter Tryz.func46, Tryz.ntmps46
        go_wp2_with (first | (go_at_call 64; refine hL.mono ?_; rintro e w1 ⟨hb1, O, rfl, hown1⟩; have Hown := Lib.hid hown1; have hLn := HLen.out w1 O hb1 hown1; clear hown1) | (go_at_call 31; refine hLn.mono ?_; rintro e w2 ⟨rfl, q, rfl⟩))
        refine bodyPost_ret (results_tmp2 rfl _ _ _) (by rfl) ?_
        rw [HF'.out]
        refine ⟨below_drewN hb1 q, ⟨by simp only; omega, by simp only; omega⟩, some ⟨O, 0, none⟩, l.length, by rw [HLn.out]; rfl, ?_⟩
        simp only [HLn.out]
        exact own_drewN Hown.out q
      · have d2 : n < known := by omega
        go_enter Tryz.func46, Tryz.ntmps46
        go_wp2_with (first | (go_at_call 64; refine hL.mono ?_; rintro e w1 ⟨hb1, O, rfl, hown1⟩; have Hown := Lib.hid hown1; have hLn := HLen.out w1 O hb1 hown1; clear hown1) | (go_at_call 31; refine hLn.mono ?_; rintro e w2 ⟨rfl, q, rfl⟩))
        refine bodyPost_ret (results_tmp2 rfl _ _ _) (by rfl) ?_
        rw [HF'.out]
        refine ⟨below_drewN hb1 q, ⟨by simp only; omega, by simp only; omega⟩, some ⟨O, 0, none⟩, l.length, by rw [HLn.out]; rfl, ?_⟩
        simp only [HLn.out]
        exact own_drewN Hown.out q
    · have HF' : Hid (furR l c p 0 y known = (-1, [])) := by unfold Hid; rw [HF.out, if_neg hcc]
      have d1 : ¬ known < 0 := fun h => hcc (.inl h)
      have d2 : ¬ n < known := fun h => hcc (.inr h)
      clear HF
      go_enter Tryz.func46, Tryz.ntmps46
      go_wp2_with (first | (go_at_call 64; refine hL.mono ?_; rintro e w1 ⟨hb1, O, rfl, hown1⟩; have Hown := Lib.hid hown1; have hLn := HLen.out w1 O hb1 hown1; clear hown1) | (go_at_call 31; refine hLn.mono ?_; rintro e w2 ⟨rfl, q, rfl⟩))
      refine bodyPost_ret (results_tmp2 rfl _ _ _) (by rfl) ?_
      rw [HF'.out]
      exact ⟨below_drewN hb1 q, ⟨by simp, by simp⟩, none, 0, rfl, own_nilI _ _ _⟩
  | succ m ih =>
    intro y known z w hm hP hk hl hz
    have h8 := hR.len
    have IH := Lib.hid ih
    have HP := Lib.hid hP
    have HT : Hid (∀ w1, Below w.heap.size w w1 → TasksAt w1 w1.heap.size v l) := fun w1 hb => (hl.below hb (Nat.le_refl _)).mono hb.size
    have HZ : Hid (∀ w1, Below w.heap.size w w1 → IntsAt w1 w1.heap.size z (ints y)) := fun w1 hb => (hz.below hb (Nat.le_refl _)).mono hb.size
    have HRd : Hid (∀ i w1, i < l.length → Below w.heap.size w w1 → Calls Tryz.prog 65 #[v, z, .int .i64 i] w1 fun e w' => e = .returned (.bool (readyB l y i)) ∧ w1 = w') := fun i w1 hi hb => refReady v z l y i w1.heap.size w1 hR (HT.out w1 hb) (HZ.out w1 hb) hi
    have HF : Hid (furR l c p (m + 1) y known = ((furTo (furR l c p m) l y known l.length).1, (furTo (furR l c p m) l y known l.length).2.2)) := rfl
    obtain ⟨A, cc, rfl, hA1, hA2, -⟩ := hl.open_
    obtain ⟨A2, c2, rfl, hC1, hC2, hCc⟩ := hz.open_
    have HCY : Hid (∀ (k : Nat) (hk : k < y.length), ∃ b1 off1, A2 = some ⟨b1, off1, none⟩ ∧ b1 < w.heap.size ∧ w.cell? ⟨b1, off1 + k, none⟩ = some (.int .i64 (y[k] : Nat))) := fun k hk => by
      obtain ⟨b, off, e, hb, hc⟩ := hCc k (by rw [length_ints]; exact hk)
      exact ⟨b, off, e, hb, by simpa [ints] using hc k (by rw [length_ints]; exact hk)⟩
    rw [length_ints] at hC1 HZ HRd ⊢
    unfold maxLen at hA2 hC2
    have hb : ((y.length : Int) == (l.length : Int)) = false := by simp; omega
    clear ih hl hz hP hCc hR hfit hc
    go_enter Tryz.func46, Tryz.ntmps46
    go_wp2_with fail
    go_loopw [16, 4, 14, 15] (fun ix kn bs ov wr => ∃ (k : Nat) (a : Int × Int × List Int) (A3 : Option Addr) (cap3 : Nat), k ≤ l.length ∧ ix = .int .i64 k ∧ Hid (furTo (furR l c p m) l y known k = a) ∧ kn = .int .i64 a.2.1 ∧ bs = .int .i64 a.1 ∧ ov = .slice A3 a.2.2.length cap3 ∧
      Hid (wr.ownsRow w.heap.size 3 1 (.slice A3 a.2.2.length cap3) a.2.2.length (a.2.2.map (Value.int .i64))) ∧ Below w.heap.size w wr ∧ Hid ((-1 ≤ a.2.1 ∧ a.2.1 ≤ 1010000) ∧ -1 ≤ a.1 ∧ a.1 ≤ 1010000)) (fun ix _ _ _ _ => l.length - (intOf ix).toNat)
    case atStart => exact ⟨0, (-1, known, []), none, 0, Nat.zero_le _, rfl, rfl, rfl, rfl, rfl, own_nilI _ _ _, Below.refl _ _, ⟨hk, by simp⟩⟩
    case round =>
      obtain ⟨k, ⟨ab, ak, al⟩, A3, cap3, hk', rfl, HA, rfl, rfl, rfl, Hown, hbel, HBd⟩ := hrel
      simp only at HA Hown HBd ⊢
      have hkb := HBd.out.1
      have hbb := HBd.out.2
      by_cases hkl : k < l.length
      · have HStep : Hid (furTo (furR l c p m) l y known (k + 1) = furStep (furR l c p m) l y (ab, ak, al) k) := by unfold Hid; rw [furTo_succ, HA.out]
        unfold furStep at HStep
        simp only at HStep
        obtain ⟨wo, rfl⟩ : ∃ wo : World, wo = wr := ⟨_, rfl⟩
        go_wp2_with fail
        go_loopw [18, 17] (fun ix inn wr => ∃ m : Nat, m ≤ y.length ∧ ix = .int .i64 m ∧ inn = .bool (decide (k ∈ y.take m)) ∧ wo = wr) (fun ix _ _ => y.length - (intOf ix).toNat)
        case atStart => exact ⟨0, Nat.zero_le _, rfl, rfl, rfl⟩
        case round =>
          obtain ⟨m', hm', rfl, rfl, rfl⟩ := hrel
          by_cases hml : m' < y.length
          · obtain ⟨b1, off1, rfl, hb1, hz1⟩ := HCY.out m' hml
            have z1 := (hbel.cell (p := ⟨b1, _, none⟩) hb1).trans hz1
            have HT' : Hid (decide (k ∈ y.take (m' + 1)) = (decide (k ∈ y.take m') || decide (y[m'] = k))) := mem_take_succ hml
            have i5 : (0 : Int) ≤ (m' : Int) := Int.natCast_nonneg _
            have i6 : (m' : Int) < (y.length : Int) := by omega
            have hbq : (((y[m'] : Nat) : Int) == (k : Int)) = decide (y[m'] = k) := by
              rw [Bool.eq_iff_iff]
              simp
              omega
            clear hz1
            generalize decide (k ∈ y.take m') = inn at *
            generalize y[m'] = x at *
            cases inn with
            | true =>
              have HT2 : Hid (decide (k ∈ y.take (m' + 1)) = true) := by unfold Hid; rw [HT'.out]; rfl
              clear hbq HT'
              go_wp2_with fail
              go_roundw
              case rel => exact ⟨m' + 1, by omega, by go_num, by rw [HT2.out], by trivial⟩
              case measure => simp [intOf]; omega
            | false =>
              cases hq : decide (x = k) with
              | true =>
                rw [hq] at hbq HT'
                have HT2 : Hid (decide (k ∈ y.take (m' + 1)) = true) := HT'.out
                clear hq HT'
                go_wp2_with fail
                go_roundw
                case rel => exact ⟨m' + 1, by omega, by go_num, by rw [HT2.out], by trivial⟩
                case measure => simp [intOf]; omega
              | false =>
                rw [hq] at hbq HT'
                have HT2 : Hid (decide (k ∈ y.take (m' + 1)) = false) := HT'.out
                clear hq HT'
                go_wp2_with fail
                go_roundw
                case rel => exact ⟨m' + 1, by omega, by go_num, by rw [HT2.out], by trivial⟩
                case measure => simp [intOf]; omega
          · have hme : m' = y.length := by omega
            subst hme
            rw [List.take_length]
            have hrd := HRd.out k wo hkl hbel
            cases hq : decide (k ∈ y) with
            | true =>
              have HS' : Hid (furTo (furR l c p m) l y known (k + 1) = (ab, ak, al)) := by unfold Hid; rw [HStep.out, hq]; rfl
              clear hq hrd HStep
              go_wp2_with fail
              go_roundw
              case rel => exact ⟨k + 1, (ab, ak, al), A3, cap3, by omega, by go_num, HS', rfl, rfl, rfl, Hown, hbel, HBd⟩
              case measure => simp [intOf]; omega
            | false =>
              cases hq2 : readyB l y k with
              | false =>
                have HS' : Hid (furTo (furR l c p m) l y known (k + 1) = (ab, ak, al)) := by unfold Hid; rw [HStep.out, hq, hq2]; rfl
                rw [hq2] at hrd
                clear hq hq2 HStep
                go_wp2_with (go_at_call 65; refine hrd.mono ?_; rintro e w' ⟨rfl, rfl⟩)
                go_roundw
                case rel => exact ⟨k + 1, (ab, ak, al), A3, cap3, by omega, by go_num, HS', rfl, rfl, rfl, Hown, hbel, HBd⟩
                case measure => simp [intOf]; omega
              | true =>
                have HS' : Hid (furTo (furR l c p m) l y known (k + 1) = if 0 ≤ (furR l c p m (y ++ [k]) ak).1 then ((furR l c p m (y ++ [k]) ak).1, (furR l c p m (y ++ [k]) ak).1, (furR l c p m (y ++ [k]) ak).2) else (ab, ak, al)) := by
                  unfold Hid
                  rw [HStep.out, hq, hq2]
                  simp
                have hP2 : Placed l (y ++ [k]) := HP.out.snoc hkl (by simpa using hq) hq2
                have HP2 := Lib.hid hP2
                rw [hq2] at hrd
                have HFl := Lib.hid (HZ.out wo hbel)
                have hyl : y.length ≤ 8 := by omega
                have hwo : ∀ o, Below w.heap.size w (wo.alloc o) := fun o => hbel.alloc hbel.size o
                have hIH := IH.out (y ++ [k]) ak
                generalize furR l c p m (y ++ [k]) ak = r at *
                obtain ⟨rn, rl⟩ := r
                have HIH : Hid (∀ (g3 cap3 : Nat) (w3 : World), Below wo.heap.size wo w3 → w3.ownsRow wo.heap.size 3 1 (.slice (some ⟨g3, 0, none⟩) (y.length + 1) cap3) (y.length + 1) (nats y ++ [.int .i64 k]) →
                    Calls Tryz.prog 46 #[.slice A l.length cc, .int .i64 c, .int .i64 p, .slice (some ⟨g3, 0, none⟩) (y.length + 1) cap3, .int .i64 ak] w3 (FurPost (rn, rl) w3)) := fun g3 cap3 w3 hb3 hown3 => by
                  have e : (ints (y ++ [k])).length = y.length + 1 := by rw [length_ints]; simp
                  refine hIH _ w3 (by rw [List.length_append, List.length_singleton]; omega) HP2.out hkb (HT.out w3 (hbel.trans (hb3.mono hbel.size))) ?_
                  rw [← nats_snoc] at hown3
                  exact RowAt.of_own hown3
                clear hq hq2 HStep hP2 hIH
                unfold FurPost at HIH
                simp only at HIH HS'
                by_cases hr0 : 0 ≤ rn
                · rw [if_pos hr0] at HS'
                  go_wp2_with (first
                    | (go_at_call 65; refine hrd.mono ?_; rintro e w' ⟨rfl, rfl⟩; clear hrd)
                    | (at_builtin; refine wpList_appendAll _ rfl (.tmp 76) (.tmp 77) 23 rfl wo.heap.size 3 info_int Tryz.underlying23 rfl (by decide) (.slice (some ⟨wo.heap.size, 0, none⟩) 0 0) 0 [] rfl (World.ownsRow_made wo #[] 0 (Nat.le_refl _) (Nat.zero_le _) rfl) wo.heap.size y.length (.slice A2 y.length c2) (nats y) rfl (by have := HFl.out.below ((Below.refl wo.heap.size wo).alloc (Nat.le_refl _) (.cells #[] 3)) (Nat.le_refl _); simpa [RowAt, nats, length_ints] using this) (by simp [nats, ints]) (by simp [nats, ints, Value.oneCell']) (by unfold maxLen; omega) (by omega) (by simp) ?_; intro v1 w1 hown1 hg1 hat1; simp only [Nat.zero_add, List.nil_append] at hown1; have Hb1 : Below wo.heap.size wo w1 := ((Below.refl wo.heap.size wo).alloc (Nat.le_refl _) _).grown hg1 (by simp) (fun k hk => by simp [Value.ownBlock] at hk; omega); clear hat1 hg1)
                    | (at_builtin; refine wpList_pushN _ rfl (.tmp 78) (.tmp 80) 23 rfl wo.heap.size 3 info_int Tryz.underlying23 rfl v1 y.length _ rfl hown1 (.int .i64 k) rfl w1.heap.size rfl rfl (by unfold maxLen; omega) (by omega) Hb1.size ?_; intro g3 cap6 w3 hown3 hg3 hbg3 hgg3; have Hb3 : Below wo.heap.size wo w3 := Hb1.grown hg3 Hb1.size (fun k hk => (hown1.lt k hk).1); have hcall := HIH.out g3 cap6 w3 Hb3 hown3; clear hgg3 hg3 hown3)
                    | (go_at_call 46; refine hcall.mono ?_; rintro e w4 ⟨hb4, hrb, A5, cap5, rfl, hown5⟩; have Hown5 := Lib.hid (own_mono hown5 (Nat.le_trans hbel.size Hb3.size)); have HRb := Lib.hid hrb; clear hown5 hrb hcall))
                  go_roundw
                  case rel => exact ⟨k + 1, (rn, rn, rl), A5, cap5, by omega, by go_num, HS', rfl, rfl, rfl, Hown5, hbel.trans ((Hb3.trans (hb4.mono Hb3.size)).mono hbel.size), ⟨HRb.out, HRb.out⟩⟩
                  case measure => simp [intOf]; omega
                · rw [if_neg hr0] at HS'
                  go_wp2_with (first
                    | (go_at_call 65; refine hrd.mono ?_; rintro e w' ⟨rfl, rfl⟩; clear hrd)
                    | (at_builtin; refine wpList_appendAll _ rfl (.tmp 76) (.tmp 77) 23 rfl wo.heap.size 3 info_int Tryz.underlying23 rfl (by decide) (.slice (some ⟨wo.heap.size, 0, none⟩) 0 0) 0 [] rfl (World.ownsRow_made wo #[] 0 (Nat.le_refl _) (Nat.zero_le _) rfl) wo.heap.size y.length (.slice A2 y.length c2) (nats y) rfl (by have := HFl.out.below ((Below.refl wo.heap.size wo).alloc (Nat.le_refl _) (.cells #[] 3)) (Nat.le_refl _); simpa [RowAt, nats, length_ints] using this) (by simp [nats, ints]) (by simp [nats, ints, Value.oneCell']) (by unfold maxLen; omega) (by omega) (by simp) ?_; intro v1 w1 hown1 hg1 hat1; simp only [Nat.zero_add, List.nil_append] at hown1; have Hb1 : Below wo.heap.size wo w1 := ((Below.refl wo.heap.size wo).alloc (Nat.le_refl _) _).grown hg1 (by simp) (fun k hk => by simp [Value.ownBlock] at hk; omega); clear hat1 hg1)
                    | (at_builtin; refine wpList_pushN _ rfl (.tmp 78) (.tmp 80) 23 rfl wo.heap.size 3 info_int Tryz.underlying23 rfl v1 y.length _ rfl hown1 (.int .i64 k) rfl w1.heap.size rfl rfl (by unfold maxLen; omega) (by omega) Hb1.size ?_; intro g3 cap6 w3 hown3 hg3 hbg3 hgg3; have Hb3 : Below wo.heap.size wo w3 := Hb1.grown hg3 Hb1.size (fun k hk => (hown1.lt k hk).1); have hcall := HIH.out g3 cap6 w3 Hb3 hown3; clear hgg3 hg3 hown3)
                    | (go_at_call 46; refine hcall.mono ?_; rintro e w4 ⟨hb4, hrb, A5, cap5, rfl, hown5⟩; clear hown5 hrb hcall))
                  have hb5 : Below wo.heap.size wo w4 := Hb3.trans (hb4.mono Hb3.size)
                  have Hown5 := Lib.hid (Hown.out.kept (grown_below (row := none) hb5) (by cases A3 <;> simp [Value.ownBlock]))
                  go_roundw
                  case rel => exact ⟨k + 1, (ab, ak, al), A3, cap3, by omega, by go_num, HS', rfl, rfl, rfl, Hown5, hbel.trans (hb5.mono hbel.size), HBd⟩
                  case measure => simp [intOf]; omega
      · have hke : k = l.length := by omega
        subst hke
        have HF' : Hid (furR l c p (m + 1) y known = (ab, al)) := by unfold Hid; rw [HF.out, HA.out]
        go_wp2_with fail
        refine bodyPost_ret (results_tmp2 rfl _ _ _) (by rfl) ?_
        rw [HF'.out]
        exact ⟨hbel, hbb, A3, cap3, rfl, Hown.out⟩

/-- What the reference's Least finds. -/
theorem refLeast43 (v : Value) (l : List Task) (c p : Int) (w : World) (hR : RightT l) (hc : 0 ≤ c ∧ 0 ≤ p) (hfit : l.any (tooMuch c p) = false) (hl : TasksAt w w.heap.size v l) :
    Calls Tryz.prog 29 #[v, .int .i64 c, .int .i64 p] w (FurPost (leastN l c p) w) := by
  have hcall := refFurther v l c p hR hc hfit l.length [] (-1) (.slice none 0 0) w (by simp) (Placed.nil l) (by simp) hl ⟨none, 0, rfl, Nat.le_refl _, Nat.zero_le _, fun h => absurd h (by simp [ints])⟩
  rw [← least_fur hR hc hfit] at hcall
  obtain ⟨A, cc, rfl, hA1, hA2, -⟩ := hl.open_
  unfold maxLen at hA2
  clear hl hR hc hfit
  unfold FurPost at hcall ⊢
  generalize leastN l c p = r at *
  go_enter Tryz.func29, Tryz.ntmps29
  go_wp2_with (go_at_call 46; refine hcall.mono ?_; rintro e w1 ⟨hb1, hrb, A5, cap5, rfl, hown5⟩)
  refine bodyPost_ret (results_tmp2 rfl _ _ _) (by rfl) ?_
  exact ⟨hb1, hrb, A5, cap5, rfl, hown5⟩

end Go.Proofs.YtfcfphamecbcgaaGreat
