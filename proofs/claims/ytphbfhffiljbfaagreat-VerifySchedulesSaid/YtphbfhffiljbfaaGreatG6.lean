/- Parts of the proof, laid into one text: RefAt, RefFits, Tied, FurP, RefEarly, RefLen. -/
import Derived.Test.YtphbfhffiljbfaaGreatG2
import Derived.Test.YtphbfhffiljbfaaGreatG4
import Derived.Test.YtphbfhffiljbfaaGreatG8

/- the reference's At. -/
namespace Go.Proofs.YtphbfhffiljbfaaGreat
open Go.RowKit Go.Shelf

/-- A task runs at a time, by the reference. -/
def onR (l : List Task) (r : List Int) (t : Int) (i : Nat) : Bool := decide (atI r i ≤ t) && decide (t < endN l r i)
/-- What the tasks of a list need at a time. -/
def usedY (f : Task → Int) (l : List Task) (r : List Int) (t : Int) (y : List Nat) : Int := y.foldl (fun a i => a + if onR l r t i then fAt f l i else 0) 0
theorem usedY_snoc {f : Task → Int} {l : List Task} {r : List Int} {t : Int} {y : List Nat} {k : Nat} (h : k < y.length) : usedY f l r t (y.take (k + 1)) = usedY f l r t (y.take k) + if onR l r t y[k] then fAt f l y[k] else 0 := by
  unfold usedY
  rw [take_snoc y k h, List.foldl_append]
  rfl
theorem usedY_bd {f : Task → Int} {l : List Task} {r : List Int} {t : Int} {y : List Nat} (hy : ∀ i ∈ y, i < l.length) (hf : ∀ i, i < l.length → 0 ≤ fAt f l i ∧ fAt f l i ≤ 100) : ∀ k, k ≤ y.length → 0 ≤ usedY f l r t (y.take k) ∧ usedY f l r t (y.take k) ≤ 100 * k
  | 0, _ => by simp [usedY]
  | k + 1, hk => by
    have h1 := usedY_bd (r := r) (t := t) hy hf k (by omega)
    have h2 := hf _ (hy _ (List.getElem_mem (show k < y.length by omega)))
    rw [usedY_snoc (by omega)]
    split <;> omega

set_option maxRecDepth 100000 in
set_option maxHeartbeats 4000000 in
theorem refAt43 (v u z : Value) (l : List Task) (r : List Int) (y : List Nat) (t : Int) (B : Nat) (w : World) (hR : RightT l) (hl : TasksAt w B v l) (hr : IntsAt w B u r) (hz : IntsAt w B z (ints y)) (hlen : r.length = l.length) (hbd : ∀ x ∈ r, -1 ≤ x ∧ x ≤ 1000000) (hy : ∀ i ∈ y, i < l.length) (hy8 : y.length ≤ 8) :
    Calls Tryz.prog 56 #[v, u, z, .int .i64 t] w fun e w' => e = .returned (.tuple #[.int .i64 (usedY Task.crew l r t y), .int .i64 (usedY Task.pow l r t y)]) ∧ ∃ q, w.drewN q = w' := by
  have h8 := hR.len
  have HR := Lib.hid hR
  have HL := Lib.hid hl
  have HBd := Lib.hid hbd
  have HY := Lib.hid hy
  have hrc := hr.open_
  have hzc := hz.open_
  obtain ⟨A, cc, rfl, hA1, hA2, -⟩ := hl.open_
  obtain ⟨A1, c1, rfl, hB1, hB2, hBc⟩ := hrc
  obtain ⟨A2, c2, rfl, hC1, hC2, hCc⟩ := hzc
  unfold maxLen at hA2 hB2 hC2
  rw [length_ints] at hC1 ⊢
  rw [hlen] at hB1 ⊢
  have HBc := Lib.hid hBc
  have HCc := Lib.hid hCc
  have HLen := Lib.hid hlen
  clear hR hl hr hz hbd hy hBc hCc
  go_enter Tryz.func56, Tryz.ntmps56
  go_wp2
  go_loopw [12, 10, 11] (fun ix a b wr => ∃ k : Nat, k ≤ y.length ∧ ix = .int .i64 k ∧ a = .int .i64 (usedY Task.crew l r t (y.take k)) ∧ b = .int .i64 (usedY Task.pow l r t (y.take k)) ∧ ∃ q, wr = w.drewN q) (fun ix _ _ _ => y.length - (intOf ix).toNat)
  case atStart => exact ⟨0, Nat.zero_le _, rfl, rfl, rfl, 0, rfl⟩
  case round =>
    obtain ⟨k, hk, rfl, rfl, rfl, q, rfl⟩ := hrel
    have hbA := usedY_bd (r := r) (t := t) HY.out (crew_bd HR.out) k hk
    have hbB := usedY_bd (r := r) (t := t) HY.out (pow_bd HR.out) k hk
    by_cases hkl : k < y.length
    · have hi := HY.out _ (List.getElem_mem hkl)
      have E1 := usedY_snoc (f := Task.crew) (l := l) (r := r) (t := t) hkl
      have E2 := usedY_snoc (f := Task.pow) (l := l) (r := r) (t := t) hkl
      rw [fAt_get hi] at E1 E2
      have hcr := fieldB_crew (HR.out.field _ hi)
      have hpw := fieldB_pow (HR.out.field _ hi)
      have hln := fieldB_len (HR.out.field _ hi)
      obtain ⟨b2, off2, rfl, hb2, hcz⟩ := HCc.out k (by rw [length_ints]; exact hkl)
      have z1 := hcz k (by rw [length_ints]; exact hkl)
      have ez : (ints y)[k]'(by rw [length_ints]; exact hkl) = ((y[k] : Nat) : Int) := by simp [ints]
      rw [ez] at z1
      obtain ⟨b1, off1, rfl, hb1, hcr1⟩ := HBc.out y[k] (by rw [HLen.out]; exact hi)
      have r1 := hcr1 y[k] (by rw [HLen.out]; exact hi)
      rw [← atI_get (by rw [HLen.out]; exact hi)] at r1
      obtain ⟨b0, off0, e0, hb0, hct⟩ := HL.out.cells hi
      subst e0
      obtain ⟨-, t1, t2, t3, -⟩ := hct _ hi
      have hxb := HBd.out _ (List.getElem_mem (show y[k] < r.length by rw [HLen.out]; exact hi))
      rw [← atI_get (by rw [HLen.out]; exact hi)] at hxb
      have HE : Hid (endN l r y[k] = atI r y[k] + l[y[k]].len) := by unfold Hid endN; rw [lenAt_eq hi]
      have HOn : Hid (onR l r t y[k] = (decide (atI r y[k] ≤ t) && decide (t < endN l r y[k]))) := rfl
      rw [HE.out] at HOn
      clear HE hct hcz ez hcr1
      generalize l[y[k]].crew = cr at *
      generalize l[y[k]].pow = pw at *
      generalize l[y[k]].len = ln at *
      generalize onR l r t y[k] = on at *
      generalize y[k] = i at *
      generalize atI r i = x at *
      have i1 : (0 : Int) ≤ (i : Int) := Int.natCast_nonneg _
      have i2 : (i : Int) < (l.length : Int) := by omega
      have i3 : (0 : Int) ≤ (k : Int) := Int.natCast_nonneg _
      have i4 : (k : Int) < (y.length : Int) := by omega
      have w1 : IntKind.i64.wrap (x + ln) = x + ln := IntWalk.i64_in _ (by omega)
      by_cases d1 : x ≤ t
      · by_cases d2 : t < x + ln
        · have HOn' : Hid (on = true) := by unfold Hid; rw [HOn.out]; simp [d1, d2]
          rw [HOn'.out, if_pos rfl] at E1 E2
          have HE1 := Lib.hid E1
          have HE2 := Lib.hid E2
          have w2 : IntKind.i64.wrap (usedY Task.crew l r t (y.take k) + cr) = usedY Task.crew l r t (y.take k) + cr := IntWalk.i64_in _ (by omega)
          have w3 : IntKind.i64.wrap (usedY Task.pow l r t (y.take k) + pw) = usedY Task.pow l r t (y.take k) + pw := IntWalk.i64_in _ (by omega)
          clear E1 E2 HOn
          go_wp2_with fail
          go_quiet (fail)
          go_wp2
          go_roundw
          case rel => exact ⟨k + 1, by omega, by go_num, by rw [HE1.out], by rw [HE2.out], _, rfl⟩
          case measure => simp [intOf]; omega
        · have HOn' : Hid (on = false) := by unfold Hid; rw [HOn.out]; simp [d2]
          rw [HOn'.out, if_neg (by simp), Int.add_zero] at E1 E2
          have HE1 := Lib.hid E1
          have HE2 := Lib.hid E2
          have d2b : decide (t < x + ln) = false := by simpa using d2
          clear E1 E2 HOn
          go_wp2_with fail
          go_quiet (fail)
          go_wp2
          go_roundw
          case rel => exact ⟨k + 1, by omega, by go_num, by rw [HE1.out], by rw [HE2.out], _, rfl⟩
          case measure => simp [intOf]; omega
      · have HOn' : Hid (on = false) := by unfold Hid; rw [HOn.out]; simp [d1]
        rw [HOn'.out, if_neg (by simp), Int.add_zero] at E1 E2
        have HE1 := Lib.hid E1
        have HE2 := Lib.hid E2
        have d1b : decide (x ≤ t) = false := by simpa using d1
        clear E1 E2 HOn
        go_wp2_with fail
        go_quiet (fail)
        go_wp2
        go_roundw
        case rel => exact ⟨k + 1, by omega, by go_num, by rw [HE1.out], by rw [HE2.out], _, rfl⟩
        case measure => simp [intOf]; omega
    · have hke : k = y.length := by omega
      subst hke
      rw [List.take_length]
      go_wp2_with fail
      refine bodyPost_ret (results_tmp2 rfl _ _ _) (by rfl) ?_
      exact ⟨rfl, _, rfl⟩

end Go.Proofs.YtphbfhffiljbfaaGreat

/- the reference's fits. -/
namespace Go.Proofs.YtphbfhffiljbfaaGreat
open Go.RowKit Go.Shelf

/-- A start within a task's time. -/
def inB (t n x : Int) : Bool := decide (t < x) && decide (x < t + n)
/-- The times at which a task is looked at. -/
def timesR (l : List Task) (r : List Int) (i : Nat) (t : Int) (y : List Nat) : List Int := t :: (y.map (atI r)).filter (inB t (lenAt l i))
/-- At a time there is crew and power left for a task. -/
def roomB (l : List Task) (c p : Int) (r : List Int) (y : List Nat) (i : Nat) (x : Int) : Bool := decide (usedY Task.crew l r x y + fAt Task.crew l i ≤ c) && decide (usedY Task.pow l r x y + fAt Task.pow l i ≤ p)
def fitsR (l : List Task) (c p : Int) (r : List Int) (y : List Nat) (i : Nat) (t : Int) : Bool := (timesR l r i t y).all (roomB l c p r y i)

theorem timesR_snoc {l : List Task} {r : List Int} {i : Nat} {t : Int} {y : List Nat} {k : Nat} (h : k < y.length) :
    timesR l r i t (y.take (k + 1)) = if inB t (lenAt l i) (atI r y[k]) then timesR l r i t (y.take k) ++ [atI r y[k]] else timesR l r i t (y.take k) := by
  unfold timesR
  rw [take_snoc y k h, List.map_append, List.filter_append]
  cases h' : inB t (lenAt l i) (atI r y[k]) <;> simp [h']
theorem timesR_len {l : List Task} {r : List Int} {i : Nat} {t : Int} {y : List Nat} : (timesR l r i t y).length ≤ y.length + 1 := by
  unfold timesR
  have := List.length_filter_le (inB t (lenAt l i)) (y.map (atI r))
  rw [List.length_map] at this
  simp only [List.length_cons]
  omega

theorem timesR_mem {l : List Task} {r : List Int} {i : Nat} {t : Int} {y : List Nat} {P : Int → Prop} (ht : P t) (hr : ∀ x ∈ r, P x) (h0 : P 0) : ∀ x ∈ timesR l r i t y, P x := by
  intro x hx
  unfold timesR at hx
  rcases List.mem_cons.1 hx with rfl | hx
  · exact ht
  · obtain ⟨j, hj, rfl⟩ := List.mem_map.1 (List.mem_filter.1 hx).1
    by_cases h : j < r.length
    · rw [atI_get h]; exact hr _ (List.getElem_mem h)
    · unfold atI
      rw [List.getD_eq_getElem?_getD, List.getElem?_eq_none (by omega)]
      exact h0

end Go.Proofs.YtphbfhffiljbfaaGreat

/- The reference's least start, and the program's: plain. -/
namespace Go.Proofs.YtphbfhffiljbfaaGreat
open Go.RowKit Go.Shelf

/-- y are the placed tasks; s the program's starts, r the reference's. -/
structure Tied (l : List Task) (s r : List Int) (y : List Nat) : Prop where
  len : s.length = l.length
  lenR : r.length = l.length
  nodup : y.Nodup
  lt : ∀ i ∈ y, i < l.length
  on : ∀ i ∈ y, atI s i = atI r i ∧ 0 ≤ atI r i
  off : ∀ i, i < l.length → i ∉ y → atI s i = -1

theorem nodup_snocN {y : List Nat} {i : Nat} (h : (y ++ [i]).Nodup) : y.Nodup ∧ i ∉ y := by
  have hn := List.nodup_append.1 h
  exact ⟨hn.1, fun hm => hn.2.2 i hm i (by simp) rfl⟩
theorem nodup_snocN' {y : List Nat} {i : Nat} (h : y.Nodup) (hi : i ∉ y) : (y ++ [i]).Nodup :=
  List.nodup_append.2 ⟨h, by simp, fun a ha b hb => by rw [List.mem_singleton.1 hb]; exact fun e => hi (e ▸ ha)⟩
theorem Tied.snoc_inv {l : List Task} {s r : List Int} {y : List Nat} {i : Nat} (h : Tied l s r (y ++ [i])) : i < l.length ∧ i ∉ y ∧ Tied l (s.set i (-1)) r y := by
  obtain ⟨hn, hiy⟩ := nodup_snocN h.nodup
  have hi := h.lt i (by simp)
  refine ⟨hi, hiy, by rw [List.length_set]; exact h.len, h.lenR, hn, fun j hj => h.lt j (by simp [hj]), fun j hj => ?_, fun j hj hjy => ?_⟩
  · have : i ≠ j := fun e => hiy (e ▸ hj)
    rw [atI_set_ne this]
    exact h.on j (by simp [hj])
  · by_cases e : i = j
    · subst e
      rw [atI_set_self (by rw [h.len]; exact hj)]
    · rw [atI_set_ne e]
      exact h.off j hj (by simp only [List.mem_append, List.mem_singleton, not_or]; exact ⟨hjy, fun h => e h.symm⟩)
theorem Tied.snoc {l : List Task} {s r : List Int} {y : List Nat} {i : Nat} {t : Int} (h : Tied l s r y) (hi : i < l.length) (hy : i ∉ y) (ht : 0 ≤ t) : Tied l (s.set i t) (r.set i t) (y ++ [i]) := by
  have h1 := h.len
  have h2 := h.lenR
  refine ⟨by rw [List.length_set]; exact h.len, by rw [List.length_set]; exact h.lenR, nodup_snocN' h.nodup hy, fun j hj => ?_, fun j hj => ?_, fun j hj hjy => ?_⟩
  · rcases List.mem_append.1 hj with hj | hj
    · exact h.lt j hj
    · rw [List.mem_singleton.1 hj]; exact hi
  · by_cases e : i = j
    · subst e
      rw [atI_set_self (by omega), atI_set_self (by omega)]
      exact ⟨rfl, ht⟩
    · rw [atI_set_ne e, atI_set_ne e]
      rcases List.mem_append.1 hj with hj | hj
      · exact h.on j hj
      · exact absurd (List.mem_singleton.1 hj).symm e
  · simp only [List.mem_append, List.mem_singleton, not_or] at hjy
    rw [atI_set_ne (fun e => hjy.2 e.symm)]
    exact h.off j hj hjy.1
theorem Tied.all_on {l : List Task} {s r : List Int} {y : List Nat} (h : Tied l s r y) (hy : y.length = l.length) {i : Nat} (hi : i < l.length) : i ∈ y := by
  apply Classical.byContradiction
  intro hn
  have := List.Nodup.length_le_of_subset (nodup_snocN' h.nodup hn) (l₂ := List.range l.length) (fun j hj => by
    rw [List.mem_range]
    rcases List.mem_append.1 hj with hj | hj
    · exact h.lt j hj
    · rw [List.mem_singleton.1 hj]; exact hi)
  simp only [List.length_append, List.length_range, List.length_singleton] at this
  omega

/-! ### What is needed at a time -/
theorem usedTo_none {f : Task → Int} {l : List Task} {s : List Int} {t : Int} : ∀ k, (∀ j, j < k → onB l s t j = false) → usedTo f l s t k = 0
  | 0, _ => rfl
  | k + 1, h => by
    rw [usedTo, usedTo_none k (fun j hj => h j (by omega)), h k (by omega)]
    rfl
theorem onB_off {l : List Task} {s : List Int} {t : Int} {i : Nat} (h : atI s i < 0) : onB l s t i = false := by
  unfold onB
  rw [decide_eq_false (show ¬ 0 ≤ atI s i by omega)]
  rfl
theorem usedTo_set {f : Task → Int} {l : List Task} {s : List Int} {t x : Int} {i : Nat} (hs : atI s i < 0) : ∀ k, usedTo f l (s.set i x) t k = usedTo f l s t k + if i < k ∧ onB l (s.set i x) t i = true then fAt f l i else 0
  | 0 => by simp [usedTo]
  | k + 1 => by
    have ih := usedTo_set (f := f) (l := l) (t := t) (x := x) hs k
    rw [usedTo, usedTo, ih]
    by_cases e : k = i
    · subst e
      rw [onB_off (s := s) hs, if_neg (show ¬ (k < k ∧ onB l (s.set k x) t k = true) from fun h => by omega)]
      by_cases h2 : onB l (s.set k x) t k = true
      · rw [if_pos h2, if_neg (show ¬ false = true by simp), if_pos (show k < k + 1 ∧ onB l (s.set k x) t k = true from ⟨by omega, h2⟩)]
        try omega
      · rw [if_neg h2, if_neg (show ¬ false = true by simp), if_neg (show ¬ (k < k + 1 ∧ onB l (s.set k x) t k = true) from fun h => h2 h.2)]
        try omega
    · have h1 : onB l (s.set i x) t k = onB l s t k := by unfold onB; rw [atI_set_ne (Ne.symm e), endN_set_ne (Ne.symm e)]
      rw [h1]
      by_cases h2 : i < k ∧ onB l (s.set i x) t i = true
      · rw [if_pos h2, if_pos (show i < k + 1 ∧ onB l (s.set i x) t i = true from ⟨by omega, h2.2⟩)]; omega
      · rw [if_neg h2, if_neg (show ¬ (i < k + 1 ∧ onB l (s.set i x) t i = true) from fun h => h2 ⟨by omega, h.2⟩)]; omega
theorem Tied.onR {l : List Task} {s r : List Int} {y : List Nat} (h : Tied l s r y) {i : Nat} (hi : i ∈ y) (t : Int) : onB l s t i = onR l r t i := by
  obtain ⟨h1, h2⟩ := h.on i hi
  unfold onB Proofs.YtphbfhffiljbfaaGreat.onR endN
  rw [h1, decide_eq_true h2, Bool.true_and]
theorem usedY_append {f : Task → Int} {l : List Task} {r : List Int} {t : Int} {y : List Nat} {i : Nat} : usedY f l r t (y ++ [i]) = usedY f l r t y + if onR l r t i then fAt f l i else 0 := by
  unfold usedY
  rw [List.foldl_append]
  rfl
theorem snoc_cases {y : List Nat} {n : Nat} (h : y.length = n + 1) : ∃ z i, y = z ++ [i] ∧ z.length = n := by
  have hne : y ≠ [] := fun e => by rw [e] at h; simp at h
  refine ⟨y.dropLast, y.getLast hne, (List.dropLast_concat_getLast hne).symm, by rw [List.length_dropLast]; omega⟩
theorem Tied.used {f : Task → Int} {l : List Task} {r : List Int} {t : Int} : ∀ (n : Nat) {y : List Nat} {s : List Int}, y.length = n → Tied l s r y → usedTo f l s t l.length = usedY f l r t y
  | 0, y, s, hy, h => by
    have : y = [] := List.length_eq_zero_iff.1 hy
    subst this
    rw [usedTo_none l.length (fun j hj => onB_off (by rw [h.off j hj (by simp)]; omega))]
    rfl
  | n + 1, y, s, hy, h => by
    obtain ⟨z, i, rfl, hz⟩ := snoc_cases hy
    obtain ⟨hi, hiz, h'⟩ := h.snoc_inv
    have hl := h.len
    have e : (s.set i (-1)).set i (atI s i) = s := by
      rw [List.set_set, atI_get (by omega)]
      simp
    have e2 := usedTo_set (f := f) (l := l) (s := s.set i (-1)) (t := t) (x := atI s i) (i := i) (by rw [atI_set_self (by omega)]; omega) l.length
    rw [e] at e2
    rw [e2, Tied.used n hz h', usedY_append, h.onR (by simp) t]
    by_cases h2 : Proofs.YtphbfhffiljbfaaGreat.onR l r t i = true
    · rw [if_pos h2, if_pos ⟨hi, h2⟩]
    · rw [if_neg h2, if_neg (fun h => h2 h.2)]

/-! ### A start fits -/
theorem Tied.whole {l : List Task} {c p : Int} {s r : List Int} {y : List Nat} {i : Nat} {x : Int} (h : Tied l s r y) (hi : i < l.length) (hy : i ∉ y) (hx : 0 ≤ x) (hlen : 1 ≤ lenAt l i) : wholeB l c p (s.set i x) i = fitsR l c p r y i x := by
  have hl := h.len
  have hoff := h.off i hi hy
  have hfit : ∀ z, x ≤ z → z < x + lenAt l i → fitsB l c p (s.set i x) z = roomB l c p r y i z := fun z h1 h2 => by
    have hon : onB l (s.set i x) z i = true := by
      unfold onB
      rw [atI_set_self (by omega), endN_set_self (by omega)]
      simp [hx, h1, h2]
    unfold fitsB roomB
    rw [usedTo_set (by omega), usedTo_set (by omega), if_pos ⟨hi, hon⟩, if_pos ⟨hi, hon⟩, Tied.used _ rfl h, Tied.used _ rfl h]
  have hfx := hfit x (Int.le_refl _) (by omega)
  unfold wholeB fitsR
  rw [atI_set_self (by omega), hfx]
  rw [Bool.eq_iff_iff]
  simp only [Bool.and_eq_true, Bool.not_eq_true', List.any_eq_false, List.all_eq_true]
  constructor
  · rintro ⟨h1, h2⟩ z hz
    unfold timesR at hz
    rcases List.mem_cons.1 hz with rfl | hz
    · exact h1
    · obtain ⟨hz, hin⟩ := List.mem_filter.1 hz
      obtain ⟨j, hj, rfl⟩ := List.mem_map.1 hz
      unfold inB at hin
      simp only [Bool.and_eq_true, decide_eq_true_eq] at hin
      have hjl := h.lt j hj
      have hij : i ≠ j := fun e => hy (e ▸ hj)
      have hm : atI r j ∈ s.set i x := by
        rw [← (h.on j hj).1, ← atI_set_ne (s := s) (x := x) hij, atI_get (by rw [List.length_set]; omega)]
        exact List.getElem_mem _
      have h3 := h2 _ hm
      unfold badB at h3
      rw [atI_set_self (by omega), endN_set_self (by omega), decide_eq_true hin.1, decide_eq_true hin.2, hfit _ (by omega) hin.2] at h3
      simpa using h3
  · intro h1
    refine ⟨h1 x (by unfold timesR; simp), fun z hz => ?_⟩
    obtain ⟨k, hk, rfl⟩ := List.mem_iff_getElem.1 hz
    rw [List.length_set] at hk
    have hat : (s.set i x)[k]'(by rw [List.length_set]; exact hk) = atI (s.set i x) k := (atI_get (by rw [List.length_set]; exact hk)).symm
    rw [hat]
    unfold badB
    rw [atI_set_self (by omega), endN_set_self (by omega)]
    by_cases e : i = k
    · subst e
      rw [atI_set_self (by omega), decide_eq_false (show ¬ x < x by omega)]
      simp
    · rw [atI_set_ne e]
      by_cases hky : k ∈ y
      · obtain ⟨h3, h4⟩ := h.on k hky
        rw [h3]
        by_cases h5 : x < atI r k
        · by_cases h6 : atI r k < x + lenAt l i
          · rw [hfit _ (by omega) h6]
            have := h1 (atI r k) (by
              unfold timesR
              refine List.mem_cons_of_mem _ (List.mem_filter.2 ⟨List.mem_map.2 ⟨k, hky, rfl⟩, ?_⟩)
              unfold inB
              rw [decide_eq_true h5, decide_eq_true h6]
              rfl)
            rw [this]
            simp
          · rw [decide_eq_false h6]; simp
        · rw [decide_eq_false h5]; simp
      · rw [h.off k (by omega) hky, decide_eq_false (show ¬ x < -1 by omega)]
        simp

/-! ### The least start -/
theorem find_least {T : List Int} {q : Int → Bool} {t : Int} (hs : T.Pairwise (fun a b => a ≤ b)) (h : T.find? q = some t) : t ∈ T ∧ q t = true ∧ ∀ x ∈ T, q x = true → t ≤ x := by
  refine ⟨List.mem_of_find?_eq_some h, List.find?_some h, fun x hx hq => ?_⟩
  obtain ⟨-, us, vs, rfl, has⟩ := List.find?_eq_some_iff_append.1 h
  rcases List.mem_append.1 hx with hx | hx
  · have := has x hx
    simp [hq] at this
  · rcases List.mem_cons.1 hx with rfl | hx
    · exact Int.le_refl _
    · exact (List.pairwise_cons.1 (List.pairwise_append.1 hs).2.1).1 x hx
theorem timesTo_inv {l : List Task} {s : List Int} {f x : Int} : ∀ k, x ∈ timesTo l s f k → x = f ∨ ∃ j, j < k ∧ 0 ≤ atI s j ∧ f < endN l s j ∧ x = endN l s j
  | 0, h => by simp only [timesTo, List.mem_singleton] at h; exact .inl h
  | k + 1, h => by
    unfold timesTo at h
    split at h
    · rename_i hc
      rcases List.mem_append.1 h with h | h
      · rcases timesTo_inv k h with h | ⟨j, hj, r⟩
        · exact .inl h
        · exact .inr ⟨j, by omega, r⟩
      · exact .inr ⟨k, by omega, hc.1, hc.2, List.mem_singleton.1 h⟩
    · rcases timesTo_inv k h with h | ⟨j, hj, r⟩
      · exact .inl h
      · exact .inr ⟨j, by omega, r⟩

/-- One more end is tried. -/
def minStep (e : Nat → Int) (q : Int → Bool) (f b : Int) (j : Nat) : Int := if f < e j ∧ (b < 0 ∨ e j < b) ∧ q (e j) = true then e j else b
def minTo (e : Nat → Int) (q : Int → Bool) (f : Int) (z : List Nat) : Int := z.foldl (minStep e q f) (-1)
theorem minTo_snoc {e : Nat → Int} {q : Int → Bool} {f : Int} {z : List Nat} {k : Nat} (h : k < z.length) : minTo e q f (z.take (k + 1)) = minStep e q f (minTo e q f (z.take k)) z[k] := by
  unfold minTo
  rw [take_snoc z k h, List.foldl_append]
  rfl
theorem minTo_char {e : Nat → Int} {q : Int → Bool} {f : Int} (hf : 0 ≤ f) {z : List Nat} : ∀ k, k ≤ z.length → (minTo e q f (z.take k) = -1 ∧ ∀ j ∈ z.take k, f < e j → q (e j) = false) ∨
    ∃ j ∈ z.take k, minTo e q f (z.take k) = e j ∧ f < e j ∧ q (e j) = true ∧ ∀ i ∈ z.take k, f < e i → q (e i) = true → minTo e q f (z.take k) ≤ e i
  | 0, _ => .inl ⟨rfl, by simp⟩
  | k + 1, hk => by
    have ih := minTo_char (e := e) (q := q) hf (z := z) k (by omega)
    have hlt : k < z.length := by omega
    have hm : ∀ j, j ∈ z.take (k + 1) ↔ j ∈ z.take k ∨ j = z[k] := fun j => by rw [take_snoc z k hlt, List.mem_append, List.mem_singleton]
    rw [minTo_snoc hlt]
    unfold minStep
    split
    · rename_i hc
      refine .inr ⟨z[k], (hm _).2 (.inr rfl), rfl, hc.1, hc.2.2, fun i hi h1 h2 => ?_⟩
      rcases (hm i).1 hi with hi | rfl
      · rcases ih with ⟨-, ih⟩ | ⟨j, -, e1, h3, -, ih⟩
        · have := ih i hi h1
          rw [h2] at this
          cases this
        · have := ih i hi h1 h2
          omega
      · exact Int.le_refl _
    · rename_i hc
      rcases ih with ⟨e1, ih⟩ | ⟨j, hj, e1, h3, h4, ih⟩
      · refine .inl ⟨e1, fun i hi h1 => ?_⟩
        rcases (hm i).1 hi with hi | rfl
        · exact ih i hi h1
        · cases hq : q (e z[k]) with
          | false => rfl
          | true => exact absurd ⟨h1, .inl (by omega), hq⟩ hc
      · refine .inr ⟨j, (hm _).2 (.inl hj), e1, h3, h4, fun i hi h1 h2 => ?_⟩
        rcases (hm i).1 hi with hi | rfl
        · exact ih i hi h1 h2
        · apply Classical.byContradiction
          intro hn
          exact hc ⟨h1, .inr (by omega), h2⟩

/-- What the reference finds: the least start of a task. -/
def earlyR (l : List Task) (c p : Int) (r : List Int) (y : List Nat) (i : Nat) : Int :=
  if fitsR l c p r y i (firstN l r (rowAt l i)) = true then firstN l r (rowAt l i) else minTo (endN l r) (fitsR l c p r y i) (firstN l r (rowAt l i)) y

theorem firstN_congr {l : List Task} {s r row : List Int} (h : ∀ k ∈ row, atI s k.toNat = atI r k.toNat) : firstN l s row = firstN l r row := by
  unfold firstN
  suffices H : ∀ a, row.foldl (fun a k => max2 a (endN l s k.toNat)) a = row.foldl (fun a k => max2 a (endN l r k.toNat)) a from H 0
  induction row with
  | nil => intro a; rfl
  | cons k row ih =>
    intro a
    rw [List.foldl_cons, List.foldl_cons, show endN l s k.toNat = endN l r k.toNat by unfold endN; rw [h k (by simp)]]
    exact ih (fun j hj => h j (by simp [hj])) _
theorem rowAt_lt {l : List Task} (hR : RightT l) {i : Nat} (hi : i < l.length) {k : Int} (hk : k ∈ rowAt l i) : k.toNat < l.length := by
  have hrow : rowAt l i = pls l l[i].bef := getD_rows hi
  rw [hrow] at hk
  obtain ⟨j, hj, rfl⟩ := mem_row hR hi hk
  simpa using hj
theorem Tied.early {l : List Task} {c p : Int} {s r : List Int} {y : List Nat} {i : Nat} {t : Int} (hR : RightT l) (h : Tied l s r y) (hi : i < l.length) (hy : i ∉ y) (hrow : (rowAt l i).any (unB s) = false) (hp : PutT l c p s i t) : earlyR l c p r y i = t := by
  have hplaced : ∀ j, j < l.length → 0 ≤ atI s j → j ∈ y := fun j hj h0 => by
    apply Classical.byContradiction
    intro hn
    have := h.off j hj hn
    omega
  have hF : firstN l s (rowAt l i) = firstN l r (rowAt l i) := firstN_congr fun k hk => by
    have h1 := List.any_eq_false.1 hrow k hk
    unfold unB at h1
    simp only [decide_eq_true_eq] at h1
    exact (h.on _ (hplaced _ (rowAt_lt hR hi hk) (by omega))).1
  have hE : ∀ j ∈ y, endN l s j = endN l r j := fun j hj => by unfold endN; rw [(h.on j hj).1]
  have hlen : 1 ≤ lenAt l i := by rw [lenAt_eq hi]; exact (fieldB_len (hR.field i hi)).1
  have hf0 : 0 ≤ firstN l s (rowAt l i) := by
    have := foldl_max_ge (fun k : Int => endN l s k.toNat) (rowAt l i) 0
    unfold firstN
    simp only [max2_max]
    exact this
  have hsorted : (timesN l s i).Pairwise (fun a b => a ≤ b) := by
    have := List.pairwise_mergeSort (le := fun x y : Int => decide (x ≤ y)) (fun a b c h1 h2 => by simp only [decide_eq_true_eq] at *; omega) (fun a b => by simp only [Bool.or_eq_true, decide_eq_true_eq]; omega) (timesTo l s (firstN l s (rowAt l i)) l.length)
    exact this.imp (fun h => by simpa using h)
  obtain ⟨ht, hq, hleast⟩ := find_least hsorted hp
  have hT : ∀ x, x ∈ timesN l s i ↔ x ∈ timesTo l s (firstN l s (rowAt l i)) l.length := fun x => (List.mergeSort_perm _ _).mem_iff
  have hmem := timesTo_mem (l := l) (s := s) (f := firstN l s (rowAt l i)) l.length
  unfold earlyR
  rw [hF] at *
  generalize firstN l r (rowAt l i) = f at *
  have hcase := timesTo_inv _ ((hT t).1 ht)
  split
  · rename_i hfit
    have h1 := hleast f ((hT f).2 hmem.1) (by rw [h.whole hi hy hf0 hlen]; exact hfit)
    rcases hcase with rfl | ⟨j, _, _, h2, rfl⟩
    · rfl
    · omega
  · rename_i hfit
    rcases hcase with rfl | ⟨j, hj, h0, h2, rfl⟩
    · rw [h.whole hi hy hf0 hlen] at hq
      exact absurd hq hfit
    · have hjy := hplaced j hj h0
      rw [hE j hjy] at h2 hq hleast ⊢
      rw [h.whole hi hy (by omega) hlen] at hq
      have hch := minTo_char (e := endN l r) (q := fitsR l c p r y i) hf0 (z := y) y.length (Nat.le_refl _)
      rw [List.take_length] at hch
      rcases hch with ⟨-, h3⟩ | ⟨k, hk, h3, h4, h5, h6⟩
      · have := h3 j hjy h2
        rw [hq] at this
        cases this
      · have h7 := h6 j hjy h2 hq
        have hks := (h.on k hk)
        have h8 := hleast (endN l r k) ((hT _).2 (by
          rw [← hE k hk]
          exact hmem.2 k (h.lt k hk) (by omega) (by rw [hE k hk]; exact h4))) (by rw [h.whole hi hy (by omega) hlen]; exact h5)
        omega

end Go.Proofs.YtphbfhffiljbfaaGreat

/- The reference's search over all orders, and the program's: plain. -/
namespace Go.Proofs.YtphbfhffiljbfaaGreat
open Go.RowKit Go.Shelf

/-- The starts of the first k tasks of an order. -/
def listR (l : List Task) (c p : Int) (y : List Nat) : Nat → List Int
  | 0 => List.replicate l.length 0
  | k + 1 => (listR l c p y k).set (y.getD k 0) (earlyR l c p (listR l c p y k) (y.take k) (y.getD k 0))
def listAll (l : List Task) (c p : Int) (y : List Nat) : List Int := listR l c p y y.length
theorem listR_len {l : List Task} {c p : Int} {y : List Nat} : ∀ k, (listR l c p y k).length = l.length
  | 0 => by simp [listR]
  | k + 1 => by rw [listR, List.length_set]; exact listR_len k
theorem listR_append {l : List Task} {c p : Int} {y : List Nat} {i : Nat} : ∀ k, k ≤ y.length → listR l c p (y ++ [i]) k = listR l c p y k
  | 0, _ => rfl
  | k + 1, hk => by
    rw [listR, listR, listR_append k (by omega), List.take_append_of_le_length (by omega)]
    rw [List.getD_eq_getElem?_getD, List.getD_eq_getElem?_getD, List.getElem?_append_left (by omega)]
theorem listAll_snoc {l : List Task} {c p : Int} {y : List Nat} {i : Nat} : listAll l c p (y ++ [i]) = (listAll l c p y).set i (earlyR l c p (listAll l c p y) y i) := by
  unfold listAll
  rw [List.length_append, List.length_singleton, listR, listR_append _ (Nat.le_refl _), List.take_append_of_le_length (Nat.le_refl _), List.take_length]
  simp

/-- All tasks before a task are in a list. -/
def readyB (l : List Task) (y : List Nat) (i : Nat) : Bool := (rowAt l i).all fun k => decide (k.toNat ∈ y)

/-- One more first task is tried; (best, known, out). -/
def furStep (F : List Nat → Int → Int × List Int) (l : List Task) (y : List Nat) (a : Int × Int × List Int) (i : Nat) : Int × Int × List Int :=
  if decide (i ∈ y) || !readyB l y i then a else if 0 ≤ (F (y ++ [i]) a.2.1).1 then ((F (y ++ [i]) a.2.1).1, (F (y ++ [i]) a.2.1).1, (F (y ++ [i]) a.2.1).2) else a
def furTo (F : List Nat → Int → Int × List Int) (l : List Task) (y : List Nat) (known : Int) (k : Nat) : Int × Int × List Int := (List.range k).foldl (furStep F l y) (-1, known, [])
/-- The search over all orders that begin with y; m tasks are left. -/
def furR (l : List Task) (c p : Int) : Nat → List Nat → Int → Int × List Int
  | 0, y, known => if known < 0 ∨ lenTo l (listAll l c p y) l.length < known then (lenTo l (listAll l c p y) l.length, listAll l c p y) else (-1, [])
  | m + 1, y, known => ((furTo (furR l c p m) l y known l.length).1, (furTo (furR l c p m) l y known l.length).2.2)
theorem furTo_succ {F : List Nat → Int → Int × List Int} {l : List Task} {y : List Nat} {known : Int} {k : Nat} : furTo F l y known (k + 1) = furStep F l y (furTo F l y known k) k := by
  unfold furTo
  rw [List.range_succ, List.foldl_append]
  rfl

theorem Tied.skip {l : List Task} {s r : List Int} {y : List Nat} (hR : RightT l) (h : Tied l s r y) {i : Nat} (hi : i < l.length) : skipB l s i = (decide (i ∈ y) || !readyB l y i) := by
  have hon : ∀ j, j < l.length → decide (0 ≤ atI s j) = decide (j ∈ y) := fun j hj => by
    by_cases hm : j ∈ y
    · rw [decide_eq_true hm, (h.on j hm).1, decide_eq_true (h.on j hm).2]
    · rw [decide_eq_false hm, h.off j hj hm]
      rfl
  unfold skipB readyB
  rw [hon i hi]
  congr 1
  rw [Bool.eq_iff_iff, Bool.not_eq_true', List.any_eq_true, List.all_eq_false]
  constructor
  · rintro ⟨k, hk, hu⟩
    refine ⟨k, hk, ?_⟩
    rw [← hon _ (rowAt_lt hR hi hk)]
    unfold unB at hu
    simp only [decide_eq_true_eq] at hu ⊢
    omega
  · rintro ⟨k, hk, hu⟩
    refine ⟨k, hk, ?_⟩
    rw [← hon _ (rowAt_lt hR hi hk)] at hu
    unfold unB
    simp only [decide_eq_true_eq] at hu ⊢
    omega

theorem lenPl_lenTo {l : List Task} {s r : List Int} : ∀ k, (∀ j, j < k → atI s j = atI r j ∧ 0 ≤ atI r j) → lenPl l s k = lenTo l r k
  | 0, _ => rfl
  | k + 1, h => by
    have ih := lenPl_lenTo (l := l) k (fun j hj => h j (by omega))
    obtain ⟨h1, h2⟩ := h k (by omega)
    rw [lenPl, lenTo, h1, if_pos h2, ih]
    have : endN l s k = endN l r k := by unfold endN; rw [h1]
    rw [this]
    rfl
theorem list_atI {s r : List Int} {n : Nat} (hs : s.length = n) (hr : r.length = n) (h : ∀ j, j < n → atI s j = atI r j) : s = r := by
  apply List.ext_getElem (by omega)
  intro j h1 h2
  have := h j (by omega)
  rwa [atI_get h1, atI_get h2] at this

/-- The program's search and the reference's. -/
theorem srch_fur {l : List Task} {c p : Int} (hR : RightT l) (hc : 0 ≤ c ∧ 0 ≤ p) (hfit : l.any (tooMuch c p) = false) : ∀ (m : Nat) (y : List Nat) (s : List Int) (b : Int × List Int), y.length + m = l.length → Tied l s (listAll l c p y) y →
    srch l c p m s b = if 0 ≤ (furR l c p m y b.1).1 then furR l c p m y b.1 else b
  | 0, y, s, b, hm, h => by
    have hall : ∀ j, j < l.length → atI s j = atI (listAll l c p y) j ∧ 0 ≤ atI (listAll l c p y) j := fun j hj => h.on j (h.all_on (by omega) hj)
    have e1 := lenPl_lenTo (l := l) l.length hall
    have e2 : s = listAll l c p y := list_atI h.len h.lenR fun j hj => (hall j hj).1
    have e3 : 0 ≤ lenTo l (listAll l c p y) l.length := by
      have : ∀ k, 0 ≤ lenTo l (listAll l c p y) k := fun k => by
        induction k with
        | zero => exact Int.le_refl _
        | succ k ih => unfold lenTo; split <;> omega
      exact this _
    unfold srch furR
    rw [e1, ← e2]
    rw [← e2] at e3
    by_cases hcc : b.1 < 0 ∨ lenTo l s l.length < b.1
    · simp only [if_pos hcc, if_pos e3]
    · simp only [if_neg hcc]
      rw [if_neg (by simp)]
  | m + 1, y, s, b, hm, h => by
    unfold srch furR
    suffices H : ∀ k, k ≤ l.length → srchTo l c p m s b k = (if 0 ≤ (furTo (furR l c p m) l y b.1 k).1 then ((furTo (furR l c p m) l y b.1 k).1, (furTo (furR l c p m) l y b.1 k).2.2) else b) ∧ (furTo (furR l c p m) l y b.1 k).2.1 = (srchTo l c p m s b k).1 from (H _ (Nat.le_refl _)).1
    intro k
    induction k with
    | zero => exact fun _ => ⟨rfl, rfl⟩
    | succ k ih =>
      intro hk
      obtain ⟨e1, e2⟩ := ih (by omega)
      rw [srchTo_succ, furTo_succ]
      unfold furStep
      rw [h.skip hR (by omega)]
      cases hsk : (decide (k ∈ y) || !readyB l y k) with
      | true =>
        rw [if_pos rfl, if_pos rfl]
        exact ⟨e1, e2⟩
      | false =>
        simp only [Bool.false_eq_true, if_false]
        have hsk' := h.skip hR (i := k) (by omega)
        rw [hsk] at hsk'
        obtain ⟨hn, hrow⟩ := skip_no hsk'
        have hky : k ∉ y := by simp at hsk; exact hsk.1
        have hput := put_exists (s := s) hR hc hfit h.len (show k < l.length by omega)
        have hearly := h.early hR (by omega) hky hrow hput
        have ht : 0 ≤ putN l c p s k := by
          have := List.mem_of_find?_eq_some hput
          have hm := timesTo_inv _ ((List.mergeSort_perm _ _).mem_iff.1 this)
          have hf0 : 0 ≤ firstN l s (rowAt l k) := by
            have := foldl_max_ge (fun k : Int => endN l s k.toNat) (rowAt l k) 0
            unfold firstN
            simp only [max2_max]
            exact this
          rcases hm with hm | ⟨j, _, _, h1, h2⟩ <;> omega
        have hT := h.snoc (i := k) (by omega) hky ht
        have hT' : Tied l (s.set k (putN l c p s k)) (listAll l c p (y ++ [k])) (y ++ [k]) := by
          rw [listAll_snoc, hearly]
          exact hT
        have hI := srch_fur hR hc hfit m (y ++ [k]) _ (srchTo l c p m s b k) (by rw [List.length_append, List.length_singleton]; omega) hT'
        rw [hI, ← e2]
        by_cases hcc : 0 ≤ (furR l c p m (y ++ [k]) (furTo (furR l c p m) l y b.1 k).2.1).1
        · simp only [if_pos hcc]
          exact ⟨trivial, trivial⟩
        · simp only [if_neg hcc]
          exact ⟨e1, e2⟩

theorem tied_nil {l : List Task} {c p : Int} : Tied l (List.replicate l.length (-1)) (listAll l c p []) [] :=
  ⟨by simp, listR_len _, by simp, by simp, by simp, fun i hi _ => by unfold atI; rw [List.getD_eq_getElem?_getD, List.getElem?_replicate, if_pos hi]; rfl⟩
theorem furR_neg {l : List Task} {c p : Int} : ∀ (m : Nat) (y : List Nat) (known : Int), ¬ 0 ≤ (furR l c p m y known).1 → furR l c p m y known = (-1, [])
  | 0, y, known, h => by
    unfold furR at h ⊢
    split
    · rename_i hc
      rw [if_pos hc] at h
      have : ∀ k, 0 ≤ lenTo l (listAll l c p y) k := fun k => by
        induction k with
        | zero => exact Int.le_refl _
        | succ k ih => unfold lenTo; split <;> omega
      exact absurd (this _) h
    · rfl
  | m + 1, y, known, h => by
    unfold furR at h ⊢
    suffices H : ∀ k, 0 ≤ (furTo (furR l c p m) l y known k).1 ∨ ((furTo (furR l c p m) l y known k).1 = -1 ∧ (furTo (furR l c p m) l y known k).2.2 = []) by
      rcases H l.length with h1 | ⟨h1, h2⟩
      · exact absurd h1 h
      · rw [h1, h2]
    intro k
    induction k with
    | zero => exact .inr ⟨rfl, rfl⟩
    | succ k ih =>
      rw [furTo_succ]
      unfold furStep
      split
      · exact ih
      · split
        · rename_i h1
          exact .inl h1
        · exact ih
theorem least_fur {l : List Task} {c p : Int} (hR : RightT l) (hc : 0 ≤ c ∧ 0 ≤ p) (hfit : l.any (tooMuch c p) = false) : leastN l c p = furR l c p l.length [] (-1) := by
  unfold leastN
  rw [srch_fur hR hc hfit l.length [] _ _ (by simp) tied_nil]
  split
  · rfl
  · rename_i h
    exact (furR_neg _ _ _ h).symm

end Go.Proofs.YtphbfhffiljbfaaGreat

/- the reference's ready and earliest. -/
namespace Go.Proofs.YtphbfhffiljbfaaGreat
open Go.RowKit Go.Shelf

/-- What the reference's search reads: tasks, starts, and a list of indices. -/
structure RefSt (w : World) (B : Nat) (v u z : Value) (l : List Task) (r : List Int) (y : List Nat) : Prop where
  tasks : TasksAt w B v l
  starts : IntsAt w B u r
  list : IntsAt w B z (ints y)
  len : r.length = l.length
  bd : ∀ x ∈ r, 0 ≤ x ∧ x ≤ 90000
  lt : ∀ i ∈ y, i < l.length
  y8 : y.length ≤ 8
theorem RefSt.below {w w' : World} {B : Nat} {v u z : Value} {l : List Task} {r : List Int} {y : List Nat} (h : RefSt w B v u z l r y) (hb : Below B w w') : RefSt w' B v u z l r y :=
  ⟨h.tasks.below hb (Nat.le_refl _), h.starts.below hb (Nat.le_refl _), h.list.below hb (Nat.le_refl _), h.len, h.bd, h.lt, h.y8⟩
theorem RefSt.mono {w : World} {B B' : Nat} {v u z : Value} {l : List Task} {r : List Int} {y : List Nat} (h : RefSt w B v u z l r y) (hB : B ≤ B') : RefSt w B' v u z l r y :=
  ⟨h.tasks.mono hB, h.starts.mono hB, h.list.mono hB, h.len, h.bd, h.lt, h.y8⟩
theorem RefSt.at_ {w : World} {B : Nat} {v u z : Value} {l : List Task} {r : List Int} {y : List Nat} (h : RefSt w B v u z l r y) {i : Nat} (hi : i < l.length) : 0 ≤ atI r i ∧ atI r i ≤ 90000 := by
  have hl := h.len
  rw [atI_get (by omega)]
  exact h.bd _ (List.getElem_mem _)
theorem RefSt.endBd {w : World} {B : Nat} {v u z : Value} {l : List Task} {r : List Int} {y : List Nat} (h : RefSt w B v u z l r y) (hR : RightT l) {i : Nat} (hi : i < l.length) : 0 ≤ endN l r i ∧ endN l r i ≤ 100000 := by
  have h1 := h.at_ hi
  have h2 := fieldB_len (hR.field i hi)
  unfold endN
  rw [lenAt_eq hi]
  omega
/-- A start's cell. -/
theorem RefSt.cellS {w : World} {B : Nat} {v u z : Value} {l : List Task} {r : List Int} {y : List Nat} (h : RefSt w B v u z l r y) {i : Nat} (hi : i < l.length) :
    ∃ b off cap, u = .slice (some ⟨b, off, none⟩) l.length cap ∧ b < B ∧ l.length ≤ cap ∧ cap ≤ 9223372036854775807 ∧ w.cell? ⟨b, off + i, none⟩ = some (.int .i64 (atI r i)) := by
  have hl := h.len
  obtain ⟨A, cap, rfl, h1, h2, h3⟩ := h.starts.open_
  unfold maxLen at h2
  obtain ⟨b, off, rfl, hb, hc⟩ := h3 i (by omega)
  exact ⟨b, off, cap, by rw [hl], hb, by omega, h2, by rw [atI_get (by omega)]; exact hc i (by omega)⟩
theorem RefSt.cellY {w : World} {B : Nat} {v u z : Value} {l : List Task} {r : List Int} {y : List Nat} (h : RefSt w B v u z l r y) {k : Nat} (hk : k < y.length) :
    ∃ b off cap, z = .slice (some ⟨b, off, none⟩) y.length cap ∧ b < B ∧ y.length ≤ cap ∧ cap ≤ 9223372036854775807 ∧ w.cell? ⟨b, off + k, none⟩ = some (.int .i64 (y[k] : Nat)) := by
  obtain ⟨A, cap, rfl, h1, h2, h3⟩ := h.list.open_
  have h4 := length_ints y
  unfold maxLen at h2
  obtain ⟨b, off, rfl, hb, hc⟩ := h3 k (by omega)
  exact ⟨b, off, cap, by rw [length_ints], hb, by omega, h2, by
    have e := hc k (by omega)
    have e2 : (ints y)[k]'(by omega) = ((y[k] : Nat) : Int) := by simp [ints]
    rw [e2] at e
    exact e⟩
theorem pls_length {l : List Task} {L : List ByteArray} : (pls l L).length = L.length := by simp [pls]
theorem pls_get {l : List Task} {L : List ByteArray} {k : Nat} (h : k < L.length) : (pls l L)[k]'(by rw [pls_length]; exact h) = pl l L[k] := by simp [pls]

end Go.Proofs.YtphbfhffiljbfaaGreat

/- the reference's Length, Starts, and Needed. -/
namespace Go.Proofs.YtphbfhffiljbfaaGreat
open Go.RowKit Go.Shelf

set_option maxRecDepth 100000 in
set_option maxHeartbeats 2000000 in
theorem refLen (v u : Value) (l : List Task) (s : List Int) (B : Nat) (w : World) (hR : RightT l) (hl : TasksAt w B v l) (hs : IntsAt w B u s) (hlen : s.length = l.length) (hbd : ∀ x ∈ s, 0 ≤ x ∧ x ≤ 1000000) :
    Calls Tryz.prog 27 #[v, u] w fun e w' => e = .returned (.int .i64 (lenTo l s l.length)) ∧ ∃ q, w.drewN q = w' := by
  have h8 := hR.len
  have HB := Lib.hid (lenTo_bd hR hlen hbd)
  obtain ⟨A, cc, rfl, hA1, hA2, hAc⟩ := hl.open_
  obtain ⟨A', cc', rfl, hA1', hA2', hBc⟩ := hs.open_
  unfold maxLen at hA2 hA2'
  have HC : Hid (∀ (k : Nat) (hk : k < l.length), ∃ b0 off0 b1 off1, A = some ⟨b0, off0, none⟩ ∧ A' = some ⟨b1, off1, none⟩ ∧ w.cell? ⟨b0, off0 + k * 5 + 1, none⟩ = some (.int .i64 l[k].len) ∧ w.cell? ⟨b1, off1 + k, none⟩ = some (.int .i64 (atI s k)) ∧ 1 ≤ l[k].len ∧ l[k].len ≤ 10000 ∧ 0 ≤ atI s k ∧ atI s k ≤ 1000000) := fun k hk => by
    obtain ⟨b0, off0, e0, -, h0⟩ := hAc k hk
    obtain ⟨b1, off1, e1, -, h1⟩ := hBc k (by omega)
    have h2 := hbd _ (List.getElem_mem (show k < s.length by omega))
    rw [← atI_get (by omega)] at h2
    exact ⟨b0, off0, b1, off1, e0, e1, (h0 k hk).2.1, by rw [atI_get (by omega)]; exact h1 k (by omega), (fieldB_len (hR.field k hk)).1, (fieldB_len (hR.field k hk)).2, h2.1, h2.2⟩
  rw [hlen] at hA1' ⊢
  clear hl hs hAc hBc hR hbd hlen
  go_enter Tryz.func27, Tryz.ntmps27
  go_wp2_with fail
  go_loopw [6, 5] (fun ix m wr => ∃ k : Nat, k ≤ l.length ∧ ix = .int .i64 k ∧ m = .int .i64 (lenTo l s k) ∧ ∃ q, wr = w.drewN q) (fun ix _ _ => l.length - (intOf ix).toNat)
  case atStart => exact ⟨0, Nat.zero_le _, rfl, rfl, 0, rfl⟩
  case round =>
    obtain ⟨k, hk, rfl, rfl, q, rfl⟩ := hrel
    by_cases hkl : k < l.length
    · obtain ⟨b0, off0, b1, off1, rfl, rfl, h0, h1, h2, h3, h4, h5⟩ := HC.out k hkl
      have hb := HB.out k hk
      have HS : Hid (lenTo l s (k + 1) = max (lenTo l s k) (atI s k + l[k].len)) := by
        unfold Hid
        have e : endN l s k = atI s k + l[k].len := by unfold endN; rw [lenAt_eq hkl]
        rw [lenTo, e]
        split <;> omega
      generalize lenTo l s k = m at *
      generalize atI s k = x at *
      generalize l[k].len = ln at *
      have i3 : (0 : Int) ≤ (k : Int) := Int.natCast_nonneg _
      have i4 : (k : Int) < (l.length : Int) := by omega
      have w1 : IntKind.i64.wrap (x + ln) = x + ln := IntWalk.i64_in _ (by omega)
      go_wp2_with fail
      go_quiet (fail)
      go_wp2_with fail
      go_roundw
      case rel => exact ⟨k + 1, by omega, by go_num, by rw [HS.out], _, rfl⟩
      case measure => simp [intOf]; omega
    · have hke : k = l.length := by omega
      subst hke
      go_wp2_with fail
      go_ret
      exact ⟨rfl, _, rfl⟩

set_option maxRecDepth 100000 in
set_option maxHeartbeats 2000000 in
theorem refStarts (v u : Value) (l : List Task) (s : List Int) (B : Nat) (w : World) (hl : TasksAt w B v l) (hs : IntsAt w B u s) (_hw : Wide s) :
    Calls Tryz.prog 25 #[v, u] w fun e w' => e = .returned (.int .i64 (startsN l s)) ∧ w = w' := by
  obtain ⟨A, cc, rfl, hA1, hA2, -⟩ := hl.open_
  obtain ⟨A', cc', rfl, hA1', hA2', hBc⟩ := hs.open_
  unfold maxLen at hA2 hA2'
  have HBc := Lib.hid hBc
  clear hl hs hBc
  by_cases h : s.length = l.length
  · have HV : Hid (startsN l s = if s.any outB then 2 else 0) := by unfold Hid startsN; rw [if_pos h]
    have hb : ((s.length : Int) != l.length) = false := by simp [h]
    clear h
    go_enter Tryz.func25, Tryz.ntmps25
    go_wp2_with fail
    go_loopw [5] (fun ix wr => ∃ k : Nat, k ≤ s.length ∧ ix = .int .i64 k ∧ Hid ((s.take k).any outB = false) ∧ w = wr) (fun ix _ => s.length - (intOf ix).toNat)
    case atStart => exact ⟨0, Nat.zero_le _, rfl, rfl, rfl⟩
    case round =>
      obtain ⟨k, hk, rfl, HN, rfl⟩ := hrel
      by_cases hkl : k < s.length
      · obtain ⟨b, off, rfl, hb, hc⟩ := HBc.out k hkl
        have h1 := hc k hkl
        have HO : Hid (outB s[k] = !betweenB s[k] 0 1000000) := by
          unfold Hid outB betweenB
          rw [Bool.eq_iff_iff]
          simp
        have HY : Hid (outB s[k] = false → (s.take (k + 1)).any outB = false) := fun h => any_take hkl HN.out h
        have HX : Hid (outB s[k] = true → startsN l s = 2) := fun h => by rw [HV.out, any_hit hkl h]; rfl
        have hcall := refBetween s[k] 0 1000000 w
        have i3 : (0 : Int) ≤ (k : Int) := Int.natCast_nonneg _
        have i4 : (k : Int) < (s.length : Int) := by omega
        clear hc HN
        generalize outB s[k] = ob at *
        generalize s[k] = x at *
        cases hq : betweenB x 0 1000000 with
        | true =>
          have HY' := Lib.hid (HY.out (by rw [HO.out, hq]; rfl))
          rw [hq] at hcall
          clear hq HY HX HO
          go_wp2_with (go_at_call 23; refine hcall.mono ?_; rintro e w' ⟨rfl, rfl⟩)
          go_roundw
          case rel => exact ⟨k + 1, by omega, by go_num, HY', by trivial⟩
          case measure => simp [intOf]; omega
        | false =>
          have HX' := Lib.hid (HX.out (by rw [HO.out, hq]; rfl))
          rw [hq] at hcall
          clear hq HY HX HO
          go_wp2_with (go_at_call 23; refine hcall.mono ?_; rintro e w' ⟨rfl, rfl⟩)
          go_ret
          exact ⟨ret_int HX'.out.symm, rfl⟩
      · have hke : k = s.length := by omega
        subst hke
        have HV' : Hid (startsN l s = 0) := by
          have := HN.out
          rw [List.take_length] at this
          unfold Hid
          rw [HV.out, this]
          rfl
        go_wp2_with fail
        go_ret
        exact ⟨ret_int HV'.out.symm, rfl⟩
  · have HV : Hid (startsN l s = 3) := by unfold Hid startsN; rw [if_neg h]
    have hb : ((s.length : Int) != l.length) = true := by simp; omega
    clear h
    go_enter Tryz.func25, Tryz.ntmps25
    go_wp2
    go_ret
    exact ⟨ret_int HV.out.symm, rfl⟩

set_option maxRecDepth 100000 in
set_option maxHeartbeats 2000000 in
theorem refNeeded (v : Value) (l : List Task) (c p : Int) (B : Nat) (w : World) (hl : TasksAt w B v l) :
    Calls Tryz.prog 9 #[v, .int .i64 c, .int .i64 p] w fun e w' => e = .returned (.bool (l.any (tooMuch c p))) ∧ w = w' := by
  obtain ⟨A, cc, rfl, hA1, hA2, hAc⟩ := hl.open_
  unfold maxLen at hA2
  have HC := Lib.hid hAc
  clear hl hAc
  go_enter Tryz.func9, Tryz.ntmps9
  go_wp2_with fail
  go_loopw [7] (fun ix wr => ∃ k : Nat, k ≤ l.length ∧ ix = .int .i64 k ∧ Hid ((l.take k).any (tooMuch c p) = false) ∧ w = wr) (fun ix _ => l.length - (intOf ix).toNat)
  case atStart => exact ⟨0, Nat.zero_le _, rfl, rfl, rfl⟩
  case round =>
    obtain ⟨k, hk, rfl, HN, rfl⟩ := hrel
    by_cases hkl : k < l.length
    · obtain ⟨b, off, rfl, hb, hc⟩ := HC.out k hkl
      obtain ⟨-, -, t2, t3, -⟩ := hc k hkl
      have HO : Hid (tooMuch c p l[k] = (decide (c < l[k].crew) || decide (p < l[k].pow))) := rfl
      have HY : Hid (tooMuch c p l[k] = false → (l.take (k + 1)).any (tooMuch c p) = false) := fun h => any_take hkl HN.out h
      have HX : Hid (tooMuch c p l[k] = true → l.any (tooMuch c p) = true) := fun h => any_hit hkl h
      have i3 : (0 : Int) ≤ (k : Int) := Int.natCast_nonneg _
      have i4 : (k : Int) < (l.length : Int) := by omega
      clear hc HN
      generalize tooMuch c p l[k] = ob at *
      generalize l[k].crew = x at *
      generalize l[k].pow = y at *
      by_cases d1 : c < x
      · have HX' := Lib.hid (HX.out (by rw [HO.out]; simp [d1]))
        clear HY HX HO
        go_wp2_with fail
        go_ret
        exact ⟨ret_bool HX'.out.symm, rfl⟩
      · have d1b : decide (c < x) = false := by simpa using d1
        by_cases d2 : p < y
        · have HX' := Lib.hid (HX.out (by rw [HO.out]; simp [d2]))
          clear HY HX HO
          go_wp2_with fail
          go_ret
          exact ⟨ret_bool HX'.out.symm, rfl⟩
        · have d2b : decide (p < y) = false := by simpa using d2
          have HY' := Lib.hid (HY.out (by rw [HO.out, d1b, d2b]; rfl))
          clear HY HX HO
          go_wp2_with fail
          go_roundw
          case rel => exact ⟨k + 1, by omega, by go_num, HY', by trivial⟩
          case measure => simp [intOf]; omega
    · have hke : k = l.length := by omega
      subst hke
      have HV' : Hid (l.any (tooMuch c p) = false) := by
        have := HN.out
        rw [List.take_length] at this
        exact this
      go_wp2_with fail
      go_ret
      exact ⟨ret_bool HV'.out.symm, rfl⟩

end Go.Proofs.YtphbfhffiljbfaaGreat
