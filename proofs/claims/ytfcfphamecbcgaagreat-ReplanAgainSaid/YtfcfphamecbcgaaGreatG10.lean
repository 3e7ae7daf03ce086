/- Parts of the proof, laid into one text: Opt, Opt2. -/
import Derived.Test.YtfcfphamecbcgaaGreatG5
import Derived.Test.YtfcfphamecbcgaaGreatG6
import Derived.Test.YtfcfphamecbcgaaGreatG9

/- The starts of an order keep the limits; the search finds the least length of all starts that keep them. No program in sight. -/
namespace Go.Proofs.YtfcfphamecbcgaaGreat
open Go.RowKit Go.Shelf

/-! ### What is needed at a time -/
theorem fAt_nonneg {f : Task → Int} {l : List Task} (hf : ∀ i, i < l.length → 0 ≤ fAt f l i) (i : Nat) : 0 ≤ fAt f l i := by
  by_cases h : i < l.length
  · exact hf i h
  · unfold fAt
    rw [List.getD_eq_getElem?_getD, List.getElem?_eq_none (by rw [List.length_map]; omega)]
    exact Int.le_refl _
theorem usedY_mono {f : Task → Int} {l : List Task} (hf : ∀ i, i < l.length → 0 ≤ fAt f l i) {r r' : List Int} {t t' : Int} : ∀ (n : Nat) {y : List Nat}, y.length = n → (∀ j ∈ y, onR l r t j = true → onR l r' t' j = true) → usedY f l r t y ≤ usedY f l r' t' y
  | 0, y, hy, _ => by
    have : y = [] := List.length_eq_zero_iff.1 hy
    subst this
    exact Int.le_refl _
  | n + 1, y, hy, h => by
    obtain ⟨z, i, rfl, hz⟩ := snoc_cases hy
    have ih := usedY_mono hf n hz (fun j hj => h j (by simp [hj]))
    have hi := h i (by simp)
    have h0 := fAt_nonneg hf i
    rw [usedY_append, usedY_append]
    cases h1 : onR l r t i with
    | true => rw [hi h1]; simpa using ih
    | false =>
      rw [if_neg (by simp)]
      split <;> omega
theorem usedTo_mono {f : Task → Int} {l : List Task} (hf : ∀ i, i < l.length → 0 ≤ fAt f l i) {s s' : List Int} {t t' : Int} : ∀ k, (∀ j, j < k → onB l s t j = true → onB l s' t' j = true) → usedTo f l s t k ≤ usedTo f l s' t' k
  | 0, _ => Int.le_refl _
  | k + 1, h => by
    have ih := usedTo_mono hf k (fun j hj => h j (by omega))
    have hi := h k (by omega)
    have h0 := fAt_nonneg hf k
    rw [usedTo, usedTo]
    cases h1 : onB l s t k with
    | true => rw [hi h1]; simpa using ih
    | false =>
      rw [if_neg (by simp)]
      split <;> omega
theorem onB_of_nonneg {l : List Task} {s : List Int} {t : Int} {i : Nat} (h : 0 ≤ atI s i) : onB l s t i = onR l s t i := by
  unfold onB Proofs.YtfcfphamecbcgaaGreat.onR
  rw [decide_eq_true h, Bool.true_and]
theorem onR_iff {l : List Task} {r : List Int} {t : Int} {i : Nat} : onR l r t i = true ↔ atI r i ≤ t ∧ t < endN l r i := by
  unfold Proofs.YtfcfphamecbcgaaGreat.onR
  rw [Bool.and_eq_true, decide_eq_true_iff, decide_eq_true_iff]
/-- A part needs no more than all. -/
theorem usedY_le {f : Task → Int} {l : List Task} (hf : ∀ i, i < l.length → 0 ≤ fAt f l i) {s : List Int} {t : Int} {y : List Nat} (hlen : s.length = l.length) (hs : ∀ i, i < l.length → 0 ≤ atI s i) (hn : y.Nodup) (hlt : ∀ i ∈ y, i < l.length) : usedY f l s t y ≤ usedTo f l s t l.length := by
  have hT : Tied l ((List.range l.length).map fun j => if j ∈ y then atI s j else -1) s y := by
    have hat : ∀ j, j < l.length → atI ((List.range l.length).map fun j => if j ∈ y then atI s j else -1) j = if j ∈ y then atI s j else -1 := fun j hj => by
      rw [atI_get (by simpa using hj)]
      simp
    refine ⟨by simp, hlen, hn, hlt, fun i hi => ?_, fun i hi hy => ?_⟩
    · rw [hat i (hlt i hi), if_pos hi]
      exact ⟨rfl, hs i (hlt i hi)⟩
    · rw [hat i hi, if_neg hy]
  rw [← Tied.used _ rfl hT]
  refine usedTo_mono hf l.length fun j hj h => ?_
  by_cases hy : j ∈ y
  · rw [hT.onR hy] at h
    rw [onB_of_nonneg (hs j hj)]
    exact h
  · rw [onB_off (by rw [hT.off j hj hy]; omega)] at h
    cases h

/-! ### A start fits -/
theorem room_iff {l : List Task} {c p : Int} {r : List Int} {y : List Nat} {i : Nat} {x : Int} : roomB l c p r y i x = true ↔ usedY Task.crew l r x y + fAt Task.crew l i ≤ c ∧ usedY Task.pow l r x y + fAt Task.pow l i ≤ p := by
  unfold roomB
  rw [Bool.and_eq_true, decide_eq_true_iff, decide_eq_true_iff]
theorem fits_all {l : List Task} {c p : Int} {r : List Int} {y : List Nat} {i : Nat} {t : Int} (hR : RightT l) (h : fitsR l c p r y i t = true) : ∀ x, t ≤ x → x < t + lenAt l i → roomB l c p r y i x = true := by
  intro x h1 h2
  have hall := List.all_eq_true.1 h
  have htm : t ∈ (timesR l r i t y).filter (fun z => decide (z ≤ x)) := List.mem_filter.2 ⟨by unfold timesR; simp, by simpa using h1⟩
  obtain ⟨m, hm, hmost⟩ := most_mem ((timesR l r i t y).filter (fun z => decide (z ≤ x))) (fun e => by rw [e] at htm; cases htm)
  obtain ⟨hm1, hm2⟩ := List.mem_filter.1 hm
  simp only [decide_eq_true_eq] at hm2
  have hroom := room_iff.1 (hall m hm1)
  have hon : ∀ j ∈ y, onR l r x j = true → onR l r m j = true := fun j hj ho => by
    rw [onR_iff] at ho ⊢
    refine ⟨?_, by omega⟩
    by_cases e : t < atI r j
    · refine hmost _ (List.mem_filter.2 ⟨?_, by simpa using ho.1⟩)
      unfold timesR
      refine List.mem_cons_of_mem _ (List.mem_filter.2 ⟨List.mem_map.2 ⟨j, hj, rfl⟩, ?_⟩)
      unfold inB
      rw [decide_eq_true e, decide_eq_true (show atI r j < t + lenAt l i by omega)]
      rfl
    · have := hmost t htm
      omega
  rw [room_iff]
  have h3 := usedY_mono (fun i hi => (crew_bd hR i hi).1) _ rfl hon
  have h4 := usedY_mono (fun i hi => (pow_bd hR i hi).1) _ rfl hon
  omega
theorem fits_of_all {l : List Task} {c p : Int} {r : List Int} {y : List Nat} {i : Nat} {t : Int} (hlen : 1 ≤ lenAt l i) (h : ∀ x, t ≤ x → x < t + lenAt l i → roomB l c p r y i x = true) : fitsR l c p r y i t = true := by
  unfold fitsR
  rw [List.all_eq_true]
  intro x hx
  unfold timesR at hx
  rcases List.mem_cons.1 hx with rfl | hx
  · exact h x (Int.le_refl _) (by omega)
  · have := (List.mem_filter.1 hx).2
    unfold inB at this
    simp only [Bool.and_eq_true, decide_eq_true_eq] at this
    exact h x (by omega) this.2
/-- No start that fits, and comes after the tasks before it, is earlier than the reference's. -/
theorem early_le {l : List Task} {c p : Int} {r : List Int} {y : List Nat} {i : Nat} (hR : RightT l) (hlen : 1 ≤ lenAt l i) (hf0 : 0 ≤ firstN l r (rowAt l i)) : ∀ (n : Nat) {x : Int}, (x - firstN l r (rowAt l i)).toNat = n → firstN l r (rowAt l i) ≤ x → fitsR l c p r y i x = true → earlyR l c p r y i ≤ x
  | 0, x, hn, hx, h => by
    have : x = firstN l r (rowAt l i) := by omega
    subst this
    unfold earlyR
    rw [if_pos h]
    exact Int.le_refl _
  | n + 1, x, hn, hx, h => by
    cases hq : fitsR l c p r y i (x - 1) with
    | true =>
      have := early_le hR hlen hf0 n (x := x - 1) (by omega) (by omega) hq
      omega
    | false =>
      have hx1 : roomB l c p r y i (x - 1) = false := by
        cases hr : roomB l c p r y i (x - 1) with
        | false => rfl
        | true =>
          have := fits_of_all (c := c) (p := p) (r := r) (y := y) (t := x - 1) hlen fun z h1 h2 => by
            by_cases e : z = x - 1
            · subst e; exact hr
            · exact fits_all hR h z (by omega) (by omega)
          rw [hq] at this
          cases this
      have hx2 := fits_all hR h x (Int.le_refl _) (by omega)
      have hex : ∃ j ∈ y, onR l r (x - 1) j = true ∧ ¬ onR l r x j = true := by
        apply Classical.byContradiction
        intro hno
        have hon : ∀ j ∈ y, onR l r (x - 1) j = true → onR l r x j = true := fun j hj h1 => by
          apply Classical.byContradiction
          intro h2
          exact hno ⟨j, hj, h1, h2⟩
        have h3 := usedY_mono (fun i hi => (crew_bd hR i hi).1) _ rfl hon
        have h4 := usedY_mono (fun i hi => (pow_bd hR i hi).1) _ rfl hon
        rw [room_iff] at hx2
        have : roomB l c p r y i (x - 1) = true := room_iff.2 (by omega)
        rw [hx1] at this
        cases this
      obtain ⟨j, hj, h1, h2⟩ := hex
      rw [onR_iff] at h1 h2
      have he : endN l r j = x := by omega
      unfold earlyR
      split
      · exact hx
      · have hch := minTo_char (e := endN l r) (q := fitsR l c p r y i) hf0 (z := y) y.length (Nat.le_refl _)
        rw [List.take_length] at hch
        rcases hch with ⟨-, h3⟩ | ⟨k, _, _, _, _, h6⟩
        · have := h3 j hj (by omega)
          rw [he, h] at this
          cases this
        · have := h6 j hj (by omega) (by rw [he]; exact h)
          omega

/-! ### The starts of an order keep the limits -/
theorem firstN_ge {l : List Task} {s : List Int} {r : List Int} : 0 ≤ firstN l s r ∧ ∀ k ∈ r, endN l s k.toNat ≤ firstN l s r := by
  have h := maxOf_ge (f := endN l s) (r := r)
  have e : firstN l s r = maxOf (endN l s) r := by
    unfold firstN maxOf
    rw [show (fun (a k : Int) => max2 a (endN l s k.toNat)) = fun a k => max a (endN l s k.toNat) from funext fun a => funext fun k => max2_max _ _]
  rw [e]
  exact h
theorem firstN_le {l : List Task} {s : List Int} {M : Int} {r : List Int} (hM : 0 ≤ M) (h : ∀ k ∈ r, endN l s k.toNat ≤ M) : firstN l s r ≤ M := by
  have := (firstN_bd hM r.length h (Nat.le_refl _)).2
  rwa [List.take_length] at this
/-- One more task of an order. -/
theorem Placed.step {l : List Task} {c p : Int} (hR : RightT l) (hc : 0 ≤ c ∧ 0 ≤ p) (hfit : l.any (tooMuch c p) = false) {y : List Nat} {i : Nat} (h : Placed l (y ++ [i])) :
    fitsR l c p (listAll l c p y) y i (earlyR l c p (listAll l c p y) y i) = true ∧ firstN l (listAll l c p y) (rowAt l i) ≤ earlyR l c p (listAll l c p y) y i := by
  obtain ⟨s, hT, hsb, hb⟩ := Placed.tied (c := c) (p := p) hR hc hfit _ rfl h.front
  obtain ⟨hn, hiz⟩ := nodup_snocN h.nodup
  have hi := h.lt i (by simp)
  have hr := h.ready y.length (by simp)
  rw [List.take_append_of_le_length (Nat.le_refl _), List.take_length] at hr
  have hr' : readyB l y i = true := by simpa using hr
  have hsk := hT.skip hR hi
  rw [hr', decide_eq_false hiz] at hsk
  obtain ⟨hun, hrow⟩ := skip_no hsk
  have hput := put_exists (s := s) hR hc hfit hT.len hi
  have he := hT.early hR hi hiz hrow hput
  have hlen : 1 ≤ lenAt l i := by rw [lenAt_eq hi]; exact (fieldB_len (hR.field i hi)).1
  have hbd := putN_bd (count := y.length) hR hT.len hi (fun x hx => (hsb x hx).2) hput
  have hw := List.find?_some hput
  have hF : firstN l s (rowAt l i) = firstN l (listAll l c p y) (rowAt l i) := firstN_congr fun k hk => by
    have h1 := List.any_eq_false.1 hrow k hk
    unfold unB at h1
    simp only [decide_eq_true_eq] at h1
    have hky : k.toNat ∈ y := by
      apply Classical.byContradiction
      intro hn
      have := hT.off _ (rowAt_lt hR hi hk) hn
      omega
    exact (hT.on _ hky).1
  rw [he]
  refine ⟨by rw [← hT.whole hi hiz hbd.1 hlen]; exact hw, ?_⟩
  rw [← hF]
  rcases timesTo_inv _ ((List.mergeSort_perm _ _).mem_iff.1 (List.mem_of_find?_eq_some hput)) with h1 | ⟨j, _, _, h1, h2⟩ <;> omega
/-- What holds of the starts of a beginning. -/
structure KeepsY (l : List Task) (c p : Int) (r : List Int) (y : List Nat) : Prop where
  len : r.length = l.length
  row : ∀ i ∈ y, ∀ k ∈ rowAt l i, endN l r k.toNat ≤ atI r i
  crew : ∀ t, usedY Task.crew l r t y ≤ c
  pow : ∀ t, usedY Task.pow l r t y ≤ p
theorem usedY_congr {f : Task → Int} {l : List Task} {r r' : List Int} {t : Int} : ∀ (n : Nat) {y : List Nat}, y.length = n → (∀ j ∈ y, atI r j = atI r' j) → usedY f l r t y = usedY f l r' t y
  | 0, y, hy, _ => by
    have : y = [] := List.length_eq_zero_iff.1 hy
    subst this
    rfl
  | n + 1, y, hy, h => by
    obtain ⟨z, i, rfl, hz⟩ := snoc_cases hy
    rw [usedY_append, usedY_append, usedY_congr n hz (fun j hj => h j (by simp [hj]))]
    have : onR l r t i = onR l r' t i := by unfold Proofs.YtfcfphamecbcgaaGreat.onR endN; rw [h i (by simp)]
    rw [this]
theorem Placed.keeps {l : List Task} {c p : Int} (hR : RightT l) (hc : 0 ≤ c ∧ 0 ≤ p) (hfit : l.any (tooMuch c p) = false) : ∀ (n : Nat) {y : List Nat}, y.length = n → Placed l y → KeepsY l c p (listAll l c p y) y
  | 0, y, hy, _ => by
    have : y = [] := List.length_eq_zero_iff.1 hy
    subst this
    exact ⟨listR_len _, by simp, fun t => hc.1, fun t => hc.2⟩
  | n + 1, y, hy, h => by
    obtain ⟨z, i, rfl, hz⟩ := snoc_cases hy
    have ih := Placed.keeps hR hc hfit n hz h.front
    obtain ⟨hn, hiz⟩ := nodup_snocN h.nodup
    have hi := h.lt i (by simp)
    obtain ⟨hfits, hfirst⟩ := Placed.step (c := c) (p := p) hR hc hfit h
    have hroom := fits_all hR hfits
    have hlen := ih.len
    have hr := h.ready z.length (by simp)
    rw [List.take_append_of_le_length (Nat.le_refl _), List.take_length] at hr
    have hr' : readyB l z i = true := by simpa using hr
    have hrowz : ∀ k ∈ rowAt l i, k.toNat ∈ z := fun k hk => by simpa using List.all_eq_true.1 hr' k hk
    rw [listAll_snoc]
    generalize earlyR l c p (listAll l c p z) z i = t at *
    generalize listAll l c p z = r at *
    have hne : ∀ j ∈ z, i ≠ j := fun j hj e => hiz (e ▸ hj)
    have hat : ∀ j ∈ z, atI (r.set i t) j = atI r j := fun j hj => atI_set_ne (hne j hj)
    have hself : atI (r.set i t) i = t := atI_set_self (by omega)
    have hend : ∀ j ∈ z, endN l (r.set i t) j = endN l r j := fun j hj => endN_set_ne (hne j hj)
    have huse : ∀ f x, usedY f l (r.set i t) x z = usedY f l r x z := fun f x => usedY_congr _ rfl hat
    refine ⟨by rw [List.length_set]; exact hlen, fun j hj k hk => ?_, fun x => ?_, fun x => ?_⟩
    · rcases List.mem_append.1 hj with hj | hj
      · have hkz : k.toNat ∈ z := by
          obtain ⟨m, hm, rfl⟩ := List.mem_iff_getElem.1 hj
          have h1 := h.front.ready m hm
          exact List.mem_of_mem_take (by simpa using List.all_eq_true.1 h1 k hk)
        rw [hend _ hkz, hat j hj]
        exact ih.row j hj k hk
      · have : j = i := List.mem_singleton.1 hj
        subst this
        rw [hend _ (hrowz k hk), hself]
        have := (firstN_ge (l := l) (s := r) (r := rowAt l j)).2 k hk
        omega
    · rw [usedY_append, huse]
      by_cases ho : onR l (r.set i t) x i = true
      · rw [if_pos ho]
        rw [onR_iff, hself, endN_set_self (by omega)] at ho
        exact (room_iff.1 (hroom x ho.1 ho.2)).1
      · rw [if_neg ho]
        have := ih.crew x
        omega
    · rw [usedY_append, huse]
      by_cases ho : onR l (r.set i t) x i = true
      · rw [if_pos ho]
        rw [onR_iff, hself, endN_set_self (by omega)] at ho
        exact (room_iff.1 (hroom x ho.1 ho.2)).2
      · rw [if_neg ho]
        have := ih.pow x
        omega
theorem usedY_perm {f : Task → Int} {l : List Task} {r : List Int} {t : Int} {y z : List Nat} (h : y.Perm z) : usedY f l r t y = usedY f l r t z := by
  unfold usedY
  exact h.foldl_eq' (fun a _ b _ x => by omega) 0
theorem Placed.full {l : List Task} {y : List Nat} (h : Placed l y) (hy : y.length = l.length) {i : Nat} (hi : i < l.length) : i ∈ y := by
  apply Classical.byContradiction
  intro hn
  have := List.Nodup.length_le_of_subset (nodup_snocN' h.nodup hn) (l₂ := List.range l.length) (fun j hj => by
    rw [List.mem_range]
    rcases List.mem_append.1 hj with hj | hj
    · exact h.lt j hj
    · rw [List.mem_singleton.1 hj]; exact hi)
  simp only [List.length_append, List.length_range, List.length_singleton] at this
  omega
/-- The starts of a whole order keep the limits. -/
theorem Placed.check {l : List Task} {c p : Int} (hR : RightT l) (hc : 0 ≤ c ∧ 0 ≤ p) (hfit : l.any (tooMuch c p) = false) {y : List Nat} (h : Placed l y) (hy : y.length = l.length) :
    checkB l c p (listAll l c p y) = true ∧ (listAll l c p y).length = l.length ∧ ∀ x ∈ listAll l c p y, 0 ≤ x ∧ x ≤ 80000 := by
  have hk := Placed.keeps (c := c) (p := p) hR hc hfit _ rfl h
  obtain ⟨s, hT, -, hb⟩ := Placed.tied (c := c) (p := p) hR hc hfit _ rfl h
  have h8 := hR.len
  have hlen := hk.len
  refine ⟨?_, hlen, fun x hx => by have := hb x hx; omega⟩
  have hs : ∀ i, i < l.length → 0 ≤ atI (listAll l c p y) i := fun i hi => (hT.on i (h.full hy hi)).2
  rw [keeps_check hlen]
  unfold keepsB
  rw [Bool.and_eq_true, List.all_eq_true, List.all_eq_true]
  refine ⟨fun i hi => ?_, fun i hi => ?_⟩
  · have hi' := List.mem_range.1 hi
    rw [Bool.not_eq_true', List.any_eq_false]
    intro k hkr
    have := hk.row i (h.full hy hi') k hkr
    unfold lateB
    simp
    omega
  · have hle : ∀ f : Task → Int, (∀ i, i < l.length → 0 ≤ fAt f l i) → usedTo f l (listAll l c p y) (atI (listAll l c p y) i) l.length = usedY f l (listAll l c p y) (atI (listAll l c p y) i) y := fun f _ => by
      have hT' : Tied l (listAll l c p y) (listAll l c p y) y := ⟨hlen, hlen, h.nodup, h.lt, fun j hj => ⟨rfl, hs j (h.lt j hj)⟩, fun j hj hn => absurd (h.full hy hj) hn⟩
      exact Tied.used _ rfl hT'
    unfold fitsB
    rw [hle _ (fun i hi => (crew_bd hR i hi).1), hle _ (fun i hi => (pow_bd hR i hi).1), Bool.and_eq_true, decide_eq_true_iff, decide_eq_true_iff]
    exact ⟨hk.crew _, hk.pow _⟩

end Go.Proofs.YtfcfphamecbcgaaGreat

/- The search finds the least length of all starts that keep the limits. No program in sight. -/
namespace Go.Proofs.YtfcfphamecbcgaaGreat
open Go.RowKit Go.Shelf

theorem Placed.next {l : List Task} {y t : List Nat} {i : Nat} (h : Placed l (y ++ i :: t)) : i < l.length ∧ i ∉ y ∧ readyB l y i = true ∧ Placed l (y ++ [i]) := by
  have e : y ++ i :: t = (y ++ [i]) ++ t := by simp
  rw [e] at h
  have h' := h.front
  have hr := h'.ready y.length (by simp)
  rw [List.take_append_of_le_length (Nat.le_refl _), List.take_length] at hr
  exact ⟨h'.lt i (by simp), (nodup_snocN h'.nodup).2, by simpa using hr, h'⟩
/-- What the reference's search finds among the orders that begin with y. -/
theorem fur_char {l : List Task} {c p : Int} : ∀ (m : Nat) (y : List Nat) (known : Int), y.length + m = l.length → Placed l y →
    ((furR l c p m y known).1 < 0 ∧ ∀ t, Placed l (y ++ t) → (y ++ t).length = l.length → 0 ≤ known ∧ known ≤ lenTo l (listAll l c p (y ++ t)) l.length) ∨
    (0 ≤ (furR l c p m y known).1 ∧ (known < 0 ∨ (furR l c p m y known).1 < known) ∧ (∃ t, Placed l (y ++ t) ∧ (y ++ t).length = l.length ∧ furR l c p m y known = (lenTo l (listAll l c p (y ++ t)) l.length, listAll l c p (y ++ t))) ∧
      ∀ t, Placed l (y ++ t) → (y ++ t).length = l.length → (furR l c p m y known).1 ≤ lenTo l (listAll l c p (y ++ t)) l.length)
  | 0, y, known, hm, hP => by
    have hnil : ∀ t : List Nat, (y ++ t).length = l.length → t = [] := fun t ht => by
      rw [List.length_append] at ht
      exact List.length_eq_zero_iff.1 (by omega)
    have h0 : ∀ k, 0 ≤ lenTo l (listAll l c p y) k := fun k => by
      induction k with
      | zero => exact Int.le_refl _
      | succ k ih => unfold lenTo; split <;> omega
    have h0 := h0 l.length
    unfold furR
    by_cases hc : known < 0 ∨ lenTo l (listAll l c p y) l.length < known
    · rw [if_pos hc]
      refine .inr ⟨h0, hc, ⟨[], by simpa using hP, by simp; omega, by simp⟩, fun t _ ht => ?_⟩
      rw [hnil t ht, List.append_nil]
      exact Int.le_refl _
    · rw [if_neg hc]
      refine .inl ⟨by simp, fun t _ ht => ?_⟩
      rw [hnil t ht, List.append_nil]
      omega
  | m + 1, y, known, hm, hP => by
    suffices H : ∀ k, k ≤ l.length →
        ((furTo (furR l c p m) l y known k).1 < 0 ∧ (furTo (furR l c p m) l y known k).2.1 = known ∧ ∀ i t, i < k → Placed l (y ++ i :: t) → (y ++ i :: t).length = l.length → 0 ≤ known ∧ known ≤ lenTo l (listAll l c p (y ++ i :: t)) l.length) ∨
        (0 ≤ (furTo (furR l c p m) l y known k).1 ∧ (furTo (furR l c p m) l y known k).2.1 = (furTo (furR l c p m) l y known k).1 ∧ (known < 0 ∨ (furTo (furR l c p m) l y known k).1 < known) ∧
          (∃ i t, Placed l (y ++ i :: t) ∧ (y ++ i :: t).length = l.length ∧ (furTo (furR l c p m) l y known k).1 = lenTo l (listAll l c p (y ++ i :: t)) l.length ∧ (furTo (furR l c p m) l y known k).2.2 = listAll l c p (y ++ i :: t)) ∧
          ∀ i t, i < k → Placed l (y ++ i :: t) → (y ++ i :: t).length = l.length → (furTo (furR l c p m) l y known k).1 ≤ lenTo l (listAll l c p (y ++ i :: t)) l.length) by
      have hcons : ∀ t : List Nat, (y ++ t).length = l.length → ∃ i t', t = i :: t' := fun t ht => by
        cases t with
        | nil => rw [List.append_nil] at ht; omega
        | cons i t' => exact ⟨i, t', rfl⟩
      unfold furR
      rcases H l.length (Nat.le_refl _) with ⟨h1, -, h3⟩ | ⟨h1, -, h3, ⟨i, t, hp, hl, e1, e2⟩, h5⟩
      · refine .inl ⟨h1, fun t ht hl => ?_⟩
        obtain ⟨i, t', rfl⟩ := hcons t hl
        exact h3 i t' ht.next.1 ht hl
      · refine .inr ⟨h1, h3, ⟨i :: t, hp, hl, by rw [← e1, ← e2]⟩, fun t ht hl => ?_⟩
        obtain ⟨i, t', rfl⟩ := hcons t hl
        exact h5 i t' ht.next.1 ht hl
    intro k
    induction k with
    | zero => exact fun _ => .inl ⟨by simp [furTo], rfl, fun i t hi => absurd hi (by omega)⟩
    | succ k ih =>
      intro hk
      have ih := ih (by omega)
      rw [furTo_succ]
      generalize furTo (furR l c p m) l y known k = a at *
      obtain ⟨ab, ak, al⟩ := a
      unfold furStep
      simp only at ih ⊢
      cases hsk : (decide (k ∈ y) || !readyB l y k) with
      | true =>
        have hno : ∀ t, ¬ Placed l (y ++ k :: t) := fun t ht => by
          have := ht.next
          rw [decide_eq_false this.2.1, this.2.2.1] at hsk
          cases hsk
        rw [if_pos rfl]
        rcases ih with ⟨h1, h2, h3⟩ | ⟨h1, h2, h3, h4, h5⟩
        · refine .inl ⟨h1, h2, fun i t hi hp hl => ?_⟩
          by_cases e : i = k
          · subst e; exact absurd hp (hno t)
          · exact h3 i t (by omega) hp hl
        · refine .inr ⟨h1, h2, h3, h4, fun i t hi hp hl => ?_⟩
          by_cases e : i = k
          · subst e; exact absurd hp (hno t)
          · exact h5 i t (by omega) hp hl
      | false =>
        simp only [Bool.false_eq_true, if_false]
        have hky : k ∉ y := by simp at hsk; exact hsk.1
        have hrd : readyB l y k = true := by simp at hsk; exact hsk.2
        have hP2 := hP.snoc (by omega) hky hrd
        have happ : ∀ t : List Nat, y ++ [k] ++ t = y ++ k :: t := fun t => by simp
        have hq := fur_char (c := c) (p := p) m (y ++ [k]) ak (by rw [List.length_append, List.length_singleton]; omega) hP2
        simp only [happ] at hq
        generalize furR l c p m (y ++ [k]) ak = q at *
        obtain ⟨qn, ql⟩ := q
        simp only at hq ⊢
        rcases hq with ⟨q1, q2⟩ | ⟨q1, q2, ⟨t0, hp0, hl0, e0⟩, q4⟩
        · rw [if_neg (by omega)]
          rcases ih with ⟨h1, h2, h3⟩ | ⟨h1, h2, h3, h4, h5⟩
          · refine .inl ⟨h1, h2, fun i t hi hp hl => ?_⟩
            by_cases e : i = k
            · subst e
              rw [← h2]
              exact q2 t hp hl
            · exact h3 i t (by omega) hp hl
          · refine .inr ⟨h1, h2, h3, h4, fun i t hi hp hl => ?_⟩
            by_cases e : i = k
            · subst e
              have := (q2 t hp hl).2
              simp only at h2 ⊢
              omega
            · exact h5 i t (by omega) hp hl
        · rw [if_pos q1]
          injection e0 with e1 e2
          refine .inr ⟨q1, rfl, ?_, ⟨k, t0, hp0, hl0, e1, e2⟩, fun i t hi hp hl => ?_⟩
          · rcases ih with ⟨h1, h2, h3⟩ | ⟨h1, h2, h3, h4, h5⟩
            · simp only at h2 ⊢
              rw [← h2]
              exact q2
            · simp only at h2 h3 ⊢
              omega
          · by_cases e : i = k
            · subst e
              exact q4 t hp hl
            · rcases ih with ⟨h1, h2, h3⟩ | ⟨h1, h2, h3, h4, h5⟩
              · have := h3 i t (by omega) hp hl
                simp only at h2 ⊢
                omega
              · have := h5 i t (by omega) hp hl
                simp only at h2 this ⊢
                omega

/-- An order by a key that grows along the chains. -/
theorem sorted_full {l : List Task} (hR : RightT l) (κ : Nat → Int) (hκ : ∀ i j, edge l i j → κ i < κ j) : ∃ y, Placed l y ∧ y.length = l.length ∧ y.Pairwise fun a b => κ a ≤ κ b := by
  have hperm := List.mergeSort_perm (List.range l.length) fun a b => decide (κ a ≤ κ b)
  have hsort : ((List.range l.length).mergeSort fun a b => decide (κ a ≤ κ b)).Pairwise fun a b => κ a ≤ κ b := by
    have := List.pairwise_mergeSort (le := fun a b : Nat => decide (κ a ≤ κ b)) (fun a b c h1 h2 => by simp only [decide_eq_true_eq] at *; omega) (fun a b => by simp only [Bool.or_eq_true, decide_eq_true_eq]; omega) (List.range l.length)
    exact this.imp (fun h => by simpa using h)
  generalize (List.range l.length).mergeSort (fun a b => decide (κ a ≤ κ b)) = y at *
  have hmem : ∀ i, i ∈ y ↔ i < l.length := fun i => by rw [hperm.mem_iff, List.mem_range]
  refine ⟨y, ⟨hperm.nodup_iff.2 List.nodup_range, fun i hi => (hmem i).1 hi, fun k hk => ?_⟩, by rw [hperm.length_eq, List.length_range], hsort⟩
  unfold readyB
  rw [List.all_eq_true]
  intro j hj
  rw [decide_eq_true_iff]
  have hi := (hmem _).1 (List.getElem_mem hk)
  have he := row_edge hR hi hj
  have hlt := hκ _ _ he
  obtain ⟨m, hm, e⟩ := List.mem_iff_getElem.1 ((hmem _).2 he.1)
  rw [List.mem_take_iff_getElem]
  by_cases h : m < k
  · exact ⟨m, by omega, e⟩
  · exfalso
    rw [← e] at hlt
    by_cases h2 : m = k
    · subst h2; omega
    · have := List.pairwise_iff_getElem.1 hsort k m hk hm (by omega)
      omega

section
variable {l : List Task} {c p : Int}
/-- The least is the length of the starts of an order; no order is shorter. -/
theorem least_is (hR : RightT l) (hc : 0 ≤ c ∧ 0 ≤ p) (hfit : l.any (tooMuch c p) = false) : (∃ y, Placed l y ∧ y.length = l.length ∧ leastN l c p = (lenTo l (listAll l c p y) l.length, listAll l c p y)) ∧
    ∀ y, Placed l y → y.length = l.length → (leastN l c p).1 ≤ lenTo l (listAll l c p y) l.length := by
  rw [least_fur hR hc hfit]
  have h := fur_char (c := c) (p := p) l.length [] (-1) (by simp) (Placed.nil l)
  simp only [List.nil_append] at h
  rcases h with ⟨-, h⟩ | ⟨-, -, h3, h4⟩
  · obtain ⟨y, hy, hl, -⟩ := sorted_full hR (upI l) fun i j he => by
      rw [up_eq hR he.2.1]
      have h1 := (maxOf_ge (f := upI l) (r := rowAt l j)).2 _ (edge_rowAt hR he)
      rw [Int.toNat_natCast] at h1
      have h2 : 1 ≤ lenAt l j := by rw [lenAt_eq he.2.1]; exact (fieldB_len (hR.field j he.2.1)).1
      omega
    have := (h y hy hl).1
    omega
  · exact ⟨h3, h4⟩

theorem lenTo_mono {s r : List Int} : ∀ k, (∀ i, i < k → atI r i ≤ atI s i) → lenTo l r k ≤ lenTo l s k
  | 0, _ => Int.le_refl _
  | k + 1, h => by
    have ih := lenTo_mono (s := s) (r := r) k (fun i hi => h i (by omega))
    have h1 := h k (by omega)
    unfold lenTo endN
    split <;> split <;> omega
/-- What all starts that keep the limits have. -/
theorem keeps_facts {s : List Int} (hlen : s.length = l.length) (hk : checkB l c p s = true) : (∀ i, i < l.length → ∀ k ∈ rowAt l i, endN l s k.toNat ≤ atI s i) ∧ ∀ i, i < l.length → fitsB l c p s (atI s i) = true := by
  rw [keeps_check hlen] at hk
  unfold keepsB at hk
  rw [Bool.and_eq_true, List.all_eq_true, List.all_eq_true] at hk
  refine ⟨fun i hi k hkr => ?_, fun i hi => hk.2 i (List.mem_range.2 hi)⟩
  have h := hk.1 i (List.mem_range.2 hi)
  rw [Bool.not_eq_true', List.any_eq_false] at h
  have := h k hkr
  unfold lateB at this
  simp at this
  omega
/-- While a task runs, the limits are kept. -/
theorem keeps_at (hR : RightT l) {s : List Int} (hs : ∀ i, i < l.length → 0 ≤ atI s i) (hf : ∀ i, i < l.length → fitsB l c p s (atI s i) = true) {t : Int} {i : Nat} (hi : i < l.length) (ho : onR l s t i = true) : usedTo Task.crew l s t l.length ≤ c ∧ usedTo Task.pow l s t l.length ≤ p := by
  have him : atI s i ∈ ((List.range l.length).filter fun j => onR l s t j).map (atI s) := List.mem_map.2 ⟨i, List.mem_filter.2 ⟨List.mem_range.2 hi, ho⟩, rfl⟩
  obtain ⟨m, hm, hmost⟩ := most_mem (((List.range l.length).filter fun j => onR l s t j).map (atI s)) (fun e => by rw [e] at him; cases him)
  obtain ⟨j, hj, rfl⟩ := List.mem_map.1 hm
  obtain ⟨hj1, hj2⟩ := List.mem_filter.1 hj
  have hjl := List.mem_range.1 hj1
  have hfj := hf j hjl
  unfold fitsB at hfj
  rw [Bool.and_eq_true, decide_eq_true_iff, decide_eq_true_iff] at hfj
  have hon : ∀ k, k < l.length → onB l s t k = true → onB l s (atI s j) k = true := fun k hk h => by
    rw [onB_of_nonneg (hs k hk)] at h ⊢
    have h1 := hmost (atI s k) (List.mem_map.2 ⟨k, List.mem_filter.2 ⟨List.mem_range.2 hk, h⟩, rfl⟩)
    rw [onR_iff] at h hj2 ⊢
    omega
  have h3 := usedTo_mono (fun i hi => (crew_bd hR i hi).1) l.length hon
  have h4 := usedTo_mono (fun i hi => (pow_bd hR i hi).1) l.length hon
  omega
/-- No starts that keep the limits are shorter than the least. -/
theorem least_opt (hR : RightT l) (hc : 0 ≤ c ∧ 0 ≤ p) (hfit : l.any (tooMuch c p) = false) {s : List Int} (hlen : s.length = l.length) (hs : ∀ i, i < l.length → 0 ≤ atI s i) (hk : checkB l c p s = true) : (leastN l c p).1 ≤ lenTo l s l.length := by
  obtain ⟨hrow, hfits⟩ := keeps_facts hlen hk
  have hln : ∀ i, i < l.length → 1 ≤ lenAt l i := fun i hi => by rw [lenAt_eq hi]; exact (fieldB_len (hR.field i hi)).1
  obtain ⟨y, hy, hyl, hsort⟩ := sorted_full hR (atI s) fun i j he => by
    have h1 := hrow j he.2.1 _ (edge_rowAt hR he)
    have h2 := hln i he.1
    rw [Int.toNat_natCast] at h1
    unfold endN at h1
    omega
  have H : ∀ k, k ≤ y.length → ∀ j ∈ y.take k, atI (listAll l c p (y.take k)) j ≤ atI s j := by
    intro k
    induction k with
    | zero => intro _ j hj; simp at hj
    | succ k ih =>
      intro hk1
      have ih := ih (by omega)
      have hkl : k < y.length := by omega
      have hPk := hy.take (k + 1)
      rw [take_snoc y k hkl] at hPk ⊢
      have hi := hy.lt _ (List.getElem_mem hkl)
      obtain ⟨hn, hiz⟩ := nodup_snocN hPk.nodup
      have hk' := Placed.keeps (c := c) (p := p) hR hc hfit _ rfl hPk.front
      have hrl := hk'.len
      have hbefore : ∀ j ∈ y.take k, atI s j ≤ atI s y[k] := fun j hj => by
        obtain ⟨m, hm, rfl⟩ := List.mem_iff_getElem.1 hj
        rw [List.getElem_take]
        rw [List.length_take] at hm
        exact List.pairwise_iff_getElem.1 hsort m k (by omega) hkl (by omega)
      have hrd := hPk.next.2.2.1
      have hrowz : ∀ j ∈ rowAt l y[k], j.toNat ∈ y.take k := fun j hj => by simpa using List.all_eq_true.1 hrd j hj
      generalize y[k] = i at *
      have hmem := fun j (hj : j ∈ y.take k) => hPk.front.lt j hj
      have hfirst : firstN l (listAll l c p (y.take k)) (rowAt l i) ≤ atI s i := firstN_le (hs i hi) fun j hj => by
        have h1 := hrow i hi j hj
        have h2 := ih _ (hrowz j hj)
        unfold endN at h1 ⊢
        omega
      have hfit' : fitsR l c p (listAll l c p (y.take k)) (y.take k) i (atI s i) = true := fits_of_all (hln i hi) fun x h1 h2 => by
        have hoi : onR l s x i = true := onR_iff.2 ⟨h1, h2⟩
        have hon : ∀ j ∈ y.take k, onR l (listAll l c p (y.take k)) x j = true → onR l s x j = true := fun j hj h => by
          rw [onR_iff] at h ⊢
          have h3 := ih j hj
          have h4 := hbefore j hj
          unfold endN at h ⊢
          omega
        have hat := keeps_at hR hs hfits hi hoi
        have h3 := usedY_mono (fun i hi => (crew_bd hR i hi).1) _ rfl hon
        have h4 := usedY_mono (fun i hi => (pow_bd hR i hi).1) _ rfl hon
        have h5 := usedY_le (f := Task.crew) (fun i hi => (crew_bd hR i hi).1) (t := x) hlen hs hPk.nodup hPk.lt
        have h6 := usedY_le (f := Task.pow) (fun i hi => (pow_bd hR i hi).1) (t := x) hlen hs hPk.nodup hPk.lt
        rw [usedY_append, if_pos hoi] at h5 h6
        rw [room_iff]
        omega
      have hle := early_le (c := c) (p := p) hR (hln i hi) (firstN_ge (l := l) (s := listAll l c p (y.take k)) (r := rowAt l i)).1 _ rfl hfirst hfit'
      intro j hj
      rw [listAll_snoc]
      rcases List.mem_append.1 hj with hj | hj
      · have hne : i ≠ j := fun e => hiz (by rw [e]; exact hj)
        rw [atI_set_ne hne]
        exact ih j hj
      · rw [List.mem_singleton.1 hj, atI_set_self (by omega)]
        exact hle
  have h1 := H y.length (Nat.le_refl _)
  rw [List.take_length] at h1
  have h2 := (least_is hR hc hfit).2 y hy hyl
  have h3 := lenTo_mono (l := l) (s := s) (r := listAll l c p y) l.length fun i hi => h1 i (hy.full hyl hi)
  omega
/-- The shortest starts keep the limits. -/
theorem least_keeps (hR : RightT l) (hc : 0 ≤ c ∧ 0 ≤ p) (hfit : l.any (tooMuch c p) = false) : checkB l c p (leastN l c p).2 = true ∧ (leastN l c p).2.length = l.length ∧ (∀ x ∈ (leastN l c p).2, 0 ≤ x ∧ x ≤ 80000) ∧ (leastN l c p).1 = lenTo l (leastN l c p).2 l.length := by
  obtain ⟨y, hy, hl, e⟩ := (least_is hR hc hfit).1
  obtain ⟨h1, h2, h3⟩ := hy.check hR hc hfit hl
  rw [e]
  exact ⟨h1, h2, h3, rfl⟩
/-- No schedule is shorter than a chain. -/
theorem up_le_len (hR : RightT l) {s : List Int} (hs : ∀ i, i < l.length → 0 ≤ atI s i) (hrow : ∀ i, i < l.length → ∀ k ∈ rowAt l i, endN l s k.toNat ≤ atI s i) : ∀ (z : List Nat) (i : Nat), Chain l (z ++ [i]) → sumAt l (z ++ [i]) ≤ endN l s i := by
  intro z
  generalize hn : z.length = n
  induction n generalizing z with
  | zero =>
    intro i h
    have : z = [] := List.length_eq_zero_iff.1 hn
    subst this
    have hi := h.1 i (by simp)
    have := hs i hi
    rw [sumAt_snoc, sumAt_nil]
    unfold endN
    omega
  | succ n ih =>
    intro i h
    have hne : z ≠ [] := fun e => by rw [e] at hn; simp at hn
    have hi := h.1 i (by simp)
    have he := h.last_edge hne
    have h1 := ih z.dropLast (by rw [List.length_dropLast]; omega) (z.getLast hne) (by rw [List.dropLast_concat_getLast hne]; exact h.front)
    rw [List.dropLast_concat_getLast hne] at h1
    have h2 := hrow i hi _ (edge_rowAt hR he)
    rw [Int.toNat_natCast] at h2
    rw [sumAt_snoc]
    unfold endN at h1 h2 ⊢
    omega
theorem lenTo_ge {s : List Int} : ∀ k, ∀ i, i < k → endN l s i ≤ lenTo l s k
  | 0, i, h => absurd h (by omega)
  | k + 1, i, h => by
    unfold lenTo
    by_cases e : i = k
    · subst e; split <;> omega
    · have := lenTo_ge (s := s) k i (by omega)
      split <;> omega
theorem upTo_le_len (hR : RightT l) {s : List Int} (hs : ∀ i, i < l.length → 0 ≤ atI s i) (hrow : ∀ i, i < l.length → ∀ k ∈ rowAt l i, endN l s k.toNat ≤ atI s i) : upTo l l.length ≤ lenTo l s l.length := by
  suffices H : ∀ k, k ≤ l.length → upTo l k ≤ lenTo l s l.length from H _ (Nat.le_refl _)
  intro k
  induction k with
  | zero =>
    intro _
    have : ∀ k, 0 ≤ lenTo l s k := fun k => by
      induction k with
      | zero => exact Int.le_refl _
      | succ k ih => unfold lenTo; split <;> omega
    exact this _
  | succ k ih =>
    intro hk
    have := ih (by omega)
    obtain ⟨z, hz, he⟩ := up_has hR k (by omega)
    have h1 := up_le_len hR hs hrow z k hz
    have h2 := lenTo_ge (l := l) (s := s) l.length k (by omega)
    rw [upTo]
    omega
end

end Go.Proofs.YtfcfphamecbcgaaGreat
