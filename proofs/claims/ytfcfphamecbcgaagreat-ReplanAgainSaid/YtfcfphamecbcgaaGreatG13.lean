/- Parts of the proof, laid into one text: Sub. -/
import Derived.Test.YtfcfphamecbcgaaGreatG10
import Derived.Test.YtfcfphamecbcgaaGreatG3
import Derived.Test.YtfcfphamecbcgaaGreatG5
import Derived.Test.YtfcfphamecbcgaaGreatG6
import Derived.Test.YtfcfphamecbcgaaGreatG7
import Derived.Test.YtfcfphamecbcgaaGreatG9

/- Some of the tasks: what is right stays right, and starts that keep the limits keep them. No program in sight. -/
namespace Go.Proofs.YtfcfphamecbcgaaGreat
open Go.RowKit Go.Shelf

theorem used_all {l : List Task} {c p : Int} (hR : RightT l) (hc : 0 ≤ c ∧ 0 ≤ p) {s : List Int} (hs : ∀ i, i < l.length → 0 ≤ atI s i) (hf : ∀ i, i < l.length → fitsB l c p s (atI s i) = true) (t : Int) : usedTo Task.crew l s t l.length ≤ c ∧ usedTo Task.pow l s t l.length ≤ p := by
  by_cases h : ∃ i, i < l.length ∧ onB l s t i = true
  · obtain ⟨i, hi, ho⟩ := h
    rw [onB_of_nonneg (hs i hi)] at ho
    exact keeps_at hR hs hf hi ho
  · have hno : ∀ j, j < l.length → onB l s t j = false := fun j hj => by
      cases hb : onB l s t j with
      | false => rfl
      | true => exact absurd ⟨j, hj, hb⟩ h
    rw [usedTo_none _ hno, usedTo_none _ hno]
    exact hc
theorem lenTo_ge0 {l : List Task} {s : List Int} : ∀ k, 0 ≤ lenTo l s k
  | 0 => Int.le_refl _
  | k + 1 => by
    have := lenTo_ge0 (l := l) (s := s) k
    unfold lenTo
    split <;> omega

/-- The task with an index. -/
def tk (l : List Task) (i : Nat) : Task := l.getD i default
theorem tk_get {l : List Task} {i : Nat} (h : i < l.length) : tk l i = l[i] := by unfold tk; rw [List.getD_eq_getElem?_getD, List.getElem?_eq_getElem h]; rfl
theorem tk_len {l : List Task} {i : Nat} (h : i < l.length) : lenAt l i = (tk l i).len := by rw [tk_get h, lenAt_eq h]
theorem tk_f {f : Task → Int} {l : List Task} {i : Nat} (h : i < l.length) : fAt f l i = f (tk l i) := by rw [tk_get h, fAt_get h]
/-- The a-th of a list of indices. -/
def zAt (z : List Nat) (a : Nat) : Nat := z.getD a 0
theorem zAt_get {z : List Nat} {a : Nat} (h : a < z.length) : zAt z a = z[a] := by unfold zAt; rw [List.getD_eq_getElem?_getD, List.getElem?_eq_getElem h]; rfl
theorem zAt_mem {z : List Nat} {a : Nat} (h : a < z.length) : zAt z a ∈ z := by rw [zAt_get h]; exact List.getElem_mem h

/-- The tasks m are those of l with the indices z, perhaps shorter; they wait for those among them for which they waited. -/
structure SubT (l : List Task) (z : List Nat) (m : List Task) : Prop where
  len : m.length = z.length
  nd : z.Nodup
  lt : ∀ i ∈ z, i < l.length
  name : ∀ a, a < z.length → (tk m a).name = (tk l (zAt z a)).name
  crew : ∀ a, a < z.length → (tk m a).crew = (tk l (zAt z a)).crew
  pow : ∀ a, a < z.length → (tk m a).pow = (tk l (zAt z a)).pow
  ln : ∀ a, a < z.length → 1 ≤ (tk m a).len ∧ (tk m a).len ≤ (tk l (zAt z a)).len
  befnd : ∀ a, a < z.length → (tk m a).bef.Nodup
  bef : ∀ a, a < z.length → ∀ s, s ∈ (tk m a).bef ↔ s ∈ (tk l (zAt z a)).bef ∧ ∃ b, b < z.length ∧ (tk l (zAt z b)).name = s
section
variable {l m : List Task} {z : List Nat}
theorem SubT.zlt (h : SubT l z m) {a : Nat} (ha : a < z.length) : zAt z a < l.length := h.lt _ (zAt_mem ha)
theorem SubT.short (h : SubT l z m) : z.length ≤ l.length := by
  have := List.Nodup.length_le_of_subset h.nd (l₂ := List.range l.length) (fun i hi => List.mem_range.2 (h.lt i hi))
  simpa using this
theorem zAt_inj {z : List Nat} (hn : z.Nodup) {a b : Nat} (ha : a < z.length) (hb : b < z.length) (e : zAt z a = zAt z b) : a = b := by
  rw [zAt_get ha, zAt_get hb] at e
  have hp := List.pairwise_iff_getElem.1 hn
  rcases Nat.lt_trichotomy a b with h | h | h
  · exact absurd e (hp a b ha hb h)
  · exact h
  · exact absurd e.symm (hp b a hb ha h)
theorem SubT.dist (hR : RightT l) (h : SubT l z m) : distinct m = true := by
  unfold distinct
  rw [decide_eq_true_iff, List.nodup_iff_pairwise_ne, List.pairwise_iff_getElem]
  intro a b ha hb hab e
  have ha' : a < m.length := by simpa [names] using ha
  have hb' : b < m.length := by simpa [names] using hb
  have hl := h.len
  have e' : (tk m a).name = (tk m b).name := by
    rw [tk_get ha', tk_get hb']
    simpa [names] using e
  rw [h.name a (by omega), h.name b (by omega), tk_get (h.zlt (by omega)), tk_get (h.zlt (by omega))] at e'
  have := zAt_inj h.nd (by omega) (by omega) (distinct_inj hR.dist (h.zlt (by omega)) (h.zlt (by omega)) e')
  omega
theorem SubT.names (h : SubT l z m) {s : ByteArray} : s ∈ Proofs.YtfcfphamecbcgaaGreat.names m ↔ ∃ b, b < z.length ∧ (tk l (zAt z b)).name = s := by
  have hl := h.len
  rw [mem_names]
  constructor
  · rintro ⟨i, hi, e⟩
    exact ⟨i, by omega, by rw [← h.name i (by omega), tk_get hi]; exact e⟩
  · rintro ⟨b, hb, e⟩
    exact ⟨b, by omega, by rw [← e, ← h.name b hb, tk_get (by omega)]⟩
theorem SubT.pl (hR : RightT l) (h : SubT l z m) {b : Nat} (hb : b < z.length) : Proofs.YtfcfphamecbcgaaGreat.pl m (tk l (zAt z b)).name = (b : Int) := by
  have hl := h.len
  rw [← h.name b hb, tk_get (show b < m.length by omega)]
  exact pl_name (h.dist hR) (by omega)
theorem row_tk (l : List Task) {i : Nat} (hi : i < l.length) : rowAt l i = pls l (tk l i).bef := by
  rw [tk_get hi]
  exact getD_rows hi
/-- Who waits for whom. -/
theorem SubT.row (hR : RightT l) (h : SubT l z m) {a : Nat} (ha : a < z.length) {k : Int} (hk : k ∈ rowAt m a) : ∃ b, b < z.length ∧ k = (b : Int) ∧ ((zAt z b : Nat) : Int) ∈ rowAt l (zAt z a) := by
  have hl := h.len
  rw [row_tk m (by omega)] at hk
  unfold pls at hk
  obtain ⟨s, hs, rfl⟩ := List.mem_map.1 hk
  obtain ⟨h1, b, hb, rfl⟩ := (h.bef a ha s).1 hs
  refine ⟨b, hb, h.pl hR hb, ?_⟩
  rw [row_tk l (h.zlt ha)]
  unfold pls
  refine List.mem_map.2 ⟨_, h1, ?_⟩
  rw [tk_get (h.zlt hb)]
  exact pl_name hR.dist (h.zlt hb)
theorem SubT.row' (hR : RightT l) (h : SubT l z m) {a b : Nat} (ha : a < z.length) (hb : b < z.length) (hk : ((zAt z b : Nat) : Int) ∈ rowAt l (zAt z a)) : (b : Int) ∈ rowAt m a := by
  have hl := h.len
  rw [row_tk l (h.zlt ha)] at hk
  unfold pls at hk
  obtain ⟨s, hs, e⟩ := List.mem_map.1 hk
  have hsn := (((befOK_iff l).1 hR.bef _ (List.getElem_mem (h.zlt ha))).2 s (by rw [← tk_get (h.zlt ha)]; exact hs)).1
  obtain ⟨i, hi, e1, e2⟩ := pl_mem hsn
  have hiz : i = zAt z b := by omega
  subst hiz
  rw [row_tk m (by omega)]
  unfold pls
  refine List.mem_map.2 ⟨s, (h.bef a ha s).2 ⟨hs, b, hb, by rw [tk_get hi]; exact e2⟩, ?_⟩
  have := h.pl hR hb
  rw [tk_get hi, e2] at this
  exact this
theorem SubT.right (hR : RightT l) (h : SubT l z m) : RightT m := by
  have hl := h.len
  have h8 := hR.len
  have hsh := h.short
  refine ⟨⟨by omega, fun a ha => ?_, h.dist hR, ?_⟩, ?_⟩
  · have ha' : a < z.length := by omega
    have hf := hR.field _ (h.zlt ha')
    have hn := h.name a ha'
    have hc := h.crew a ha'
    have hp := h.pow a ha'
    have hln := h.ln a ha'
    rw [tk_get ha, tk_get (h.zlt ha')] at hn hc hp hln
    unfold fieldB betweenB at hf ⊢
    rw [hn, hc, hp]
    simp only [Bool.and_eq_true, decide_eq_true_iff] at hf ⊢
    exact ⟨⟨⟨hf.1.1.1, by omega⟩, hf.1.2⟩, hf.2⟩
  · rw [befOK_iff]
    intro t ht
    obtain ⟨a, ha, rfl⟩ := List.mem_iff_getElem.1 ht
    have ha' : a < z.length := by omega
    rw [← tk_get ha]
    refine ⟨h.befnd a ha', fun s hs => ?_⟩
    obtain ⟨h1, h2⟩ := (h.bef a ha' s).1 hs
    refine ⟨h.names.2 h2, ?_⟩
    rw [h.name a ha']
    have := (((befOK_iff l).1 hR.bef _ (List.getElem_mem (h.zlt ha'))).2 s (by rw [← tk_get (h.zlt ha')]; exact h1)).2
    rw [tk_get (h.zlt ha')]
    exact this
  · obtain ⟨rank, hr⟩ := hR.acyc
    refine ⟨fun a => rank (zAt z a), fun a ha j hj => ?_⟩
    obtain ⟨b, hb, rfl, hrow⟩ := h.row hR (by omega) hj
    have := hr _ (h.zlt (show a < z.length by omega)) _ hrow
    simpa using this

/-! ### What is needed at a time -/
theorem SubT.fCrew (h : SubT l z m) {a : Nat} (ha : a < z.length) : fAt Task.crew m a = fAt Task.crew l (zAt z a) := by
  have hl := h.len
  rw [tk_f (by omega), tk_f (h.zlt ha), h.crew a ha]
theorem SubT.fPow (h : SubT l z m) {a : Nat} (ha : a < z.length) : fAt Task.pow m a = fAt Task.pow l (zAt z a) := by
  have hl := h.len
  rw [tk_f (by omega), tk_f (h.zlt ha), h.pow a ha]
/-- What some tasks need is what the same ones need among all, if they run at the same times. -/
theorem used_sub {f : Task → Int} {l m : List Task} {z : List Nat} {s r : List Int} {t t' : Int} : ∀ k, k ≤ z.length → (∀ a, a < k → onB m s t a = onR l r t' (zAt z a) ∧ fAt f m a = fAt f l (zAt z a)) → usedTo f m s t k = usedY f l r t' (z.take k)
  | 0, _, _ => rfl
  | k + 1, hk, h => by
    have ih := used_sub k (by omega) fun a ha => h a (by omega)
    obtain ⟨h1, h2⟩ := h k (by omega)
    rw [usedTo, ih, usedY_snoc (show k < z.length by omega), h1, h2, zAt_get (show k < z.length by omega)]
theorem used_subL {f : Task → Int} {l m : List Task} {z : List Nat} {s r : List Int} {t t' : Int} (hf : ∀ i, i < l.length → 0 ≤ fAt f l i) : ∀ k, k ≤ z.length → (∀ a, a < k → (onB m s t a = true → onR l r t' (zAt z a) = true) ∧ fAt f m a = fAt f l (zAt z a)) → usedTo f m s t k ≤ usedY f l r t' (z.take k)
  | 0, _, _ => Int.le_refl _
  | k + 1, hk, h => by
    have ih := used_subL hf k (by omega) fun a ha => h a (by omega)
    obtain ⟨h1, h2⟩ := h k (by omega)
    have h0 := fAt_nonneg hf (zAt z k)
    rw [usedTo, usedY_snoc (show k < z.length by omega), h2, ← zAt_get (show k < z.length by omega)]
    cases hq : onB m s t k with
    | true => rw [h1 hq]; simpa using ih
    | false =>
      rw [if_neg (by simp)]
      split <;> omega
/-- The starts of some tasks. -/
def pickS (s : List Int) (z : List Nat) : List Int := z.map (atI s)
theorem atI_pick {s : List Int} {z : List Nat} {a : Nat} (ha : a < z.length) : atI (pickS s z) a = atI s (zAt z a) := by
  unfold pickS
  rw [atI_get (by simpa using ha), zAt_get ha]
  simp
theorem lenTo_le {l : List Task} {s : List Int} {M : Int} (hM : 0 ≤ M) : ∀ k, (∀ i, i < k → endN l s i ≤ M) → lenTo l s k ≤ M
  | 0, _ => hM
  | k + 1, h => by
    have h1 := lenTo_le hM k fun i hi => h i (by omega)
    have h2 := h k (by omega)
    unfold lenTo
    split <;> omega
/-- Starts that keep the limits keep them for some of the tasks. -/
theorem SubT.keeps (hR : RightT l) (h : SubT l z m) {c p : Int} (hc : 0 ≤ c ∧ 0 ≤ p) {s : List Int} (hlen : s.length = l.length) (hs : ∀ i, i < l.length → 0 ≤ atI s i) (hk : checkB l c p s = true) : checkB m c p (pickS s z) = true := by
  have hl := h.len
  have hlp : (pickS s z).length = m.length := by unfold pickS; rw [List.length_map, hl]
  obtain ⟨hrow, hfit⟩ := keeps_facts hlen hk
  have hend : ∀ a, a < z.length → endN m (pickS s z) a ≤ endN l s (zAt z a) := fun a ha => by
    have := (h.ln a ha).2
    unfold endN
    rw [atI_pick ha, tk_len (by omega), tk_len (h.zlt ha)]
    omega
  rw [keeps_check hlp]
  unfold keepsB
  rw [Bool.and_eq_true, List.all_eq_true, List.all_eq_true]
  refine ⟨fun a ha => ?_, fun a ha => ?_⟩
  · have ha' : a < z.length := by have := List.mem_range.1 ha; omega
    rw [Bool.not_eq_true', List.any_eq_false]
    intro k hkr
    obtain ⟨b, hb, rfl, hrb⟩ := h.row hR ha' hkr
    have h1 := hrow _ (h.zlt ha') _ hrb
    have h2 := hend b hb
    rw [Int.toNat_natCast] at h1
    unfold lateB
    rw [Int.toNat_natCast, atI_pick ha']
    simp
    omega
  · have ha' : a < z.length := by have := List.mem_range.1 ha; omega
    have hu : ∀ (f : Task → Int), (∀ i, i < l.length → 0 ≤ fAt f l i) → (∀ a, a < z.length → fAt f m a = fAt f l (zAt z a)) → usedTo f m (pickS s z) (atI (pickS s z) a) m.length ≤ usedTo f l s (atI (pickS s z) a) l.length := fun f hf he => by
      have h1 := used_subL (m := m) (z := z) (s := pickS s z) (r := s) (t := atI (pickS s z) a) (t' := atI (pickS s z) a) hf z.length (Nat.le_refl _) fun b hb => ⟨fun ho => by
        unfold onB at ho
        simp only [Bool.and_eq_true, decide_eq_true_iff] at ho
        have h2 := hend b hb
        rw [onR_iff, ← atI_pick hb]
        exact ⟨ho.1.2, by omega⟩, he b hb⟩
      have h2 := usedY_le hf (t := atI (pickS s z) a) hlen hs h.nd h.lt
      rw [List.take_length] at h1
      rw [hl]
      omega
    have hc' := hu Task.crew (fun i hi => (crew_bd hR i hi).1) fun b hb => h.fCrew hb
    have hp' := hu Task.pow (fun i hi => (pow_bd hR i hi).1) fun b hb => h.fPow hb
    have hle := used_all hR hc hs hfit (atI (pickS s z) a)
    unfold fitsB
    rw [Bool.and_eq_true, decide_eq_true_iff, decide_eq_true_iff]
    omega
theorem SubT.any (h : SubT l z m) {c p : Int} (hfit : l.any (tooMuch c p) = false) : m.any (tooMuch c p) = false := by
  have hl := h.len
  rw [List.any_eq_false] at hfit ⊢
  intro t ht
  obtain ⟨a, ha, rfl⟩ := List.mem_iff_getElem.1 ht
  have ha' : a < z.length := by omega
  have := hfit _ (List.getElem_mem (h.zlt ha'))
  have hc := h.crew a ha'
  have hp := h.pow a ha'
  rw [tk_get ha, tk_get (h.zlt ha')] at hc hp
  unfold tooMuch at this ⊢
  rw [hc, hp]
  exact this
theorem pick_bd {s : List Int} {n : Nat} {z : List Nat} {M : Int} (hlen : s.length = n) (hlt : ∀ i ∈ z, i < n) (h : ∀ x ∈ s, 0 ≤ x ∧ x ≤ M) : ∀ x ∈ pickS s z, 0 ≤ x ∧ x ≤ M := fun x hx => by
  unfold pickS at hx
  obtain ⟨i, hi, rfl⟩ := List.mem_map.1 hx
  have := hlt i hi
  rw [atI_get (by omega)]
  exact h _ (List.getElem_mem _)
/-- Fewer tasks, perhaps shorter ones, never take longer. -/
theorem SubT.least (hR : RightT l) (h : SubT l z m) {c p : Int} (hc : 0 ≤ c ∧ 0 ≤ p) (hfit : l.any (tooMuch c p) = false) : (leastN m c p).1 ≤ (leastN l c p).1 := by
  have hl := h.len
  obtain ⟨h1, h2, h3, h4⟩ := least_keeps hR hc hfit
  have hs : ∀ i, i < l.length → 0 ≤ atI (leastN l c p).2 i := fun i hi => by rw [atI_get (by omega)]; exact (h3 _ (List.getElem_mem _)).1
  have hk := h.keeps hR hc h2 hs h1
  have hsp : ∀ a, a < m.length → 0 ≤ atI (pickS (leastN l c p).2 z) a := fun a ha => by
    rw [atI_pick (by omega)]
    exact hs _ (h.zlt (by omega))
  have hle := least_opt (h.right hR) hc (h.any hfit) (by unfold pickS; rw [List.length_map, hl]) hsp hk
  have := lenTo_le (l := m) (s := pickS (leastN l c p).2 z) (M := (leastN l c p).1) (by rw [h4]; exact lenTo_ge0 _) m.length fun a ha => by
    have h5 := (h.ln a (by omega)).2
    have h6 := lenTo_ge (l := l) (s := (leastN l c p).2) l.length _ (h.zlt (show a < z.length by omega))
    rw [← h4] at h6
    unfold endN at h6 ⊢
    rw [atI_pick (by omega), tk_len ha]
    rw [tk_len (h.zlt (by omega))] at h6
    omega
  omega
end

/-! ### All but one -/
/-- The tasks with these indices. -/
def pickT (l : List Task) (z : List Nat) : List Task := z.map (tk l)
theorem tk_pick {l : List Task} {z : List Nat} {a : Nat} (ha : a < z.length) : tk (pickT l z) a = tk l (zAt z a) := by
  unfold pickT
  rw [tk_get (by simpa using ha), zAt_get ha]
  simp
/-- A part that is closed: all for which its tasks wait are in it. -/
theorem sub_pick {l : List Task} {z : List Nat} (hR : RightT l) (hn : z.Nodup) (hlt : ∀ i ∈ z, i < l.length) (hcl : ∀ i ∈ z, ∀ k ∈ rowAt l i, k.toNat ∈ z) : SubT l z (pickT l z) := by
  have hz : ∀ a, a < z.length → zAt z a < l.length := fun a ha => hlt _ (zAt_mem ha)
  refine ⟨by simp [pickT], hn, hlt, fun a ha => by rw [tk_pick ha], fun a ha => by rw [tk_pick ha], fun a ha => by rw [tk_pick ha], fun a ha => ?_, fun a ha => ?_, fun a ha s => ?_⟩
  · rw [tk_pick ha, tk_get (hz a ha)]
    exact ⟨(fieldB_len (hR.field _ (hz a ha))).1, Int.le_refl _⟩
  · rw [tk_pick ha, tk_get (hz a ha)]
    exact ((befOK_iff l).1 hR.bef _ (List.getElem_mem (hz a ha))).1
  · rw [tk_pick ha]
    refine ⟨fun hs => ⟨hs, ?_⟩, fun hs => hs.1⟩
    have hs' := hs
    rw [tk_get (hz a ha)] at hs'
    obtain ⟨i, hi, e1, e2⟩ := pl_mem (((befOK_iff l).1 hR.bef _ (List.getElem_mem (hz a ha))).2 s hs').1
    have hmem := hcl _ (zAt_mem ha) (i : Int) (by rw [row_tk l (hz a ha)]; unfold pls; exact List.mem_map.2 ⟨s, hs, e1⟩)
    rw [Int.toNat_natCast] at hmem
    obtain ⟨b, hb, e⟩ := List.mem_iff_getElem.1 hmem
    exact ⟨b, hb, by rw [zAt_get hb, e, tk_get hi]; exact e2⟩

end Go.Proofs.YtfcfphamecbcgaaGreat
