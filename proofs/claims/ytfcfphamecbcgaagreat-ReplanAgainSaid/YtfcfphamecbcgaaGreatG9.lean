/- Parts of the proof, laid into one text: RefKeeps. -/
import Derived.Test.YtfcfphamecbcgaaGreatG4
import Derived.Test.YtfcfphamecbcgaaGreatG6

/- the reference's Keeps. -/
namespace Go.Proofs.YtfcfphamecbcgaaGreat
open Go.RowKit Go.Shelf

/-- By the reference, starts keep the limits. -/
def keepsB (l : List Task) (c p : Int) (s : List Int) : Bool := (List.range l.length).all (fun i => !(rowAt l i).any (lateB l s i)) && (List.range l.length).all (fun i => fitsB l c p s (atI s i))
theorem keeps_check {l : List Task} {c p : Int} {s : List Int} (hlen : s.length = l.length) : checkB l c p s = keepsB l c p s := by
  unfold checkB keepsB
  rw [Bool.eq_iff_iff]
  simp only [Bool.and_eq_true, List.all_eq_true, List.mem_range]
  constructor
  · intro h
    refine ⟨fun i hi => ?_, fun i hi => ?_⟩
    · have := h i hi
      unfold stepOkB at this
      rw [Bool.and_eq_true] at this
      exact this.2
    · have := h i hi
      unfold stepOkB wholeB at this
      rw [Bool.and_eq_true, Bool.and_eq_true] at this
      exact this.1.1
  · rintro ⟨h1, h2⟩ i hi
    unfold stepOkB wholeB
    rw [Bool.and_eq_true, Bool.and_eq_true]
    refine ⟨⟨h2 i hi, ?_⟩, h1 i hi⟩
    rw [Bool.not_eq_true', List.any_eq_false]
    intro x hx
    obtain ⟨k, hk, rfl⟩ := List.mem_iff_getElem.1 hx
    have := h2 k (by omega)
    rw [atI_get hk] at this
    unfold badB
    rw [this]
    simp
theorem usedY_all {f : Task → Int} {l : List Task} {s : List Int} {t : Int} (hs : ∀ i, i < l.length → 0 ≤ atI s i) : ∀ k, k ≤ l.length → usedY f l s t (List.range k) = usedTo f l s t k
  | 0, _ => rfl
  | k + 1, hk => by
    rw [List.range_succ, usedY_append, usedY_all hs k (by omega), usedTo]
    have : onB l s t k = onR l s t k := by
      unfold onB Proofs.YtfcfphamecbcgaaGreat.onR
      rw [decide_eq_true (hs k (by omega)), Bool.true_and]
    rw [this]
theorem nats_range (k : Nat) : nats (List.range (k + 1)) = nats (List.range k) ++ [.int .i64 (k : Int)] := by rw [List.range_succ, nats_snoc]

end Go.Proofs.YtfcfphamecbcgaaGreat
