/- An argument that is a slice of ints; five and six arguments. -/
import Derived.Test.YtcjejcbikgcnbaaRow
import Derived.Test.YtcjejcbikgcnbaaGiven43
namespace Go.Proofs.Ytcjejcbikgcnbaa
open Go.RowKit Go.Shelf Go.ChangeShapes Go.WideShapes Go.Deep

section
variable {H : Type} {enc : TypeId × Value → H} {w : World} {base : Nat} {spare : Nat → Bool} {held : Bool}
theorem ints_of_trod {fuel : Nat} {v : Value} {x : DataW H × List MemPlace} (h : DataW.trod enc Try.prog w base spare held fuel 29 [v] = some x) :
    ∃ s : List Int, IntsAt w w.heap.size v s ∧ Wide s := by
  rcases open_slice1 Try.underlying29 (by kernel_rfl) h with ⟨hcs, -⟩ | ⟨a, len, cap, m, n, V, D, Pl, hcs, _, hl, hm, hmm, -, hi⟩
  · obtain rfl : v = .slice none 0 0 := by simpa using hcs
    exact ⟨[], ⟨none, 0, rfl, Nat.le_refl _, Nat.zero_le _, fun h => absurd h (by simp)⟩, by simp [Wide]⟩
  · obtain rfl : v = .slice (some a) len cap := by simpa using hcs
    have hle : len ≤ m := by rw [hmm]; split <;> omega
    have each : ∀ i, i < len → ∃ z : Int, w.cell? (a.add i) = some (.int .i64 z) ∧ -9223372036854775808 ≤ z ∧ z ≤ 9223372036854775807 := fun i hil => by
      obtain ⟨h1, h2⟩ := hi i (by omega)
      obtain ⟨z, hz, hb1, hb2⟩ := int_of_trod h2
      exact ⟨z, by rw [h1, hz], hb1, hb2⟩
    obtain ⟨Z, hZ⟩ := choose_lt each
    have hL : ((List.range len).map Z).length = len := by simp
    refine ⟨(List.range len).map Z, ⟨some a, cap, by rw [hL], by rw [hL]; exact hl, hm, fun hn => ?_⟩, fun z hz => ?_⟩
    · rw [hL] at hn
      obtain ⟨b, off, sp⟩ := a
      have h0 := (hZ 0 hn).1
      obtain rfl := spot_none h0
      have hlt : b < w.heap.size := by simpa [add_none] using cell_lt h0
      refine ⟨b, off, rfl, hlt, fun j u hu => ?_⟩
      rw [List.getElem?_map, Option.map_eq_some_iff] at hu
      obtain ⟨z, hz, rfl⟩ := hu
      have hj : j < len := by have := (List.getElem?_eq_some_iff.1 hz).1; simpa using this
      have hz' : Z j = z := by simpa [hj] using hz
      have := (hZ j hj).1
      rw [add_none, hz'] at this
      exact this
    · simp only [List.mem_map, List.mem_range] at hz
      obtain ⟨i, hi, rfl⟩ := hz
      exact (hZ i hi).2
end

section
variable {H : Type} {enc : TypeId × Value → H} {P : Program} {w : World} {base : Nat} {spare : Nat → Bool} {held : Bool}
theorem trodAll_five {t0 t1 t2 t3 t4 : TypeId} {args : Array Value} {ds : List (DataW H)} {ps : List MemPlace} (h : DataW.TrodAll enc P w base spare held [t0, t1, t2, t3, t4] args.toList ds ps) :
    ∃ v0 v1 v2 v3 v4 d0 d1 d2 d3 d4 p0 p1 p2 p3 p4, args = #[v0, v1, v2, v3, v4] ∧ DataW.Trod enc P w base spare held t0 v0 d0 p0 ∧ DataW.Trod enc P w base spare held t1 v1 d1 p1 ∧
      DataW.Trod enc P w base spare held t2 v2 d2 p2 ∧ DataW.Trod enc P w base spare held t3 v3 d3 p3 ∧ DataW.Trod enc P w base spare held t4 v4 d4 p4 := by
  obtain ⟨v0, vs, d0, ds', p0, q, hargs, rfl, rfl, h0, hrest⟩ := trodAll_cons h
  obtain ⟨v1, vs', d1, ds'', p1, q', rfl, rfl, rfl, h1, hrest'⟩ := trodAll_cons hrest
  obtain ⟨v2, vs'', d2, ds3, p2, q'', rfl, rfl, rfl, h2, hrest''⟩ := trodAll_cons hrest'
  obtain ⟨v3, vs3, d3, ds4, p3, q3, rfl, rfl, rfl, h3, hrest3⟩ := trodAll_cons hrest''
  obtain ⟨v4, vs4, d4, ds5, p4, q4, rfl, rfl, rfl, h4, hrest4⟩ := trodAll_cons hrest3
  obtain ⟨rfl, rfl, rfl⟩ := trodAll_nil hrest4
  exact ⟨v0, v1, v2, v3, v4, d0, d1, d2, d3, d4, p0, p1, p2, p3, p4, by cases args; simp_all, h0, h1, h2, h3, h4⟩
end

end Go.Proofs.Ytcjejcbikgcnbaa
