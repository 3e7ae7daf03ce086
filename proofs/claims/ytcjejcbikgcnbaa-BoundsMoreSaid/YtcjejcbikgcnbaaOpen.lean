/- An argument that is a slice of tasks, read as data, is a list of tasks in memory. -/
import Derived.Test.YtcjejcbikgcnbaaBase
import Derived.Deep.Slices
import Derived.Deep.Fields
import Derived.ChangeSame
import Derived.SliceStrings
import Derived.Below
namespace Go.Proofs.Ytcjejcbikgcnbaa
open Go.RowKit Go.Shelf Go.ChangeShapes Go.WideShapes Go.Deep

theorem add_none (b off k : Nat) : (Addr.mk b off none).add k = ⟨b, off + k, none⟩ := by
  unfold Addr.add
  split
  · rename_i h; subst h; rfl
  · rfl
theorem cell_lt {w : World} {a : Addr} {v : Value} (h : w.cell? a = some v) : a.block < w.heap.size := by
  unfold World.cell? at h
  split at h
  · rename_i c t z hh
    exact (Array.getElem?_eq_some_iff.1 hh).1
  · cases h
theorem spot_none {w : World} {b off : Nat} {s : Option Nat} {v : Value} (h : w.cell? ((Addr.mk b off s).add 0) = some v) : s = none := by
  simpa [Addr.add] using World.cell?_spot h

theorem list5 {α : Type} : ∀ {cs : List α}, cs.length = 5 → ∃ a b c d e, cs = [a, b, c, d, e]
  | [a, b, c, d, e], _ => ⟨a, b, c, d, e, rfl⟩

section
variable {H : Type} {enc : TypeId × Value → H} {w : World} {base : Nat} {spare : Nat → Bool} {held : Bool}

/-- A slice of strings that reads as data. -/
theorem strs_of_trod {fuel : Nat} {v : Value} {x : DataW H × List MemPlace} (h : DataW.trod enc Try.prog w base spare held fuel 25 [v] = some x) :
    ∃ l, StrsAt w w.heap.size v l ∧ (∀ s ∈ l, s.size ≤ maxLen) ∧ ∃ A c, v = .slice A l.length c := by
  rcases open_strings Try.underlying25 Try.underlying9 (by kernel_rfl) h with ⟨hcs, -⟩ | ⟨a, len, cap, ss, hcs, _, hl, hm, hlen, -, hcell, hsz⟩
  · obtain rfl : v = .slice none 0 0 := by simpa using hcs
    exact ⟨[], ⟨none, 0, rfl, Nat.le_refl _, Nat.zero_le _, fun h => absurd h (by simp)⟩, by simp, none, 0, rfl⟩
  · obtain rfl : v = .slice (some a) len cap := by simpa using hcs
    have hle : len ≤ ss.length := by rw [hlen]; split <;> omega
    have hll : (ss.take len).length = len := by rw [List.length_take]; omega
    refine ⟨ss.take len, ⟨some a, cap, by rw [hll], by rw [hll]; exact hl, hm, fun hn => ?_⟩, fun s hs => hsz s (List.mem_of_mem_take hs), some a, cap, by rw [hll]⟩
    rw [hll] at hn
    obtain ⟨b, off, sp⟩ := a
    have h0 := hcell 0 (by omega)
    obtain rfl := spot_none h0
    have hlt : b < w.heap.size := by simpa [add_none] using cell_lt h0
    refine ⟨b, off, rfl, hlt, fun j u hu => ?_⟩
    rw [List.getElem?_map, Option.map_eq_some_iff] at hu
    obtain ⟨s, hs, rfl⟩ := hu
    rw [List.getElem?_take] at hs
    split at hs
    · have hj : j < ss.length := (List.getElem?_eq_some_iff.1 hs).1
      have := hcell j hj
      rw [add_none] at this
      rw [this, List.getD_eq_getElem?_getD, hs]
      rfl
    · cases hs

theorem int_of_trod {fuel : Nat} {v : Value} {x : DataW H × List MemPlace} (h : DataW.trod enc Try.prog w base spare held fuel 3 [v] = some x) :
    ∃ n : Int, v = .int .i64 n ∧ -9223372036854775808 ≤ n ∧ n ≤ 9223372036854775807 := by
  obtain ⟨n, hv, -, hw⟩ := DataW.trod_int Try.underlying3 h
  simp [Lit.wf, IntKind.min, IntKind.max, IntKind.signed, IntKind.bits] at hw
  exact ⟨n, by simpa using hv, by omega, by omega⟩
theorem str_of_trod {fuel : Nat} {v : Value} {x : DataW H × List MemPlace} (h : DataW.trod enc Try.prog w base spare held fuel 9 [v] = some x) :
    ∃ s : ByteArray, v = .string s ∧ s.size ≤ maxLen := by
  obtain ⟨s, hv, -, hw⟩ := DataW.trod_string Try.underlying9 h
  exact ⟨s, by simpa using hv, hw⟩
end

instance : Inhabited Task := ⟨⟨⟨#[]⟩, 0, 0, 0, none, 0, []⟩⟩

theorem flat_at (l : List Task) (x : Nat) (u : Value) (hu : (l.flatMap Task.cells)[x]? = some u) : ∃ (hj : x / 5 < l.length), l[x / 5].cells[x % 5]? = some u := by
  have hlen : (l.flatMap Task.cells).length = l.length * 5 := by
    clear hu
    induction l with
    | nil => rfl
    | cons t l ih => rw [List.flatMap_cons, List.length_append, ih]; simp [Task.cells]; omega
  have hx := (List.getElem?_eq_some_iff.1 hu).1
  rw [hlen] at hx
  have hj : x / 5 < l.length := by omega
  refine ⟨hj, ?_⟩
  rw [← flat_get l (x / 5) (x % 5) hj (by omega), show x / 5 * 5 + x % 5 = x by omega]
  exact hu

section
variable {H : Type} {enc : TypeId × Value → H} {w : World} {base : Nat} {spare : Nat → Bool} {held : Bool}

/-- A slice of tasks that reads as data. -/
theorem tasks_of_trod {fuel : Nat} {v : Value} {x : DataW H × List MemPlace} (h : DataW.trod enc Try.prog w base spare held fuel 22 [v] = some x) :
    ∃ l, TasksAt w w.heap.size v l := by
  rcases open_slice Try.underlying22 h with ⟨hcs, -⟩ | ⟨a, len, cap, m, n, D, Pl, hcs, _, hl, hm, hmm, -, hi⟩
  · obtain rfl : v = .slice none 0 0 := by simpa using hcs
    exact ⟨[], ⟨none, 0, rfl, Nat.le_refl _, Nat.zero_le _, fun h => absurd h (by simp)⟩, by simp, by simp⟩
  · obtain rfl : v = .slice (some a) len cap := by simpa using hcs
    have hle : len ≤ m := by rw [hmm]; split <;> omega
    have hC : Try.prog.cellsOf 41 = 5 := by kernel_rfl
    rw [hC] at hi
    have each : ∀ i, i < len → ∃ t : Task, (∀ k u, t.cells[k]? = some u → w.cell? (a.add (i * 5 + k)) = some u) ∧ StrsAt w w.heap.size t.bv t.bef ∧ t.ok := fun i hil => by
      obtain ⟨cs, hc, ht⟩ := hi i (by omega)
      obtain ⟨ys, n', hn', hy, hlen, hyl, hf⟩ := DataW.trod_struct Try.underlying41 ht
      obtain ⟨_, hcl, hat⟩ := World.cells?_some hc
      obtain ⟨c0, c1, c2, c3, c4, rfl⟩ := list5 hcl
      obtain ⟨y0, y1, y2, y3, y4, rfl⟩ := list5 hyl
      have g0 : DataW.trod enc Try.prog w base spare held n' 9 (List.take (Try.prog.cellsOf 9) (List.drop 0 [c0, c1, c2, c3, c4])) = some y0 := hf 0 _ rfl
      have g1 : DataW.trod enc Try.prog w base spare held n' 3 (List.take (Try.prog.cellsOf 3) (List.drop 1 [c0, c1, c2, c3, c4])) = some y1 := hf 1 _ rfl
      have g2 : DataW.trod enc Try.prog w base spare held n' 3 (List.take (Try.prog.cellsOf 3) (List.drop 2 [c0, c1, c2, c3, c4])) = some y2 := hf 2 _ rfl
      have g3 : DataW.trod enc Try.prog w base spare held n' 3 (List.take (Try.prog.cellsOf 3) (List.drop 3 [c0, c1, c2, c3, c4])) = some y3 := hf 3 _ rfl
      have g4 : DataW.trod enc Try.prog w base spare held n' 25 (List.take (Try.prog.cellsOf 25) (List.drop 4 [c0, c1, c2, c3, c4])) = some y4 := hf 4 _ rfl
      rw [show Try.prog.cellsOf 9 = 1 from by kernel_rfl] at g0
      rw [show Try.prog.cellsOf 3 = 1 from by kernel_rfl] at g1 g2 g3
      rw [show Try.prog.cellsOf 25 = 1 from by kernel_rfl] at g4
      obtain ⟨nm, rfl, hnm⟩ := str_of_trod (v := c0) g0
      obtain ⟨ln, rfl, hln⟩ := int_of_trod (v := c1) g1
      obtain ⟨cr, rfl, hcr⟩ := int_of_trod (v := c2) g2
      obtain ⟨pw, rfl, hpw⟩ := int_of_trod (v := c3) g3
      obtain ⟨bf, hbf, hbs, A, c, rfl⟩ := strs_of_trod (v := c4) g4
      refine ⟨⟨nm, ln, cr, pw, A, c, bf⟩, fun k u hk => ?_, hbf, ⟨hnm, hbs, hln, hcr, hpw⟩⟩
      have hk5 : k < 5 := (List.getElem?_eq_some_iff.1 hk).1
      rw [← add_add, hat k hk5]
      exact hk
    obtain ⟨T, hT⟩ := choose_lt each
    have hL : ((List.range len).map T).length = len := by simp
    refine ⟨(List.range len).map T, ⟨some a, cap, by rw [hL], by rw [hL]; exact hl, hm, fun hn => ?_⟩, fun t ht => ?_, fun t ht => ?_⟩
    · rw [hL] at hn
      obtain ⟨b, off, sp⟩ := a
      have h0 := (hT 0 hn).1 0 _ rfl
      obtain rfl := spot_none h0
      have hlt : b < w.heap.size := by simpa [add_none] using cell_lt h0
      refine ⟨b, off, rfl, hlt, fun j u hu => ?_⟩
      obtain ⟨hj, hu'⟩ := flat_at _ _ _ hu
      rw [hL] at hj
      have := (hT _ hj).1 (j % 5) u (by simpa using hu')
      rw [add_none, show j / 5 * 5 + j % 5 = j by omega] at this
      exact this
    · simp only [List.mem_map, List.mem_range] at ht
      obtain ⟨i, hi, rfl⟩ := ht
      exact (hT i hi).2.1
    · simp only [List.mem_map, List.mem_range] at ht
      obtain ⟨i, hi, rfl⟩ := ht
      exact (hT i hi).2.2
end

end Go.Proofs.Ytcjejcbikgcnbaa
