/- BoundsMore: for every input the law returns true, and its arguments read as they did. -/
import Derived.Test.YtcjejcbikgcnbaaLawMore
import Derived.Test.YtcjejcbikgcnbaaOpenInts
namespace Go.Proofs.Ytcjejcbikgcnbaa
open Go.ChangeShapes Go.WideShapes Go.ChangeAt Go.RowKit Go.Deep

section
variable {H : Type} {enc : TypeId × Value → H} {w : World} {base : Nat} {spare : Nat → Bool} {held : Bool}
/-- A task by value that reads as data. -/
theorem task_of_trod {fuel : Nat} {cs : List Value} {x : DataW H × List MemPlace} (h : DataW.trod enc Try.prog w base spare held fuel 41 cs = some x) (hl : cs.length = 5) :
    ∃ t : Task, cs = t.cells ∧ StrsAt w w.heap.size t.bv t.bef ∧ t.ok := by
  obtain ⟨ys, n', hn', hy, hlen, hyl, hf⟩ := DataW.trod_struct Try.underlying41 h
  obtain ⟨c0, c1, c2, c3, c4, rfl⟩ := list5 hl
  obtain ⟨y0, y1, y2, y3, y4, rfl⟩ := list5 hyl
  have g0 : DataW.trod enc Try.prog w base spare held n' 9 (List.take (Try.prog.cellsOf 9) (List.drop 0 [c0, c1, c2, c3, c4])) = some y0 := hf 0 _ rfl
  have g1 : DataW.trod enc Try.prog w base spare held n' 3 (List.take (Try.prog.cellsOf 3) (List.drop 1 [c0, c1, c2, c3, c4])) = some y1 := hf 1 _ rfl
  have g2 : DataW.trod enc Try.prog w base spare held n' 3 (List.take (Try.prog.cellsOf 3) (List.drop 2 [c0, c1, c2, c3, c4])) = some y2 := hf 2 _ rfl
  have g3 : DataW.trod enc Try.prog w base spare held n' 3 (List.take (Try.prog.cellsOf 3) (List.drop 3 [c0, c1, c2, c3, c4])) = some y3 := hf 3 _ rfl
  have g4 : DataW.trod enc Try.prog w base spare held n' 25 (List.take (Try.prog.cellsOf 25) (List.drop 4 [c0, c1, c2, c3, c4])) = some y4 := hf 4 _ rfl
  rw [show Try.prog.cellsOf 9 = 1 from by kernel_rfl] at g0
  rw [show Try.prog.cellsOf 3 = 1 from by kernel_rfl] at g1 g2 g3
  rw [show Try.prog.cellsOf 25 = 1 from by kernel_rfl] at g4
  obtain ⟨nm, rfl, hnm⟩ := str_of_trod (v := c0) g0
  obtain ⟨ln, rfl, hln⟩ := int_of_trod (v := c1) g1
  obtain ⟨cr, rfl, hcr⟩ := int_of_trod (v := c2) g2
  obtain ⟨pw, rfl, hpw⟩ := int_of_trod (v := c3) g3
  obtain ⟨bf, hbf, hbs, A, c, rfl⟩ := strs_of_trod (v := c4) g4
  exact ⟨⟨nm, ln, cr, pw, A, c, bf⟩, rfl, hbf, ⟨hnm, hbs, hln, hcr, hpw⟩⟩
end
theorem byte_of_wf {y : Int} (h : (Lit.int .u8 y).wf = true) : 0 ≤ y ∧ y ≤ 255 := by
  simp [Lit.wf, IntKind.min, IntKind.max, IntKind.signed, IntKind.bits] at h
  omega

set_option maxRecDepth 100000 in
theorem boundsMore_lifted (os : Os) (started : os.Started) (H : Type) (enc : TypeId × Value → H) :
    ReturnsInHanded {} Try.checked os 5 .any (Rows.boundsMoreSpec.pre6 enc Try.prog Try.f5 Rows.boundsMoreRow.domain false) (Rows.boundsMoreSpec.post enc Try.prog Try.f5 false true false false) := by
  refine law_lifted started (by kernel_rfl) Try.func5 rfl (by kernel_rfl) ?_ ?_ (ChangeSpec.witness6 (enc := enc) (C := Try.checked) false ⟨#[], #[.slice none 0 0, .int .i64 0, .int .i64 0, .int .u8 0, .agg #[.string ⟨#[]⟩, .int .i64 0, .int .i64 0, .int .i64 0, .slice none 0 0]], []⟩ 8 (by kernel_rfl) (by kernel_rfl) (by kernel_rfl) (by kernel_rfl)) ?_
  · rw [Try.params5]
    intro t ht
    simp only [List.mem_cons, List.not_mem_nil, or_false] at ht
    rcases ht with rfl | rfl | rfl | rfl | rfl <;> exact ⟨by kernel_rfl, of_decide_eq_true (by kernel_rfl)⟩
  · intro ds hds
    match ds, hds with
    | [d1, d2, d3, d4, d5], _ => exact ⟨rfl, rfl, rfl⟩
  · intro W base args ds ps hval hA
    rw [Try.params5] at hA hval
    obtain ⟨v0, v1, v2, v3, v4, d0, d1, d2, d3, d4, p0, p1, p2, p3, p4, rfl, h0, h1, h2, h3, h4⟩ := trodAll_five hA
    obtain ⟨a0, len, cap, rfl⟩ := okWide_slice Try.underlying22 (hval 0 22 v0 rfl rfl)
    obtain ⟨c, rfl, -, -, -⟩ := open_int Try.underlying3 (hval 1 3 v1 rfl rfl) h1
    obtain ⟨p, rfl, -, -, -⟩ := open_int Try.underlying3 (hval 2 3 v2 rfl rfl) h2
    obtain ⟨y, rfl, -, -, wy⟩ := open_int Try.underlying5 (hval 3 5 v3 rfl rfl) h3
    obtain ⟨cs, rfl, hsz⟩ := okWide_struct Try.underlying41 (hval 4 41 v4 rfl rfl)
    obtain ⟨fuel, hf⟩ := h0
    obtain ⟨fuel4, hf4⟩ := h4
    obtain ⟨l, hl⟩ := tasks_of_trod hf
    rw [show Try.prog.cellsOf 41 = 5 from by kernel_rfl] at hsz
    obtain ⟨t, ht, hts, hto⟩ := task_of_trod (cs := cs.toList) hf4 (by simpa using hsz)
    have e : cs = t.cells.toArray := by rw [← ht]
    subst e
    exact lawBoundsMore _ l c p y t W hl (byte_of_wf wy) hts hto

theorem boundsMore_holds : Rows.BoundsMoreSaid :=
  OpenClaim.holds_of_wide 5 Try.f5 rfl rfl rfl rfl rfl rfl rfl ⟨rfl, rfl, rfl, rfl, rfl⟩ rfl rfl rfl rfl rfl (by kernel_rfl) Try.func5 (by kernel_rfl)
    (of_decide_eq_true (by kernel_rfl)) (by unfold Func.isWrapper; first | (rw [if_pos (by decide +kernel)]; kernel_rfl) | (rw [if_neg (by decide +kernel)]; exact ⟨rfl, rfl⟩))
    (fun os started H enc _ => boundsMore_lifted os started H enc)
#print axioms boundsMore_holds

end Go.Proofs.Ytcjejcbikgcnbaa
