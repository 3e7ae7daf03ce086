/- The fields of a task that both texts test alike. -/
import Derived.Test.YtcjejcbikgcnbaaBefore
import Derived.Test.YtcjejcbikgcnbaaNames
namespace Go.Proofs.Ytcjejcbikgcnbaa
open Go.RowKit Go.Shelf Go.WideMaps Go.Maps

def fieldB (t : Task) : Bool := nameB t.name && betweenB t.len 1 10000 && betweenB t.crew 0 100 && betweenB t.pow 0 100
theorem fieldB_len {t : Task} (h : fieldB t = true) : 1 ≤ t.len ∧ t.len ≤ 10000 := by
  unfold fieldB betweenB at h
  simp only [Bool.and_eq_true, decide_eq_true_eq] at h
  exact h.1.1.2

end Go.Proofs.Ytcjejcbikgcnbaa
