/- Parts of the proof, laid into one text: Put, Search, Visit. -/
import Derived.Shelf.Sort.Plain
import Derived.Sort.OwnSortedInts
import Derived.Test.YtfhmbechennkbaaGreatG4
namespace Go.Proofs.YtfhmbechennkbaaGreat
open Go.RowKit Go.Shelf
def rowAt (l:List Task) (i:Nat):List Int:=(rowsOf l).getD i []
def unB (s:List Int) (k:Int):Bool:=decide (atI s k.toNat<0)
def skipB (l:List Task) (s:List Int) (i:Nat):Bool:=decide (0≤atI s i) || (rowAt l i).any (unB s)
theorem atI_set_self {s:List Int} {i:Nat} {x:Int} (h:i<s.length):atI (s.set i x) i=x:=by
 unfold atI
 rw [List.getD_eq_getElem?_getD,List.getElem?_set_self h]
 rfl
theorem atI_set_ne {s:List Int} {i k:Nat} {x:Int} (h:i≠k):atI (s.set i x) k=atI s k:=by
 unfold atI
 rw [List.getD_eq_getElem?_getD,List.getElem?_set_ne h,List.getD_eq_getElem?_getD]
section
variable {w w':World} {B W g O S Pb Bb Lb Ob Vb:Nat} {l:List Task} {c p:Int} {tv:Value} {cs:List Value} {s s':List Int} {b:Int × List Int} {outv:Value}
theorem PlanO.far (h:PlanO w B g l c p tv O S cs s) {r:Nat} (hg:w.grownBy w' (some r)) (h1:g≠r) (h2:O≠r) (h3:S≠r) (h4:∀ j (hj:j<cs.length),cs[j].ownBlock≠some r) (h5:B≤r):PlanO w' B g l c p tv O S cs s :=
 ⟨h.blk.kept hg (by simpa using h1),⟨h.rows.own.kept hg (.inr (by simpa [Value.ownBlock] using h2)),fun j hj hc hji => (h.rows.rows j hj hc hji).kept hg (.inr (h4 j hc)),h.rows.rest⟩,h.st.kept hg (by simpa using h3),
  h.tasks.below ((Below.refl B w).grown hg h.low.2.2 (fun k hk => by cases hk;exact h5)) (Nat.le_refl _),h.len,h.bd,⟨h.low.1,h.low.2.1,Nat.le_trans h.low.2.2 hg.size⟩,h.apart⟩
end
end Go.Proofs.YtfhmbechennkbaaGreat
