/- Lemmas. -/
import Derived.Shelf.Sort.Plain
import Derived.Sort.OwnSortedInts
import Derived.Test.YtmmhehgajkaniaaGreatDoorY5
namespace Go.Proofs.YtmmhehgajkaniaaGreatDoor
open Go.RowKit Go.Shelf
def Lq (l:List Task) (i:Nat):List Int:=(cL l).getD i []
def unB (s:List Int) (k:Int):Bool:=decide (lH s k.toNat<0)
def qqf (l:List Task) (s:List Int) (i:Nat):Bool:=decide (0≤lH s i)||(Lq l i).any (unB s)
theorem sH {s:List Int} {i:Nat} {x:Int} (h:i<s.length):lH (s.set i x) i=x:=by
 unfold lH;rw[yN,List.getElem?_set_self h];rfl
theorem qV {s:List Int} {i k:Nat} {x:Int} (h:i≠k):lH (s.set i x) k=lH s k:=by
 unfold lH;rw[yN,List.getElem?_set_ne h,yN]
structure Tied (l:List Task) (s r:List Int) (y:List Nat):Prop where
 len:s.length=l.length
 lenR:r.length=l.length
 nodup:y.Nodup
 lt:∀i∈y,i<l.length
 on:∀i∈y,lH s i=lH r i∧0≤lH r i
 off:∀i,i<l.length→i∉y→lH s i=-1
theorem C1 {y:List Nat} {i:Nat} (h:y.Nodup) (hi:i∉y):(y++[i]).Nodup :=
 List.nodup_append.2 ⟨h,by simp,fun a ha b hb=>by rw[List.mem_singleton.1 hb];exact fun e=>hi (e▸ha)⟩
theorem Tied.snoc {l:List Task} {s r:List Int} {y:List Nat} {i:Nat} {t:Int} (h:Tied l s r y) (hi:i<l.length) (hy:i∉y) (ht:0≤t):Tied l (s.set i t) (r.set i t) (y++[i]):=by
 have h1:=h.len;have h2:=h.lenR;refine⟨by rw[List.length_set];exact h.len,by rw[List.length_set];exact h.lenR,C1 h.nodup hy,fun j hj=>?_,fun j hj=>?_,fun j hj hjy=>?_⟩
 ·rcases List.mem_append.1 hj with hj|hj
  ·exact h.lt j hj
  rw[List.mem_singleton.1 hj];exact hi
 ·by_cases e:i=j
  ·subst e;rw[sH (by omega),sH (by omega)];exact⟨rfl,ht⟩
  rw[qV e,qV e];rcases List.mem_append.1 hj with hj|hj
  ·exact h.on j hj
  exact absurd (List.mem_singleton.1 hj).symm e
 simp only[List.mem_append,List.mem_singleton,not_or] at hjy;rw[qV (fun e=>hjy.2 e.symm)];exact h.off j hj hjy.1
theorem Eg {l:List Task} (hR:RightT l) {i:Nat} (hi:i<l.length) {k:Int} (hk:k∈Lq l i):k.toNat<l.length:=by
 have kn:Lq l i=ow l l[i].bef:=lX hi;rw[kn] at hk;obtain⟨j,hj,rfl⟩:=LP hR hi hk;simpa using hj
section
variable {w w':World} {B W g O S Pb Bb Lb Ob Vb:Nat} {l:List Task} {c p:Int} {tv:Value} {cs:List Value} {s s':List Int} {b:Int×List Int} {vvJ:Value}
theorem PlanO.far (h:PlanO w B g l c p tv O S cs s) {r:Nat} (hg:w.grownBy w' (some r)) (h1:g≠r) (h2:O≠r) (h3:S≠r) (h4:∀j (hj:j<cs.length),cs[j].ownBlock≠some r) (h5:B≤r):PlanO w' B g l c p tv O S cs s :=
 ⟨h.blk.kept hg (by simpa using h1),⟨h.rows.own.kept hg (.inr (by simpa[Value.ownBlock] using h2)),fun j hj hc xP=>(h.rows.rows j hj hc xP).kept hg (.inr (h4 j hc)),h.rows.rest⟩,h.st.kept hg (by simpa using h3),
  h.tasks.below ((yB B w).grown hg h.low.2.2 (fun k hk=>by cases hk;exact h5)) (yA _),h.len,h.bd,⟨h.low.1,h.low.2.1,yH h.low.2.2 hg.size⟩,h.apart⟩
end
