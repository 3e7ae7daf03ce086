/- Lemmas. -/
import Derived.Test.YtmmhehgajkaniaaGreatDoorY6
namespace Go.Proofs.YtmmhehgajkaniaaGreatDoor
open Go.RowKit Go.Shelf
def Q8 (l:List Task) (y:List Nat) (i:Nat):Bool:=(Lq l i).all fun k=>decide (k.toNat∈y)
theorem Tied.skip {l:List Task} {s r:List Int} {y:List Nat} (hR:RightT l) (h:Tied l s r y) {i:Nat} (hi:i<l.length):qqf l s i=(decide (i∈y) || !Q8 l y i):=by
 have hon:∀j,j<l.length→decide (0≤lH s j)=decide (j∈y):=fun j hj=>by
  by_cases hm:j∈y
  ·rw[yD hm,(h.on j hm).1,yD (h.on j hm).2]
  rw[yC hm,h.off j hj hm];rfl
 unfold qqf Q8;rw[hon i hi];congr 1
 rw[Bool.eq_iff_iff,Bool.not_eq_true',List.any_eq_true,List.all_eq_false];constructor
 ·rintro⟨k,hk,hu⟩;refine⟨k,hk,?_⟩;rw[←hon _ (Eg hR hi hk)];unfold unB at hu;simp only[decide_eq_true_eq] at hu⊢;omega
 rintro⟨k,hk,hu⟩;refine⟨k,hk,?_⟩;rw[←hon _ (Eg hR hi hk)] at hu;unfold unB;simp only[decide_eq_true_eq] at hu⊢;omega
structure RefSt (w:World) (B:Nat) (v u z:Value) (l:List Task) (r:List Int) (y:List Nat):Prop where
 tasks:TasksAt w B v l
 starts:bg w B u r
 list:bg w B z (tt y)
 len:r.length=l.length
 bd:∀x∈r,0≤x∧x≤90000
 lt:∀i∈y,i<l.length
 y8:y.length≤8
theorem RefSt.below {w w':World} {B:Nat} {v u z:Value} {l:List Task} {r:List Int} {y:List Nat} (h:RefSt w B v u z l r y) (hb:Below B w w'):RefSt w' B v u z l r y :=
 ⟨h.tasks.below hb (yA _),h.starts.below hb (yA _),h.list.below hb (yA _),h.len,h.bd,h.lt,h.y8⟩
theorem RefSt.mono {w:World} {B B':Nat} {v u z:Value} {l:List Task} {r:List Int} {y:List Nat} (h:RefSt w B v u z l r y) (hB:B≤B'):RefSt w B' v u z l r y :=
 ⟨h.tasks.mono hB,h.starts.mono hB,h.list.mono hB,h.len,h.bd,h.lt,h.y8⟩
theorem RefSt.at_ {w:World} {B:Nat} {v u z:Value} {l:List Task} {r:List Int} {y:List Nat} (h:RefSt w B v u z l r y) {i:Nat} (hi:i<l.length):0≤lH r i∧lH r i≤90000:=by
 have hl:=h.len;rw[lk (by omega)];exact h.bd _ (yV _)
theorem RefSt.endBd {w:World} {B:Nat} {v u z:Value} {l:List Task} {r:List Int} {y:List Nat} (h:RefSt w B v u z l r y) (hR:RightT l) {i:Nat} (hi:i<l.length):0≤kt l r i∧kt l r i≤100000:=by
 have h1:=h.at_ hi;have h2:=dF (hR.field i hi);unfold kt;rw[eV hi];omega
theorem RefSt.cellS {w:World} {B:Nat} {v u z:Value} {l:List Task} {r:List Int} {y:List Nat} (h:RefSt w B v u z l r y) {i:Nat} (hi:i<l.length) :
  ∃b off cap,u=.slice (some ⟨b,off,none⟩) l.length cap∧b<B∧l.length≤cap∧cap≤9223372036854775807∧w.cell? ⟨b,off+i,none⟩=some (.int .i64 (lH r i)):=by
 have hl:=h.len;obtain⟨A,cap,rfl,h1,h2,h3⟩:=h.starts.open_;unfold maxLen at h2;obtain⟨b,off,rfl,hb,hc⟩:=h3 i (by omega);exact⟨b,off,cap,by rw[hl],hb,by omega,h2,by rw[lk (by omega)];exact hc i (by omega)⟩
