/- Lemmas. -/
import Derived.Test.YtmmhehgajkaniaaGreatDoorZ9
namespace Go.Proofs.YtmmhehgajkaniaaGreatDoor
set_option maxRecDepth 100000
set_option maxHeartbeats 40000000
open Go.RowKit Go.Shelf
section
variable {P:Program} {ops:Array Oper} {md:Region.Mode} {S:List Nat}
def yk (ops:Array Oper) (a0:Act) (V:Nat→Value):Act:=lx ops V (Array.replicate ops.size false) (List.range ops.size) a0
theorem tC {l:List Oper} {Vs:List Value} {a:Act} (hl:l.length=Vs.length):yk l.toArray a (fun i=>Vs.getD i undef)=bD l Vs a:=by
 unfold yk;rw[List.size_toArray,List.range_eq_range'];exact rJ l Vs 0 a hl (fun j=>by rw[yR]) (fun j=>by rw[yR]) (by omega)
end
section
variable {P:Program} {ops:Array Oper} {md:Region.Mode} {S:List Nat}
def iY (md:Region.Mode) (ops:Array Oper) (i:Nat):Nat→List Nat
 | 0=>[]
 | k+1=>if cS md ops k i||(iY md ops i k).any (fun r=>cS md ops k r) then k::iY md ops i k else iY md ops i k
def ec (md:Region.Mode) (ops:Array Oper) (j i:Nat):Bool:=(iY md ops i ops.size).contains j
theorem kj {done:Array Bool} (hc:∀j,done.getD j false=true→∀i,cS md ops j i=true→done.getD i false=true) {i:Nat}:∀k j,j∈iY md ops i k→done.getD j false=true→done.getD i false=true
 | 0,_,h,_=>by simp[iY] at h
 | k+1,j,h,hd=>by
  unfold iY at h;split at h
  ·rename_i hw
   rcases List.mem_cons.1 h with rfl|h
   ·rcases Bool.or_eq_true _ _ |>.mp hw with hw|hw
    ·exact hc _ hd _ hw
    obtain⟨r,hr,h2⟩:=List.any_eq_true.1 hw;exact kj hc _ r hr (hc _ hd _ h2)
   exact kj hc _ j h hd
  exact kj hc _ j h hd
theorem oh {done:Array Bool} (hc:∀j,done.getD j false=true→∀i,cS md ops j i=true→done.getD i false=true) {i j:Nat} (hj:∀r,cS md ops j r=true→done.getD r false=true):∀k,j∈iY md ops i k→done.getD i false=true
 | 0,h=>by simp[iY] at h
 | k+1,h=>by
  unfold iY at h;split at h
  ·rename_i hw
   rcases List.mem_cons.1 h with rfl|h
   ·rcases Bool.or_eq_true _ _ |>.mp hw with hw|hw
    ·exact hj _ hw
    obtain⟨r,hr,h2⟩:=List.any_eq_true.1 hw;exact kj hc _ r hr (hj _ h2)
   exact oh hc hj _ h
  exact oh hc hj _ h
theorem tV {done:Array Bool} (hc:∀j,done.getD j false=true→∀i,cS md ops j i=true→done.getD i false=true) {i j:Nat} (h:ec md ops j i=true) (hd:done.getD j false=true):done.getD i false=true :=
 kj hc _ j (by unfold ec at h;simpa using h) hd
theorem rm {done:Array Bool} (hc:∀j,done.getD j false=true→∀i,cS md ops j i=true→done.getD i false=true) {i j:Nat} (hj:∀r,cS md ops j r=true→done.getD r false=true) (h:ec md ops j i=true):done.getD i false=true :=
 oh hc hj _ (by unfold ec at h;simpa using h)
def okP (md:Region.Mode) (ops:Array Oper) (S L:List Nat) (i:Nat):Bool :=
 S.all fun s=>if L.contains s then !ec md ops i s else !ec md ops s i
def rdP (md:Region.Mode) (ops:Array Oper) (L:List Nat) (i:Nat):Bool :=
 L.all fun s=>!ec md ops i s
def Cm (P:Program) (md:Region.Mode) (ops:Array Oper) (S:List Nat) (a0:Act) (L:List Nat) (V:Nat→Value) (w:World):Prop :=
 ∀i o,ops[i]?=some o→i∉S→okP md ops S L i=true→(execOp (yk ops a0 V).eval o).run P w=.ok (.value (V i)) w
def Cx (P:Program) (md:Region.Mode) (ops:Array Oper) (S:List Nat) (a0:Act) (Q:Exit→Act→World→Prop):Nat→List Nat→(Nat→Value)→World→Prop
 | 0,L,V,w=>Cm P md ops S a0 L V w∧(L=[]→Q .normal (yk ops a0 V) w)
 | n+1,L,V,w=>Cm P md ops S a0 L V w∧(L=[]→Q .normal (yk ops a0 V) w)∧∀i o,i∈L→rdP md ops L i=true→ops[i]?=some o →
  (o.dst=none∧∃w' V',(execOp (yk ops a0 V).eval o).run P w=.ok .skip w'∧(∀j,j≠i→ec md ops j i=false→V' j=V j)∧Cx P md ops S a0 Q n (L.erase i) V' w') ∨
  (∃v w' V',(execOp (yk ops a0 V).eval o).run P w=.ok (.value v) w'∧(∀j,j≠i→ec md ops j i=false→V' j=V j)∧V' i=v∧Cx P md ops S a0 Q n (L.erase i) V' w') ∨
  ∃f args,(execOp (yk ops a0 V).eval o).run P w=.ok (.enter f args) w∧Calls P f args w fun e w'=>∃v V',e=.returned v∧(∀j,j≠i→ec md ops j i=false→V' j=V j)∧V' i=v∧Cx P md ops S a0 Q n (L.erase i) V' w'
theorem Bc {a0:Act} {Q:Exit→Act→World→Prop} {n:Nat} {L:List Nat} {V:Nat→Value} {w:World} (h:Cx P md ops S a0 Q n L V w):Cm P md ops S a0 L V w∧(L=[]→Q .normal (yk ops a0 V) w):=by
 cases n with
 | zero=>exact h
 | succ n=>exact⟨h.1,h.2.1⟩
structure PInv (P:Program) (md:Region.Mode) (ops:Array Oper) (S:List Nat) (a0:Act) (Q:Exit→Act→World→Prop) (V:Nat→Value) (done:Array Bool) (a:Act) (w:World):Prop where
 size:done.size=ops.size
 act:∀V2:Nat→Value,(∀j,done.getD j false=true→V2 j=V j)→lx ops V2 done (List.range ops.size) a=yk ops a0 V2
 closed:∀j,done.getD j false=true→∀i,cS md ops j i=true→done.getD i false=true
 world:∃L:List Nat,L.Nodup∧(∀s,s∈L→s∈S)∧Cx P md ops S a0 Q L.length L V w∧∀s,s∈S→done.getD s false=decide (s∉L)
theorem XY {Q:Exit→Act→World→Prop} {a0:Act} (hF:cW md ops S=true) (hS:S.all (fun s=>decide (s<ops.size))=true) :
  ∀(f:Nat) (V:Nat→Value) (done:Array Bool) (a:Act) (w:World),PInv P md ops S a0 Q V done a w→left done ops.size=f→wpAny P md ops Q f done a w:=by
 have hS:=fun s hs=>yG (List.all_eq_true.1 hS s hs);have CG:∀(V:Nat→Value) (done:Array Bool) (a:Act) (w:World),PInv P md ops S a0 Q V done a w→Region.ready md ops done=[]→Q .normal a w:=fun V done a w inv hr=>by
  have fF:=Lv hF inv.size hr;have ha:=inv.act V (fun _ _=>rfl);rw[Ej inv.size fF _ (fun i hi=>List.mem_range.1 hi)] at ha;obtain⟨L,hN,hLS,hI,hd⟩:=inv.world;have hL:L=[]:=by
   rw[List.eq_nil_iff_forall_not_mem];intro s hs;have h1:=hd s (hLS s hs);rw[fF _ (hS s (hLS s hs))] at h1;exact yG h1.symm hs
  rw[ha];exact (Bc hI).2 hL
 intro f
 induction f with
 | zero=>
  intro V done a w inv hl;have hr:=Ek (md:=md) inv.size hl;exact⟨hr,CG V done a w inv hr⟩
 | succ f ih=>
  intro V done a w inv hl;refine⟨CG V done a w inv,fun i hi=>?_⟩;obtain⟨lz,Y2,Px⟩:=(pq inv.size i).1 hi;have hit:done.getD i true=false:=by rw[kp (by rw[inv.size];exact lz)];exact Y2
  have ho:=Array.getElem?_eq_getElem lz;generalize ops[i]=o at ho;unfold wpOp;rw[ho];dsimp only
  rw[if_pos (wS hF ho a)];refine .inl ?_;have hex:execOp (yk ops a0 V).eval o=execOp a.eval o:=by rw[←inv.act V (fun _ _=>rfl)];exact El hF inv.size ho Px
  have UB:∀j,j≠i→∀d,fk ops i=some d→fk ops j≠some d:=fun j h d h1 h2=>Em hF ho j h d h1 h2;have uu:(done.setIfInBounds i true).getD i false=true:=by
   have h9:i<done.size:=by rw[inv.size];exact lz
   simp[Array.getD,h9]
  have rT:∀(V':Nat→Value) u w',(∀j,done.getD j false=true→V' j=V j)→(∃L:List Nat,L.Nodup∧(∀s,s∈L→s∈S)∧Cx P md ops S a0 Q L.length L V' w'∧∀s,s∈S→(done.setIfInBounds i true).getD s false=decide (s∉L))→(fk ops i=none∨u=V' i)→wpAny P md ops Q f (done.setIfInBounds i true) (a.put o.dst u) w':=fun V' u w' hV Od hu=>by
   refine ih V' _ _ _ ⟨by rw[Array.size_setIfInBounds];exact inv.size,fun V2 hV2=>?_,fun j hj k hk=>?_,Od⟩ ?_
   ·have hVi:V2 i=V' i:=hV2 i uu;have hVd:∀j,done.getD j false=true→V2 j=V j:=fun j hj=>(hV2 j (getD_set_true hj)).trans (hV j hj);have hdo:o.dst=fk ops i:=by unfold fk;rw[ho];rfl
    have h2:=py (V:=V2) hit (by rw[inv.size];exact lz) UB (List.range ops.size) a List.nodup_range (List.mem_range.2 lz);rw[hdo];rcases hu with hu|hu
    ·rw[hu] at h2⊢;exact h2.trans (inv.act V2 hVd)
    rw[hu,←hVi];exact h2.trans (inv.act V2 hVd)
   ·by_cases e:i=j
    ·subst e;exact getD_set_true (Px k hk)
    rw[getD_set_ne false e] at hj;exact getD_set_true (inv.closed j hj k hk)
   unfold left at hl⊢
   have:=xE hit (by rw[inv.size];exact lz) (List.range ops.size) List.nodup_range (List.mem_range.2 lz);omega
  obtain⟨L,hN,hLS,hI,hd⟩:=inv.world;unfold Oper.wp;by_cases hns:i∈S;rotate_left
  ·have kA:=(Bc hI).1 i o ho hns (by
    unfold okP;rw[List.all_eq_true];intro s hs;by_cases hsL:s∈L
    ·rw[if_pos (by simpa using hsL)];cases Ur:ec md ops i s
     ·rfl
     have h2:=hd s hs;rw[rm inv.closed Px Ur] at h2;exact absurd hsL (yG h2.symm)
    rw[if_neg (by simpa using hsL)];cases Ur:ec md ops s i
    ·rfl
    have h2:=hd s hs;rw[yD hsL] at h2;have h3:=tV inv.closed Ur h2;rw[Y2] at h3;cases h3)
   rw[←hex,kA];exact rT V _ _ (fun _ _=>rfl) ⟨L,hN,hLS,hI,fun s hs=>by
    have dL:i≠s:=fun e=>hns (e▸hs);rw[getD_set_ne false dL];exact hd s hs⟩ (.inr rfl)
  have hiL:i∈L:=by
   have h2:=hd i hns;rw[Y2] at h2;have h3:=of_decide_eq_false h2.symm;exact Classical.not_not.1 h3
  have hrd:rdP md ops L i=true:=by
   unfold rdP;rw[List.all_eq_true];intro s hs;have hsd:done.getD s false=false:=by rw[hd s (hLS s hs)];exact yC (fun h=>h hs)
   cases Ur:ec md ops i s
   ·rfl
   rw[rm inv.closed Px Ur] at hsd;cases hsd
  obtain⟨n,hn⟩:∃n,L.length=n+1:=⟨L.length-1,by have:=List.length_pos_of_mem hiL;omega⟩;rw[hn] at hI;have h1:=hI.2.2 i o hiL hrd ho;have YU:∀V':Nat→Value,(∀j,j≠i→ec md ops j i=false→V' j=V j)→∀j,done.getD j false=true→V' j=V j:=fun V' h j hj=>h j (fun e=>by rw[e,Y2] at hj;cases hj) (by
   cases Ur:ec md ops j i
   ·rfl
   have:=tV inv.closed Ur hj;rw[Y2] at this;cases this)
  have vJ:∀(V':Nat→Value) w',Cx P md ops S a0 Q n (L.erase i) V' w'→∃L':List Nat,L'.Nodup∧(∀s,s∈L'→s∈S)∧Cx P md ops S a0 Q L'.length L' V' w'∧∀s,s∈S→(done.setIfInBounds i true).getD s false=decide (s∉L'):=fun V' w' Od=>by
   refine⟨L.erase i,hN.erase i,fun s hs=>hLS s (List.mem_of_mem_erase hs),by rw[List.length_erase_of_mem hiL,hn];exact Od,fun s hs=>?_⟩;by_cases e:i=s
   ·subst e;rw[uu];have hni:¬i∈L.erase i:=fun h=>((List.Nodup.mem_erase_iff hN).1 h).1 rfl;exact (yD hni).symm
   rw[getD_set_ne false e,hd s hs,decide_eq_decide];exact not_congr ((List.mem_erase_of_ne (Ne.symm e)).symm)
  rcases h1 with⟨hdn,w',V',h1,h2,h3⟩|⟨v,w',V',h1,h2,h3,h4⟩|⟨f',args,h1,hC⟩
  ·rw[←hex,h1];exact rT V' _ _ (YU V' h2) (vJ V' w' h3) (.inl (by unfold fk;rw[ho];exact hdn))
  ·rw[←hex,h1];exact rT V' _ _ (YU V' h2) (vJ V' w' h4) (.inr h3.symm)
  rw[←hex,h1];refine hC.mono ?_;rintro e w' ⟨v,V',rfl,h2,h3,h4⟩;exact rT V' _ _ (YU V' h2) (vJ V' w' h4) (.inr h3.symm)
theorem m6 {id:Nat} {Q:Exit→Act→World→Prop} {a:Act} {w:World} {l:List Oper} (V:Nat→Value) (S:List Nat) (hm:P.follows .mixedOrders=true)
  (hF:cW .any l.toArray S=true) (hS:S.all (fun s=>decide (s<l.toArray.size))=true) (hN:S.Nodup) (h:Cx P .any l.toArray S a Q S.length S V w.drew):(Code.region id l.toArray true).wp P Q a w:=by
 refine wp_region_any hm ?_;refine XY hF hS _ V _ _ _ ⟨by simp,fun V2 _=>rfl,fun j hj=>?_,S,hN,fun _ h=>h,h,fun s hs=>?_⟩ ?_
 ·rw[getD_replicate_false] at hj;cases hj
 ·rw[getD_replicate_false];exact (yC (fun h=>h hs)).symm
 unfold left;rw[List.filter_eq_self.2 (fun i hi=>by rw[getD_in (by simpa using List.mem_range.1 hi) (getD_replicate_false _ _)];rfl),List.length_range]
def mN (P:Program) (ops:Array Oper) (S:List Nat) (aF:Act) (L:List Nat) (w:World):Nat→List Oper→List Value→Prop
 | i,o::r,v::vs=>(S.contains i=true∨okP .any ops S L i=false∨(execOp aF.eval o).run P w=.ok (.value v) w)∧mN P ops S aF L w (i+1) r vs
 | _,_,_=>True
theorem wT {aF:Act} {L:List Nat} {w:World} {Vs:List Value}:∀(r:List Oper) (vs:List Value) (k:Nat),r.length=vs.length→(∀j,vs[j]?=Vs[k+j]?)→mN P ops S aF L w k r vs →
  ∀j o,r[j]?=some o→S.contains (k+j)=true∨okP .any ops S L (k+j)=false∨(execOp aF.eval o).run P w=.ok (.value (Vs.getD (k+j) undef)) w
 | [],_,_,_,_,_,j,o,ho=>by simp at ho
 | _::_,[],_,hl,_,_,_,_,_=>by simp at hl
 | o::r,v::vs,k,hl,hv,h,j,o',ho=>by
  cases j with
  | zero=>
   obtain rfl:o=o':=by simpa using ho
   have h0:=hv 0;rw[List.getElem?_cons_zero] at h0;have e:Vs.getD (k+0) undef=v:=by rw[yN,←h0];rfl
   rw[e];exact h.1
  | succ j=>
   rw[List.getElem?_cons_succ] at ho;have h1:=wT r vs (k+1) (by simpa using hl) (fun j=>by
    have:=hv (j+1);rw[List.getElem?_cons_succ] at this;rw[this,show k+(j+1)=k+1+j by omega]) h.2 j o' ho
   rwa [show k+1+j=k+(j+1) by omega] at h1
theorem ug {l:List Oper} {Vs:List Value} {a:Act} {L:List Nat} {w:World} (hl:l.length=Vs.length) (h:mN P l.toArray S (bD l Vs a) L w 0 l Vs):Cm P .any l.toArray S a L (fun i=>Vs.getD i undef) w:=by
 intro i o ho hns bL;rw[List.getElem?_toArray] at ho;rw[tC hl]
 have:=wT (Vs:=Vs) l Vs 0 hl (fun j=>by rw[yR]) h i o ho;rw[yR] at this;rcases this with h1|h1|h1
 ·exact absurd (by simpa using h1) hns
 ·rw[bL] at h1;cases h1
 exact h1
theorem XX {l:List Oper} {Vs:List Value} {a:Act} {Q:Exit→Act→World→Prop} {w:World} (hl:l.length=Vs.length) (h:mN P l.toArray S (bD l Vs a) [] w 0 l Vs) (hQ:Q .normal (bD l Vs a) w) :
  Cx P .any l.toArray S a Q 0 [] (fun i=>Vs.getD i undef) w:=⟨ug hl h,fun _=>by rw[tC hl];exact hQ⟩
abbrev NA (P:Program) (S:List Nat) (l:List Oper) (Vs:List Value) (a:Act) (Q:Exit→Act→World→Prop) (n:Nat) (L:List Nat) (w:World) (i:Nat) (o:Oper):Prop :=
 (o.dst=none∧∃w' V',(execOp (bD l Vs a).eval o).run P w=.ok .skip w'∧(∀j,j≠i→ec .any l.toArray j i=false→V' j=Vs.getD j undef)∧Cx P .any l.toArray S a Q n (L.erase i) V' w') ∨
 (∃v w' V',(execOp (bD l Vs a).eval o).run P w=.ok (.value v) w'∧(∀j,j≠i→ec .any l.toArray j i=false→V' j=Vs.getD j undef)∧V' i=v∧Cx P .any l.toArray S a Q n (L.erase i) V' w') ∨
 ∃f args,(execOp (bD l Vs a).eval o).run P w=.ok (.enter f args) w∧Calls P f args w fun e w'=>∃v V',e=.returned v∧(∀j,j≠i→ec .any l.toArray j i=false→V' j=Vs.getD j undef)∧V' i=v∧Cx P .any l.toArray S a Q n (L.erase i) V' w'
theorem T5 {l:List Oper} {Vs:List Value} {a:Act} {Q:Exit→Act→World→Prop} {w:World} {n:Nat} {L:List Nat} (hl:l.length=Vs.length) (dL:L ≠ []) (h:mN P l.toArray S (bD l Vs a) L w 0 l Vs)
  (hop:∀i o,i∈L→rdP .any l.toArray L i=true→l[i]?=some o→NA P S l Vs a Q n L w i o) :
  Cx P .any l.toArray S a Q (n+1) L (fun i=>Vs.getD i undef) w:=by
 refine⟨ug hl h,fun e=>absurd e dL,fun i o hi hr ho=>?_⟩;rw[List.getElem?_toArray] at ho;rw[tC hl];exact hop i o hi hr ho
def tO (l:Array Oper) (i:Nat):Nat→List Value→List Value→Prop
 | k,v::vs,u::us=>(k=i∨ec .any l k i=true∨u=v)∧tO l i (k+1) vs us
 | _,[],[]=>True
 | _,_,_=>False
theorem zt {l:Array Oper} {i:Nat}:∀(k:Nat) (vs us:List Value),tO l i k vs us→∀j,k + j ≠ i→ec .any l (k + j) i=false→us.getD j undef=vs.getD j undef
 | k,v::vs,u::us,h,0,h1,h2=>by
  rcases h.1 with h3|h3|h3
  ·exact absurd h3 h1
  ·rw[Nat.add_zero,h3] at h2;cases h2
  exact h3
 | k,v::vs,u::us,h,j+1,h1,h2=>zt (k+1) vs us h.2 j (by omega) (by rwa [show k+1+j=k+(j+1) by omega])
 | _,[],[],_,_,_,_=>rfl
 | _,[],_::_,h,_,_,_=>h.elim
 | _,_::_,[],h,_,_,_=>h.elim
theorem qW {l:Array Oper} {i:Nat} {Vs Us:List Value} (h:tO l i 0 Vs Us):∀j,j≠i→ec .any l j i=false→Us.getD j undef=Vs.getD j undef:=fun j h1 h2=>zt 0 Vs Us h j (by omega) (by rwa [yR])
section
variable {l:List Oper} {Vs:List Value} {a:Act} {Q:Exit→Act→World→Prop} {w:World} {n:Nat} {L:List Nat}
def JZ (P:Program) (S:List Nat) (l:List Oper) (Vs:List Value) (a:Act) (Q:Exit→Act→World→Prop) (n:Nat) (L:List Nat) (w:World) (i:Nat):Prop :=
 ∀o,rdP .any l.toArray L i=true→l[i]?=some o→NA P S l Vs a Q n L w i o
theorem ot:∀i,i∈([]:List Nat)→JZ P S l Vs a Q n L w i:=fun _ h=>absurd h (List.not_mem_nil)
theorem fu {i:Nat} {K:List Nat} (h:JZ P S l Vs a Q n L w i) (t:∀j,j∈K→JZ P S l Vs a Q n L w j):∀j,j∈i::K→JZ P S l Vs a Q n L w j:=fun _ hj=>(List.mem_cons.1 hj).elim (fun e=>e▸h) (t _)
theorem kO {i:Nat} {o:Oper} (e:l[i]?=some o) (h:NA P S l Vs a Q n L w i o):JZ P S l Vs a Q n L w i:=fun _ _ ho=>Option.some.inj (e.symm.trans ho)▸h
theorem vqU {i:Nat} (k:rdP .any l.toArray L i=false:=by kernel_rfl):JZ P S l Vs a Q n L w i:=fun _ h=>absurd h (by rw[k];decide)
theorem ou (hm:∀i,i∈L→JZ P S l Vs a Q n L w i) (hl:l.length=Vs.length := by rfl) (dL:L ≠ [] := by decide)
  (h:mN P l.toArray S (bD l Vs a) L w 0 l Vs:=by simp only[bD,Act.put,aC,aB,aA,mN];and_intros <;> first|exact True.intro|exact .inl rfl|exact .inr (.inl (by decide +kernel))|(refine .inr (.inr ?_);go_simp;done)):Cx P .any l.toArray S a Q (n+1) L (fun i=>Vs.getD i undef) w :=
 T5 hl dL h fun i o hi hr ho=>hm i hi o hr ho
theorem Bd (hQ:Q .normal (bD l Vs a) w) (hl:l.length=Vs.length:=by rfl) (h:mN P l.toArray S (bD l Vs a) [] w 0 l Vs:=by simp only[bD,Act.put,aC,aB,aA,mN];and_intros <;> first|exact True.intro|exact .inl rfl|exact .inr (.inl (by decide +kernel))|(refine .inr (.inr ?_);go_simp;done)):Cx P .any l.toArray S a Q 0 [] (fun i=>Vs.getD i undef) w :=
 XX hl h hQ
variable {i:Nat} {o:Oper}
theorem T6 {f:Nat} {args:Array Value} {v:Value} {B:Nat} (hc:Calls P f args w fun e w'=>e=.returned v ∧ Below B w w') (Us:List Value) (h:∀w',Below B w w'→Cx P .any l.toArray S a Q n (L.erase i) (fun i=>Us.getD i undef) w')
  (hv:Us.getD i undef=v:=by rfl) (hx:(execOp (bD l Vs a).eval o).run P w=.ok (.enter f args) w:=by simp only[bD,Act.put,aC,aB,aA];go_simp) (YU:tO l.toArray i 0 Vs Us:=by and_intros <;> first|exact True.intro|exact .inl rfl|exact .inr (.inr rfl)|exact .inr (.inl (by decide +kernel))):NA P S l Vs a Q n L w i o :=
 .inr (.inr ⟨f,args,hx,hc.mono fun _ w' he=>⟨v,_,he.1,qW YU,hv,h w' he.2⟩⟩)
theorem qvZ {w':World} (Us:List Value) (h:Cx P .any l.toArray S a Q n (L.erase i) (fun i=>Us.getD i undef) w')
  (hx:(execOp (bD l Vs a).eval o).run P w=.ok (.value (Us.getD i undef)) w':=by simp only[bD,Act.put,aC,aB,aA];go_simp) (YU:tO l.toArray i 0 Vs Us:=by and_intros <;> first|exact True.intro|exact .inl rfl|exact .inr (.inr rfl)|exact .inr (.inl (by decide +kernel))):NA P S l Vs a Q n L w i o :=
 .inr (.inl ⟨_,w',_,hx,qW YU,rfl,h⟩)
theorem lw {w':World} (Us:List Value) (h:Cx P .any l.toArray S a Q n (L.erase i) (fun i=>Us.getD i undef) w') (hd:o.dst=none := by rfl)
  (hx:(execOp (bD l Vs a).eval o).run P w=.ok .skip w':=by simp only[bD,Act.put,aC,aB,aA];go_simp) (YU:tO l.toArray i 0 Vs Us:=by and_intros <;> first|exact True.intro|exact .inl rfl|exact .inr (.inr rfl)|exact .inr (.inl (by decide +kernel))):NA P S l Vs a Q n L w i o :=
 .inl ⟨hd,w',_,hx,qW YU,h⟩
end
end
def errW (ok:Bool) (g:Nat) (w:World):World:=match ok with
 | true=>w
 | false=>w.setCell ⟨g,2,none⟩ (.int .i64 5)
theorem qjb (a f:FrT) (m:Int) (g:Nat) (er:Int) (w:World) (ha:au a=true) (hf:au f=true) (hm:0≤m∧m≤67108864) (hC:Blk w g 87 #[.int .i64 f.num,.int .i64 f.den,.int .i64 er]) :
  Calls Tryz.prog 47 #[.pointer (some ⟨g,0,none⟩),a.val,.int .i64 m] w fun e w'=>e=.returned (.bool (ct m f a))∧∃w2,Below w.heap.size w w2∧w'=errW (bF (dI a*dI f)) g w2:=by
 have hM:=fun W=>qj8 a f W ha hf;have HV:Y0 (ct m f a=(bF (dI a*dI f)&&decide (0<iS (fM (dI a*dI f)) ⟨m,1⟩))):=rfl;obtain⟨fx,fy,fz,hv⟩:=yj (dI a*dI f);have HX:Y0 (bF (dI a*dI f)=true→au ⟨fx,fy⟩=true∧fM (dI a*dI f)=⟨fx,fy⟩∧fz=0):=fun h=>by
  have h2:=sj h;rw[hv] at h2;injection h2 with h2;injection h2 with h2;injection h2 with h3 h4;injection h3 with h3;injection h3 with h3;injection h3 with h5 h6;injection h5 with _ h5;injection h6 with h6 _;injection h6 with _ h6;injection h4 with h4 _;injection h4 with _ h4;have e:fM (dI a*dI f)=⟨fx,fy⟩:=by unfold fM;rw[h5,h6]
  exact⟨by rw[←e];exact K8 h,e,h4⟩
 have HN:Y0 (bF (dI a*dI f)=false→fz=5):=fun h=>by
  have h2:=sk h;rw[hv] at h2;injection h2 with h2;injection h2 with h2;injection h2 with h3 h4;injection h4 with h4 _;injection h4 with _ h4
 rw[hv] at hM;have WL:=zh fun W (h:au ⟨fx,fy⟩=true)=>vqV ⟨fx,fy⟩ ⟨m,1⟩ W h (FX (by omega) (by omega)) (by show (0:Int)≤m;omega);have HO:=zh fun W=>vzd m W;have HM:=zh hM;generalize ct m f a=ob at*;generalize fM (dI a*dI f)=fo at*;generalize bF (dI a*dI f)=ok at*;clear ha hf hm hM hv;obtain⟨an,ad⟩:=a;obtain⟨fn,fd⟩:=f
 try simp only at*
 have D0:=Blk.new w 29 #[.int .i64 an,.int .i64 ad];have hCk:=hC.below ((yB w.heap.size w).alloc (yA _) (.cells #[.int .i64 an,.int .i64 ad] 29)) hC.lt;have HB:=zh ((yB _ w).alloc (yA _) (.cells #[.int .i64 an,.int .i64 ad] 29));have HG:Y0 (g<w.heap.size):=hC.lt;go_enter Tryz.func47,Tryz.ntmps47;go_upto_region 1 with fail;generalize w.alloc (.cells #[.int .i64 an,.int .i64 ad] 29)=W1 at*;have D0:=zh D0
 have HC:=zh hCk;clear hC hCk;have D0:Y0 (Blk W1.drew w.heap.size 29 #[.int .i64 an,.int .i64 ad]):=D0.o.drewN 1;have HC:Y0 (Blk W1.drew g 87 #[.int .i64 fn,.int .i64 fd,.int .i64 er]):=HC.o.drewN 1;have HB:=zh HB.o.drew;have ya:=D0.o.alloc (.cells #[.int .i64 0,.int .i64 0] 29);have yb:=HC.o.alloc (.cells #[.int .i64 0,.int .i64 0] 29);have ya0:=ya.cell 0;have ya1:=ya.cell 1;have yb0:=yb.cell 0;have yb1:=yb.cell 1
 have y0:=D0.o.cell 0;have y1:=D0.o.cell 1;have y2:=HC.o.cell 0;have y3:=HC.o.cell 1;simp only[aG,aH,aD] at y0 y1 y2 y3 ya0 ya1 yb0 yb1;refine m6 (fun i=>([.agg #[.int .i64 an,.int .i64 ad],.pointer (some ⟨g,0,none⟩),.pointer (some ⟨g,0,none⟩),.pointer (some ⟨g,0,none⟩),.agg #[.int .i64 fn,.int .i64 fd],undef,undef,undef,undef,undef,undef,undef]:List Value).getD i undef) [5,9,10] (by kernel_rfl) (by kernel_rfl) (by kernel_rfl) (by decide) ?_
 generalize W1.drew=W2 at*;refine ou (L:=[5,9,10]) (fu (kO rfl ?_) (fu (kO rfl ?_) (fu vqU ot)))
 ·refine T6 (HM.o _) [.agg #[.int .i64 an,.int .i64 ad],.pointer (some ⟨g,0,none⟩),.pointer (some ⟨g,0,none⟩),.pointer (some ⟨g,0,none⟩),.agg #[.int .i64 fn,.int .i64 fd],.tuple #[.agg #[.int .i64 fx,.int .i64 fy],.int .i64 fz],.tuple #[.agg #[.int .i64 fx,.int .i64 fy],.int .i64 fz],.agg #[.int .i64 fx,.int .i64 fy],.int .i64 fz,undef,undef,.int .i64 fz] ?_;intro w3 rX;refine ou (L:=[9,10]) (fu (kO rfl ?_) (fu vqU ot))
  refine qvZ (w':=((w3.alloc (.cells #[.int .i64 0,.int .i64 0] 29)))) [.agg #[.int .i64 an,.int .i64 ad],.pointer (some ⟨g,0,none⟩),.pointer (some ⟨g,0,none⟩),.pointer (some ⟨g,0,none⟩),.agg #[.int .i64 fn,.int .i64 fd],.tuple #[.agg #[.int .i64 fx,.int .i64 fy],.int .i64 fz],.tuple #[.agg #[.int .i64 fx,.int .i64 fy],.int .i64 fz],.agg #[.int .i64 fx,.int .i64 fy],.int .i64 fz,.pointer (some ⟨w3.heap.size,0,none⟩),undef,.int .i64 fz] ?_
  refine ou (L:=[10]) (fu (kO rfl ?_) ot);have vt:=zh (Blk.new w3 29 #[.int .i64 0,.int .i64 0]);have r0:=vt.o.cell 0;have f0:=vt.o.frozen 0;have r1:=(vt.o.set_ 0 (.int .i64 fx)).cell 1;have f1:=(vt.o.set_ 0 (.int .i64 fx)).frozen 1;simp only[aC,aB,aG,aH,aD] at r0 r1;refine lw (w':=((w3.alloc (.cells #[.int .i64 fx,.int .i64 fy] 29)))) [.agg #[.int .i64 an,.int .i64 ad],.pointer (some ⟨g,0,none⟩),.pointer (some ⟨g,0,none⟩),.pointer (some ⟨g,0,none⟩),.agg #[.int .i64 fn,.int .i64 fd],.tuple #[.agg #[.int .i64 fx,.int .i64 fy],.int .i64 fz],.tuple #[.agg #[.int .i64 fx,.int .i64 fy],.int .i64 fz],.agg #[.int .i64 fx,.int .i64 fy],.int .i64 fz,.pointer (some ⟨w3.heap.size,0,none⟩),undef,.int .i64 fz] ?_
  refine Bd ?_;simp only[bD,Act.put,aC,aB,aA,];have wd:=zh ((HB.o.trans (rX.mono HB.o.size)).alloc (yH HB.o.size rX.size) (.cells #[.int .i64 fx,.int .i64 fy] 29));have HCz:=zh ((HC.o.below rX HC.o.lt).alloc (.cells #[.int .i64 fx,.int .i64 fy] 29));have HFz:=zh (Blk.new w3 29 #[.int .i64 fx,.int .i64 fy]);clear HB HC D0 ya yb ya0 ya1 yb0 yb1 y0 y1 y2 y3 vt r0 r1 f0 f1 rX HG;generalize w3.alloc (.cells #[.int .i64 fx,.int .i64 fy] 29)=w9 at*
  generalize w3.heap.size=n9 at*;obtain⟨q0,q1⟩:=HFz.o.c2;cases bL:ok
  case true=>
   obtain⟨sP,hfo,Xd⟩:=HX.o bL;have YM:=fun W=>WL.o W sP;have ck:Y0 (ob=decide (0<iS ⟨fx,fy⟩ ⟨m,1⟩)):=by unfold Y0;rw[HV.o,bL,hfo,Bool.true_and]
   generalize iS ⟨fx,fy⟩ ⟨m,1⟩=c at*;have qY:=zh bL;subst Xd;have u0:=YL q0;have u1:=YL q1;have cO:=HeldB.call (W:=w9) fun w' _=>HO.o w';have cC:=HeldB.call (W:=w9) fun w' _=>YM w';clear HX HN HV HM HO WL sP hfo bL YM HCz;go_wp2_with (exact zX);refine bB (by kernel_rfl) (by kernel_rfl) ?_
   repeat (go_big_quiet_step (first|(go_at_call 96;with_reducible exact cO _)|(go_at_call 95;with_reducible exact cC _)))
   refine YE ?_;rintro X4 ⟨⟨vx9,t7⟩,rfl⟩;clear u0 u1 cO cC q0 q1;go_wp2_with fail;go_ret;exact⟨Ze ck.o.symm,X4,wd.o.trans (t7.mono wd.o.size),by rw[qY.o];rfl⟩
  have Xd:=HN.o bL;have ck:Y0 (ob=false):=by unfold Y0;rw[HV.o,bL,Bool.false_and]
  have qY:=zh bL;subst Xd;have e2:=HCz.o.cell 2;have f2:=HCz.o.frozen 2;simp only[aG,aH,aD] at e2;clear HX HN HV HM HO WL HCz HFz bL q0 q1;go_wp2_with fail;go_ret;exact⟨Ze ck.o.symm,w9,wd.o,by rw[qY.o];rfl⟩
 refine qvZ (w':=((W2.alloc (.cells #[.int .i64 0,.int .i64 0] 29)))) [.agg #[.int .i64 an,.int .i64 ad],.pointer (some ⟨g,0,none⟩),.pointer (some ⟨g,0,none⟩),.pointer (some ⟨g,0,none⟩),.agg #[.int .i64 fn,.int .i64 fd],undef,undef,undef,undef,.pointer (some ⟨W2.heap.size,0,none⟩),undef,undef] ?_;refine ou (L:=[5,10]) (fu (kO rfl ?_) (fu vqU ot));refine T6 (HM.o _) [.agg #[.int .i64 an,.int .i64 ad],.pointer (some ⟨g,0,none⟩),.pointer (some ⟨g,0,none⟩),.pointer (some ⟨g,0,none⟩),.agg #[.int .i64 fn,.int .i64 fd],.tuple #[.agg #[.int .i64 fx,.int .i64 fy],.int .i64 fz],.tuple #[.agg #[.int .i64 fx,.int .i64 fy],.int .i64 fz],.agg #[.int .i64 fx,.int .i64 fy],.int .i64 fz,.pointer (some ⟨W2.heap.size,0,none⟩),undef,.int .i64 fz] ?_
 intro w3 rX;refine ou (L:=[10]) (fu (kO rfl ?_) ot);have vt:=zh ((Blk.new W2 29 #[.int .i64 0,.int .i64 0]).below rX (Blk.new _ _ _).lt);have r0:=vt.o.cell 0;have f0:=vt.o.frozen 0;have r1:=(vt.o.set_ 0 (.int .i64 fx)).cell 1;have f1:=(vt.o.set_ 0 (.int .i64 fx)).frozen 1;simp only[aC,aB,aG,aH,aD] at r0 r1;refine lw (w':=(((w3.setCell ⟨W2.heap.size,0,none⟩ (.int .i64 fx)).setCell ⟨W2.heap.size,1,none⟩ (.int .i64 fy)))) [.agg #[.int .i64 an,.int .i64 ad],.pointer (some ⟨g,0,none⟩),.pointer (some ⟨g,0,none⟩),.pointer (some ⟨g,0,none⟩),.agg #[.int .i64 fn,.int .i64 fd],.tuple #[.agg #[.int .i64 fx,.int .i64 fy],.int .i64 fz],.tuple #[.agg #[.int .i64 fx,.int .i64 fy],.int .i64 fz],.agg #[.int .i64 fx,.int .i64 fy],.int .i64 fz,.pointer (some ⟨W2.heap.size,0,none⟩),undef,.int .i64 fz] ?_
 refine Bd ?_;simp only[bD,Act.put,aC,aB,aA,];have hW:=HB.o.size;have hG:=HG.o;have wd:=zh ((((HB.o.alloc hW (.cells #[.int .i64 0,.int .i64 0] 29)).trans (rX.mono (HB.o.alloc hW (.cells #[.int .i64 0,.int .i64 0] 29)).size)).setCell (p:=⟨W2.heap.size,0,none⟩) hW (.int .i64 fx)).setCell (p:=⟨W2.heap.size,1,none⟩) hW (.int .i64 fy));have HCz:=zh (((yb.below rX yb.lt).far (p:=⟨W2.heap.size,0,none⟩) (by show g≠W2.heap.size;omega) (.int .i64 fx)).far (p:=⟨W2.heap.size,1,none⟩) (by show g≠W2.heap.size;omega) (.int .i64 fy))
 have HFz:=zh ((vt.o.set_ 0 (.int .i64 fx)).set_ 1 (.int .i64 fy));simp only[aC,aB,aA,] at HFz;clear HB HC D0 ya yb ya0 ya1 yb0 yb1 y0 y1 y2 y3 vt r0 r1 f0 f1 rX HG hW hG;generalize (w3.setCell ⟨W2.heap.size,0,none⟩ (.int .i64 fx)).setCell ⟨W2.heap.size,1,none⟩ (.int .i64 fy)=w9 at*;generalize W2.heap.size=n9 at*;obtain⟨q0,q1⟩:=HFz.o.c2;cases bL:ok
 case true=>
  obtain⟨sP,hfo,Xd⟩:=HX.o bL;have YM:=fun W=>WL.o W sP;have ck:Y0 (ob=decide (0<iS ⟨fx,fy⟩ ⟨m,1⟩)):=by unfold Y0;rw[HV.o,bL,hfo,Bool.true_and]
  generalize iS ⟨fx,fy⟩ ⟨m,1⟩=c at*;have qY:=zh bL;subst Xd;have u0:=YL q0;have u1:=YL q1;have cO:=HeldB.call (W:=w9) fun w' _=>HO.o w';have cC:=HeldB.call (W:=w9) fun w' _=>YM w';clear HX HN HV HM HO WL sP hfo bL YM HCz;go_wp2_with (exact zX);refine bB (by kernel_rfl) (by kernel_rfl) ?_
  repeat (go_big_quiet_step (first|(go_at_call 96;with_reducible exact cO _)|(go_at_call 95;with_reducible exact cC _)))
  refine YE ?_;rintro X4 ⟨⟨vx9,t7⟩,rfl⟩;clear u0 u1 cO cC q0 q1;go_wp2_with fail;go_ret;exact⟨Ze ck.o.symm,X4,wd.o.trans (t7.mono wd.o.size),by rw[qY.o];rfl⟩
 have Xd:=HN.o bL;have ck:Y0 (ob=false):=by unfold Y0;rw[HV.o,bL,Bool.false_and]
 have qY:=zh bL;subst Xd;have e2:=HCz.o.cell 2;have f2:=HCz.o.frozen 2;simp only[aG,aH,aD] at e2;clear HX HN HV HM HO WL HCz HFz bL q0 q1;go_wp2_with fail;go_ret;exact⟨Ze ck.o.symm,w9,wd.o,by rw[qY.o];rfl⟩
structure ItemT where
 name:ByteArray
 pos:Int
 width:Int
 wt:Int
 hang:Int
 front:Int
 back:Int
deriving DecidableEq
structure BrickT where
 name:ByteArray
 wt:Int
 cnt:Int
deriving DecidableEq
structure SetT where
 name:ByteArray
 depth:Int
 low:Int
 high:Int
 len:Int
 lines:List Int
 pipe:Int
 arbor:Int
 purch:Int
 most:Int
 brake:Int
 items:List ItemT
 bricks:List BrickT
deriving DecidableEq
abbrev zA (x:SetT) (a:Option Addr) (b:Nat) (c:Option Addr) (d:Nat) (e:Option Addr) (f:Nat):Array Value:=#[.string x.name,.int .i64 x.depth,.int .i64 x.low,.int .i64 x.high,.int .i64 x.len,.slice a x.lines.length b,.int .i64 x.pipe,.int .i64 x.arbor,.int .i64 x.purch,.int .i64 x.most,.int .i64 x.brake,.slice c x.items.length d,.slice e x.bricks.length f]
abbrev zB (x:SetT) (a:Option Addr) (b:Nat) (c:Option Addr) (d:Nat) (e:Option Addr) (f:Nat):List Value:=[.string x.name,.int .i64 x.depth,.int .i64 x.low,.int .i64 x.high,.int .i64 x.len,.slice a x.lines.length b,.int .i64 x.pipe,.int .i64 x.arbor,.int .i64 x.purch,.int .i64 x.most,.int .i64 x.brake,.slice c x.items.length d,.slice e x.bricks.length f]
def ItemT.cells (x:ItemT):List Value:=[.string x.name,.int .i64 x.pos,.int .i64 x.width,.int .i64 x.wt,.int .i64 x.hang,.int .i64 x.front,.int .i64 x.back]
abbrev ItemT.val (x:ItemT):Value:=.agg #[.string x.name,.int .i64 x.pos,.int .i64 x.width,.int .i64 x.wt,.int .i64 x.hang,.int .i64 x.front,.int .i64 x.back]
def BrickT.cells (x:BrickT):List Value:=[.string x.name,.int .i64 x.wt,.int .i64 x.cnt]
abbrev BrickT.val (x:BrickT):Value:=.agg #[.string x.name,.int .i64 x.wt,.int .i64 x.cnt]
theorem vR {α:Type} (f:α→List Value) (k:Nat) (hf:∀x,(f x).length=k) (l:List α) (j i:Nat) (hj:j<l.length) (hi:i<k):(l.flatMap f)[j*k+i]?=(f l[j])[i]?:=by
 induction l generalizing j with
 | nil=>simp at hj
 | cons t l ih=>
  rw[List.flatMap_cons]
  cases j with
  | zero=>rw[List.getElem?_append_left (by rw[hf];omega)];simp
  | succ j=>
   rw[List.getElem?_append_right (by rw[hf,Nat.succ_mul];omega),hf]
   have:=ih j (by simpa using hj);rw[show (j+1)*k+i-k=j*k+i by rw[Nat.succ_mul];omega,this];rfl
def ItemsAt (w:World) (B:Nat) (v:Value) (l:List ItemT):Prop:=Flat w B v l.length (l.flatMap ItemT.cells)
def BricksAt (w:World) (B:Nat) (v:Value) (l:List BrickT):Prop:=Flat w B v l.length (l.flatMap BrickT.cells)
theorem ItemsAt.below {w w':World} {B B':Nat} {v:Value} {l:List ItemT} (h:ItemsAt w B v l) (hb:Below B' w w') (hB:B≤B'):ItemsAt w' B v l:=Flat.below h hb hB
theorem ItemsAt.mono {w:World} {B B':Nat} {v:Value} {l:List ItemT} (h:ItemsAt w B v l) (hB:B≤B'):ItemsAt w B' v l:=Flat.mono h hB
theorem BricksAt.below {w w':World} {B B':Nat} {v:Value} {l:List BrickT} (h:BricksAt w B v l) (hb:Below B' w w') (hB:B≤B'):BricksAt w' B v l:=Flat.below h hb hB
theorem BricksAt.mono {w:World} {B B':Nat} {v:Value} {l:List BrickT} (h:BricksAt w B v l) (hB:B≤B'):BricksAt w B' v l:=Flat.mono h hB
theorem ItemsAt.open_ {w:World} {B:Nat} {v:Value} {l:List ItemT} (h:ItemsAt w B v l) :
  ∃A c,v=.slice A l.length c∧l.length≤c∧c≤maxLen∧∀k (_:k<l.length),∃b off,A=some ⟨b,off,none⟩∧b<B∧∀j (hj:j<l.length),
   w.cell? ⟨b,off+j*7,none⟩=some (.string l[j].name)∧w.cell? ⟨b,off+j*7+1,none⟩=some (.int .i64 l[j].pos)∧w.cell? ⟨b,off+j*7+2,none⟩=some (.int .i64 l[j].width)∧w.cell? ⟨b,off+j*7+3,none⟩=some (.int .i64 l[j].wt)∧w.cell? ⟨b,off+j*7+4,none⟩=some (.int .i64 l[j].hang)∧w.cell? ⟨b,off+j*7+5,none⟩=some (.int .i64 l[j].front)∧w.cell? ⟨b,off+j*7+6,none⟩=some (.int .i64 l[j].back):=by
 obtain⟨A,c,h1,h2,h3,h4⟩:=h;refine⟨A,c,h1,h2,h3,fun k hk=>?_⟩;obtain⟨b,off,e,ao,hc⟩:=h4 (by omega);refine⟨b,off,e,ao,fun j hj=>?_⟩;have f:=fun (i:Nat) (hi:i<7) u (hu:l[j].cells[i]?=some u)=>hc (j*7+i) u ((vR ItemT.cells 7 (fun _=>rfl) l j i hj hi).trans hu);have g:=fun (i:Nat) (hi:i<7) u (hu:l[j].cells[i]?=some u)=>(congrArg (fun o=>w.cell? ⟨b,o,none⟩) (Nat.add_assoc off (j*7) i)).trans (f i hi u hu)
 exact⟨g 0 (by omega) _ rfl,g 1 (by omega) _ rfl,g 2 (by omega) _ rfl,g 3 (by omega) _ rfl,g 4 (by omega) _ rfl,g 5 (by omega) _ rfl,g 6 (by omega) _ rfl⟩
theorem BricksAt.open_ {w:World} {B:Nat} {v:Value} {l:List BrickT} (h:BricksAt w B v l) :
  ∃A c,v=.slice A l.length c∧l.length≤c∧c≤maxLen∧∀k (_:k<l.length),∃b off,A=some ⟨b,off,none⟩∧b<B∧∀j (hj:j<l.length),
   w.cell? ⟨b,off+j*3,none⟩=some (.string l[j].name)∧w.cell? ⟨b,off+j*3+1,none⟩=some (.int .i64 l[j].wt)∧w.cell? ⟨b,off+j*3+2,none⟩=some (.int .i64 l[j].cnt):=by
 obtain⟨A,c,h1,h2,h3,h4⟩:=h;refine⟨A,c,h1,h2,h3,fun k hk=>?_⟩;obtain⟨b,off,e,ao,hc⟩:=h4 (by omega);refine⟨b,off,e,ao,fun j hj=>?_⟩;have f:=fun (i:Nat) (hi:i<3) u (hu:l[j].cells[i]?=some u)=>hc (j*3+i) u ((vR BrickT.cells 3 (fun _=>rfl) l j i hj hi).trans hu);have g:=fun (i:Nat) (hi:i<3) u (hu:l[j].cells[i]?=some u)=>(congrArg (fun o=>w.cell? ⟨b,o,none⟩) (Nat.add_assoc off (j*3) i)).trans (f i hi u hu)
 exact⟨g 0 (by omega) _ rfl,g 1 (by omega) _ rfl,g 2 (by omega) _ rfl⟩
def fc (s:SetT) (Al:Option Addr) (cl:Nat) (Ai:Option Addr) (ci:Nat) (Ab:Option Addr) (cb:Nat):Value :=
 .agg (zA s Al cl Ai ci Ab cb)
def SetAt (w:World) (B:Nat) (v:Value) (s:SetT):Prop :=
 ∃Al cl Ai ci Ab cb,v=fc s Al cl Ai ci Ab cb∧bg w B (.slice Al s.lines.length cl) s.lines∧ItemsAt w B (.slice Ai s.items.length ci) s.items∧BricksAt w B (.slice Ab s.bricks.length cb) s.bricks
theorem SetAt.below {w w':World} {B B':Nat} {v:Value} {s:SetT} (h:SetAt w B v s) (hb:Below B' w w') (hB:B≤B'):SetAt w' B v s:=by
 obtain⟨Al,cl,Ai,ci,Ab,cb,h1,h2,h3,h4⟩:=h;exact⟨Al,cl,Ai,ci,Ab,cb,h1,h2.below hb hB,h3.below hb hB,h4.below hb hB⟩
theorem SetAt.mono {w:World} {B B':Nat} {v:Value} {s:SetT} (h:SetAt w B v s) (hB:B≤B'):SetAt w B' v s:=by
 obtain⟨Al,cl,Ai,ci,Ab,cb,h1,h2,h3,h4⟩:=h;exact⟨Al,cl,Ai,ci,Ab,cb,h1,h2.mono hB,h3.mono hB,h4.mono hB⟩
theorem SetAt.grow {w w':World} {v:Value} {s:SetT} (h:SetAt w w.heap.size v s) (hb:Below w.heap.size w w'):SetAt w' w'.heap.size v s:=(h.below hb (yA _)).mono hb.size
def eS (a b:ItemT):Bool:=decide (a.pos+a.width≤b.pos)||decide (b.pos+b.width≤a.pos)
theorem Zn (n lo hi:Int) (w:World):Calls Tryz.prog 36 #[.int .i64 n,.int .i64 lo,.int .i64 hi] w fun e w'=>e=.returned (.bool (Zw n lo hi))∧w=w':=by
 by_cases h1:lo≤n
 ·by_cases h2:n≤hi
  all_goals
   go_enter Tryz.func36,Tryz.ntmps36;go_wp2;go_ret;exact⟨Ze (by unfold Zw;symm;simp;omega),rfl⟩
 have Mv:decide (lo≤n)=false:=by simpa using h1
 go_enter Tryz.func36,Tryz.ntmps36;go_wp2;go_ret;exact⟨Ze (by unfold Zw;symm;simp;omega),rfl⟩
def fY (x:ItemT):Bool:=dw x.name&&(Zw x.wt 0 1048576&&(Zw x.hang 0 1048576&&(Zw x.front 0 1048576&&Zw x.back 0 1048576)))
def dr (x:ItemT) (len:Int):Bool:=decide (0≤x.pos)&&(Zw x.width 1 1048576&&decide (x.pos≤len-x.width))
theorem Zh {n lo hi:Int} (h:Zw n lo hi=true):lo≤n∧n≤hi:=yG h
theorem VZ (x y:ItemT) (w:World) (hx:0≤x.pos∧x.pos≤1048576∧1≤x.width∧x.width≤1048576) (hy:0≤y.pos∧y.pos≤1048576∧1≤y.width∧y.width≤1048576) :
  Calls Tryz.prog 85 #[x.val,y.val] w fun e w'=>e=.returned (.bool (eS x y))∧Below w.heap.size w w':=by
 have HB:Y0 (Below w.heap.size w ((w.alloc (.cells #[.string x.name,.int .i64 x.pos,.int .i64 x.width,.int .i64 x.wt,.int .i64 x.hang,.int .i64 x.front,.int .i64 x.back] 52)).alloc (.cells #[.string y.name,.int .i64 y.pos,.int .i64 y.width,.int .i64 y.wt,.int .i64 y.hang,.int .i64 y.front,.int .i64 y.back] 52))):=((yB _ _).alloc (yA _) _).alloc (by simp) _;have HV:Y0 (eS x y=(decide (x.pos+x.width≤y.pos)||decide (y.pos+y.width≤x.pos))):=rfl
 obtain⟨xn,xp,xw,x3,x4,x5,x6⟩:=x;obtain⟨yn,yp,yw,y3,y4,y5,y6⟩:=y;simp only at*;have v1:IntKind.i64.wrap (xp+xw)=xp+xw:=yF _ (by omega);have v2:IntKind.i64.wrap (yp+yw)=yp+yw:=yF _ (by omega);clear hx hy;by_cases h1:xp+xw≤yp
 ·have d1:decide (xp+xw≤yp)=true:=yD h1;go_enter Tryz.func85,Tryz.ntmps85;go_wp2_with fail;go_ret;exact⟨Ze (by rw[HV.o,d1];rfl),HB.o⟩
 have d1:decide (xp+xw≤yp)=false:=yC h1;go_enter Tryz.func85,Tryz.ntmps85;go_wp2_with fail;go_ret;exact⟨Ze (by rw[HV.o,d1];rfl),HB.o⟩
theorem OO (x:ItemT) (len:Int) (w:World) (hl:1000≤len∧len≤1048576) :
  Calls Tryz.prog 82 #[x.val,.int .i64 len] w fun e w'=>e=.returned (.bool (dr x len))∧Below w.heap.size w w':=by
 have HB:Y0 (Below w.heap.size w (w.alloc (.cells #[.string x.name,.int .i64 x.pos,.int .i64 x.width,.int .i64 x.wt,.int .i64 x.hang,.int .i64 x.front,.int .i64 x.back] 52))):=(yB _ _).alloc (yA _) _;have HV:Y0 (dr x len=(decide (0≤x.pos)&&(Zw x.width 1 1048576&&decide (x.pos≤len-x.width)))):=rfl;obtain⟨xn,xp,xw,x3,x4,x5,x6⟩:=x;simp only at*;have rf:=fun W=>Zn xw 1 1048576 W;by_cases h1:0≤xp
 ·have d1:decide (0≤xp)=true:=yD h1;rcases yL (Zw xw 1 1048576) with h2|h2
  ·have hw:=Zh h2;have v1:IntKind.i64.wrap (len-xw)=len-xw:=yF _ (by omega);rw[h2] at rf HV;clear hl hw h2;go_enter Tryz.func82,Tryz.ntmps82;go_wp2_with (go_at_call 36;refine (rf _).mono ?_;rintro e w' ⟨rfl,rfl⟩);go_ret;exact⟨Ze (by rw[HV.o,d1];rfl),HB.o⟩
  rw[h2] at rf HV;clear hl h2;go_enter Tryz.func82,Tryz.ntmps82;go_wp2_with (go_at_call 36;refine (rf _).mono ?_;rintro e w' ⟨rfl,rfl⟩);go_ret;exact⟨Ze (by rw[HV.o,d1];rfl),HB.o⟩
 have d1:decide (0≤xp)=false:=yC h1;clear hl rf;go_enter Tryz.func82,Tryz.ntmps82;go_wp2_with fail;go_ret;exact⟨Ze (by rw[HV.o,d1];rfl),HB.o⟩
theorem Wa (x:ItemT) (w:World) (hn:x.name.size≤maxLen) :
  Calls Tryz.prog 81 #[x.val] w fun e w'=>e=.returned (.bool (fY x))∧Below w.heap.size w w':=by
 have HB:Y0 (Below w.heap.size w (w.alloc (.cells #[.string x.name,.int .i64 x.pos,.int .i64 x.width,.int .i64 x.wt,.int .i64 x.hang,.int .i64 x.front,.int .i64 x.back] 52))):=(yB _ _).alloc (yA _) _;have iu:=fun W=>mf x.name hn W;have HV:Y0 (fY x=(dw x.name&&(Zw x.wt 0 1048576&&(Zw x.hang 0 1048576&&(Zw x.front 0 1048576&&Zw x.back 0 1048576))))):=rfl;obtain⟨xn,xp,xw,x3,x4,x5,x6⟩:=x;simp only at*
 clear hn;rcases yL (dw xn) with h0|h0;rotate_left
 ·go_enter Tryz.func81,Tryz.ntmps81;go_wp2_with (first|(go_at_call 35;refine (iu _).mono ?_;rintro e w' ⟨rfl,rfl⟩;rw[h0])|(go_at_call 36;refine (Zn _ _ _ _).mono ?_;rintro e w' ⟨rfl,rfl⟩;skip));go_ret;exact⟨Ze (by rw[HV.o,h0];rfl),HB.o⟩
 rcases yL (Zw x3 0 1048576) with h1|h1;rotate_left
 ·go_enter Tryz.func81,Tryz.ntmps81;go_wp2_with (first|(go_at_call 35;refine (iu _).mono ?_;rintro e w' ⟨rfl,rfl⟩;rw[h0])|(go_at_call 36;refine (Zn _ _ _ _).mono ?_;rintro e w' ⟨rfl,rfl⟩;try rw[h1]));go_ret;exact⟨Ze (by rw[HV.o,h0,h1];rfl),HB.o⟩
 rcases yL (Zw x4 0 1048576) with h2|h2;rotate_left
 ·go_enter Tryz.func81,Tryz.ntmps81;go_wp2_with (first|(go_at_call 35;refine (iu _).mono ?_;rintro e w' ⟨rfl,rfl⟩;rw[h0])|(go_at_call 36;refine (Zn _ _ _ _).mono ?_;rintro e w' ⟨rfl,rfl⟩;try rw[h1];try rw[h2]));go_ret;exact⟨Ze (by rw[HV.o,h0,h1,h2];rfl),HB.o⟩
 rcases yL (Zw x5 0 1048576) with h3|h3;rotate_left
 ·go_enter Tryz.func81,Tryz.ntmps81;go_wp2_with (first|(go_at_call 35;refine (iu _).mono ?_;rintro e w' ⟨rfl,rfl⟩;rw[h0])|(go_at_call 36;refine (Zn _ _ _ _).mono ?_;rintro e w' ⟨rfl,rfl⟩;try rw[h1];try rw[h2];try rw[h3]));go_ret;exact⟨Ze (by rw[HV.o,h0,h1,h2,h3];rfl),HB.o⟩
 rcases yL (Zw x6 0 1048576) with h4|h4;rotate_left
 ·go_enter Tryz.func81,Tryz.ntmps81;go_wp2_with (first|(go_at_call 35;refine (iu _).mono ?_;rintro e w' ⟨rfl,rfl⟩;rw[h0])|(go_at_call 36;refine (Zn _ _ _ _).mono ?_;rintro e w' ⟨rfl,rfl⟩;try rw[h1];try rw[h2];try rw[h3];try rw[h4]));go_ret;exact⟨Ze (by rw[HV.o,h0,h1,h2,h3,h4];rfl),HB.o⟩
 go_enter Tryz.func81,Tryz.ntmps81;go_wp2_with (first|(go_at_call 35;refine (iu _).mono ?_;rintro e w' ⟨rfl,rfl⟩;rw[h0])|(go_at_call 36;refine (Zn _ _ _ _).mono ?_;rintro e w' ⟨rfl,rfl⟩;try rw[h1];try rw[h2];try rw[h3];try rw[h4]));go_ret;exact⟨Ze (by rw[HV.o,h0,h1,h2,h3,h4];rfl),HB.o⟩
theorem Vv:∀args w,(callFunc 80 args).run Tryz.prog w=.ok (.enter 80 args) w:=enters_of Tryz.func80 (by kernel_rfl) rfl
theorem G7 (x:ItemT) (w:World):Calls Tryz.prog 80 #[x.val] w fun e w'=>e=.returned (.string x.name)∧w'=w.alloc (.cells #[.string x.name,.int .i64 x.pos,.int .i64 x.width,.int .i64 x.wt,.int .i64 x.hang,.int .i64 x.front,.int .i64 x.back] 52):=by
 obtain⟨xn,xp,xw,x3,x4,x5,x6⟩:=x;simp only at*;go_enter Tryz.func80,Tryz.ntmps80;go_wp2_with fail;go_ret;exact⟨rfl,rfl⟩
theorem Vx:∀args w,(callFunc 87 args).run Tryz.prog w=.ok (.enter 87 args) w:=enters_of Tryz.func87 (by kernel_rfl) rfl
theorem Di (x:BrickT) (w:World):Calls Tryz.prog 87 #[x.val] w fun e w'=>e=.returned (.string x.name)∧w'=w.alloc (.cells #[.string x.name,.int .i64 x.wt,.int .i64 x.cnt] 54):=by
 obtain⟨xn,x1,x2⟩:=x;simp only at*;go_enter Tryz.func87,Tryz.ntmps87;go_wp2_with fail;go_ret;exact⟨rfl,rfl⟩
