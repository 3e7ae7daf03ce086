/- Lemmas. -/
import Derived.Test.YtknkhnahflmjiaaGreatDoorV3
namespace Go.Proofs.YtknkhnahflmjiaaGreatDoor
set_option maxRecDepth 100000
set_option maxHeartbeats 40000000
open Go.RowKit Go.Shelf
def cd (md:Region.Mode) (ops:Array Oper) (i j:Nat):Bool :=
 match ops[i]? with
 | some o=>o.after.any fun e=>Region.binds md e&&e.on==j
 | none=>false
def Xt (md:Region.Mode) (ops:Array Oper) (S:List Nat) (i m:Nat):Bool :=
 (List.range S.length).all fun k=>(!cd md ops i (S.getD k 0)||decide (k<m))&&(!cd md ops (S.getD k 0) i||decide (m≤k))
def fL (md:Region.Mode) (ops:Array Oper) (_S:List Nat):Bool :=
 Region.noSelect ops&&ops.all (fun o=>o.guard.isNone) &&
 (List.range ops.size).all fun i=>match ops[i]? with
  | none=>false
  | some o=>(o.after.all fun e=>!Region.binds md e||decide (e.on < i)) &&
   (List.range ops.size).all fun j=>match ops[j]? with
    | none=>false
    | some p=>match p.dst with
     | none=>true
     | some d=>(!(o.looksAt ops).contains d||cd md ops i j)&&(decide (i=j) || !(o.dst==some d))
def ui (md:Region.Mode) (ops:Array Oper) (S:List Nat):Bool :=
 (List.range S.length).all fun k=>decide (S.getD k 0<ops.size)&&(decide (k=0)||cd md ops (S.getD k 0) (S.getD (k-1) 0))&&(match ops[S.getD k 0]? with|some o=>o.dst.isNone|none=>false)
section
variable {P:Program} {ops:Array Oper} {md:Region.Mode} {V:Nat→Value} {Wd:Nat→World} {S:List Nat}
theorem fQ {i j:Nat} {o:Oper} (ho:ops[i]?=some o):cd md ops i j=true ↔ ∃e∈o.after,Region.binds md e=true∧e.on=j:=by
 unfold cd;rw[ho];dsimp only
 rw[←Array.any_toList,List.any_eq_true];simp only[Bool.and_eq_true,beq_iff_eq,Array.mem_toList_iff]
def dm (ops:Array Oper) (i:Nat):Option Tmp:=(ops[i]?).bind (·.dst)
def j7 (ops:Array Oper) (V:Nat→Value) (done:Array Bool):List Nat→Act→Act
 | [],a=>a
 | i::r,a=>j7 ops V done r (if done.getD i true=false then a.put (dm ops i) (V i) else a)
theorem qH {done:Array Bool} {i:Nat}:∀(L:List Nat) (a:Act),i∉L→j7 ops V (done.setIfInBounds i true) L a=j7 ops V done L a
 | [],_,_=>rfl
 | j::r,a,h=>by
  have Mr:i≠j:=fun e=>h (by rw[e];simp);unfold j7;rw[getD_set_ne true Mr,qH r _ (fun hh=>h (by simp[hh]))]
theorem lv {done:Array Bool} {i:Nat} (hi:done.getD i true=false) (aI:i<done.size) (hd:∀j,j≠i→∀d,dm ops i=some d→dm ops j≠some d):∀(L:List Nat) (a:Act),L.Nodup→i∈L →
  j7 ops V (done.setIfInBounds i true) L (a.put (dm ops i) (V i))=j7 ops V done L a
 | [],_,_,h=>by cases h
 | j::r,a,hn,hm=>by
  rw[List.nodup_cons] at hn;unfold j7;by_cases e:j=i
  ·subst e;have h1:(done.setIfInBounds j true).getD j true=true:=by
    simp[Array.getD,aI]
   rw[if_neg (by rw[h1];simp),if_pos hi,qH r _ hn.1]
  rw[getD_set_ne true (Ne.symm e)];have hm':i∈r:=by
   rcases List.mem_cons.1 hm with h|h
   ·exact absurd h.symm e
   exact h
  by_cases hj:done.getD j true=false
  ·rw[if_pos hj,if_pos hj,Act.put_comm a (V i) (V j) (hd j e),lv hi aI hd r _ hn.2 hm']
  rw[if_neg hj,if_neg hj,lv hi aI hd r _ hn.2 hm']
theorem lI {done:Array Bool} {o:Oper} (hs:∀cs b,o.op ≠ .select cs b):∀(L:List Nat) (a:Act),(∀j∈L,done.getD j true=false→∀d,dm ops j=some d→d∉o.looksAt ops)→execOp (j7 ops V done L a).eval o=execOp a.eval o
 | [],_,_=>rfl
 | j::r,a,h=>by
  unfold j7;by_cases hj:done.getD j true=false
  ·rw[if_pos hj,lI hs r _ (fun j hj=>h j (by simp[hj])),execOp_put (ops:=ops) o hs a _ _ (h j (by simp) hj)]
  rw[if_neg hj,lI hs r _ (fun j hj=>h j (by simp[hj]))]
def left (done:Array Bool) (n:Nat):Nat:=((List.range n).filter fun i=>!done.getD i true).length
theorem qP {done:Array Bool} {i:Nat} (hi:done.getD i true=false) (aI:i < done.size):∀L:List Nat,L.Nodup→i∈L→(L.filter fun i=>!done.getD i true).length=(L.filter fun j=>!(done.setIfInBounds i true).getD j true).length + 1
 | [],_,h=>by cases h
 | j::r,hn,hm=>by
  rw[List.nodup_cons] at hn;have vqC:∀r:List Nat,i∉r→(r.filter fun j=>!(done.setIfInBounds i true).getD j true)=r.filter fun j=>!done.getD j true:=fun r hr=>
   List.filter_congr fun x hx=>by rw[getD_set_ne true (fun e=>hr (by rw[e];exact hx))]
  by_cases e:j=i
  ·subst e;have h1:(done.setIfInBounds j true).getD j true=true:=by
    simp[Array.getD,aI]
   rw[List.filter_cons_of_pos (by rw[hi];rfl),List.filter_cons_of_neg (by rw[h1];simp),vqC r hn.1];rfl
  have hm':i∈r:=by
   rcases List.mem_cons.1 hm with h|h
   ·exact absurd h.symm e
   exact h
  have ih:=qP hi aI r hn.2 hm';have h2:=getD_set_ne (listed:=done) true (Ne.symm e);cases hj:done.getD j true
  ·rw[List.filter_cons_of_pos (by rw[hj];rfl),List.filter_cons_of_pos (by rw[h2,hj];rfl),List.length_cons,List.length_cons,ih]
  rw[List.filter_cons_of_neg (by rw[hj];simp),List.filter_cons_of_neg (by rw[h2,hj];simp),ih]
structure FInv (md:Region.Mode) (ops:Array Oper) (V:Nat→Value) (Wd:Nat→World) (S:List Nat) (aF:Act) (done:Array Bool) (a:Act) (w:World):Prop where
 size:done.size=ops.size
 act:j7 ops V done (List.range ops.size) a=aF
 closed:∀j,done.getD j false=true→∀i,cd md ops j i=true→done.getD i false=true
 world:∃m,m≤S.length∧w=Wd m∧∀k,k<S.length→done.getD (S.getD k 0) false=decide (k<m)
theorem cV {done:Array Bool} {i:Nat} (h:i<done.size):done.getD i true=done.getD i false:=by
 simp[Array.getD,h]
def Au (P:Program) (md:Region.Mode) (ops:Array Oper) (V:Nat→Value) (Wd:Nat→World) (S:List Nat) (aF:Act) (i:Nat) (o:Oper):Prop :=
 (i∉S∧∀m,m≤S.length→Xt md ops S i m=true→(execOp aF.eval o).run P (Wd m)=.ok (.value (V i)) (Wd m))∨(∃k,S[k]?=some i∧(execOp aF.eval o).run P (Wd k)=.ok .skip (Wd (k+1)))
theorem RN {Q:Exit→Act→World→Prop} {aF:Act} (hF:fL md ops S=true) (hS:ui md ops S=true) (hN:S.Nodup)
  (hW:∀i o,ops[i]?=some o→Au P md ops V Wd S aF i o) (hQ:Q .normal aF (Wd S.length)) :
  ∀(f:Nat) (done:Array Bool) (a:Act) (w:World),FInv md ops V Wd S aF done a w→left done ops.size=f→wpAny P md ops Q f done a w:=by
 unfold fL at hF;simp only[Bool.and_eq_true,List.all_eq_true,List.mem_range] at hF;obtain⟨⟨jW,oQ⟩,hF⟩:=hF;unfold ui at hS;simp only[Bool.and_eq_true,List.all_eq_true,List.mem_range,decide_eq_true_eq,Bool.or_eq_true] at hS;have CU:∀i j,cd md ops i j=true→j<i:=fun i j h=>by
  unfold cd at h
  cases ho:ops[i]? with
  | none=>rw[ho] at h;cases h
  | some o=>
   obtain⟨e,he,h1,h2⟩:=(fQ ho).1 (by unfold cd;exact h);have hi:=hF i (Array.getElem?_eq_some_iff.1 ho).1;rw[ho] at hi;simp only[Bool.and_eq_true] at hi;have h3:=Array.all_eq_true_iff_forall_mem.1 hi.1 e he;simp only[Bool.or_eq_true,Bool.not_eq_true',decide_eq_true_eq] at h3;rcases h3 with h3|h3
   ·rw[h1] at h3;cases h3
   omega
 have jX:∀done:Array Bool,done.size=ops.size→∀i,i∈Region.ready md ops done↔(i<ops.size∧done.getD i false=false∧∀j,cd md ops i j=true→done.getD j false=true):=fun done fO i=>by
  rw[mem_ready];constructor
  ·rintro⟨h1,o,ho,h2⟩;have hi:=(Array.getElem?_eq_some_iff.1 ho).1;refine⟨hi,by rw[←cV (by omega)];exact h1,fun j hj=>?_⟩;obtain⟨e,he,h3,rfl⟩:=(fQ ho).1 hj;exact h2 e he h3
  rintro⟨hi,h1,h2⟩;refine⟨by rw[cV (by omega)];exact h1,ops[i],Array.getElem?_eq_getElem hi,fun e he hb=>h2 _ ((fQ (Array.getElem?_eq_getElem hi)).2 ⟨e,he,hb,rfl⟩)⟩
 have tH:∀(done:Array Bool) (a:Act) (w:World),FInv md ops V Wd S aF done a w→Region.ready md ops done=[]→Q .normal a w:=fun done a w inv hr=>by
  have tI:∀i,i<ops.size→done.getD i false=true:=fun i=>by
   induction i using Nat.strongRecOn with
   | _ i ih=>
    intro hi;cases h:done.getD i false
    case true=>rfl
    have:i∈Region.ready md ops done:=(jX done inv.size i).2 ⟨hi,h,fun j hj=>ih j (CU i j hj) (by have:=CU i j hj;omega)⟩;rw[hr] at this;cases this
  have hp:∀L:List Nat,(∀i∈L,i<ops.size)→∀b,j7 ops V done L b=b:=fun L=>by
   induction L with
   | nil=>intro _ _;rfl
   | cons i r ih=>
    intro h b;unfold j7;have h1:done.getD i true=true:=by rw[cV (by rw[inv.size];exact h i (by simp))];exact tI i (h i (by simp))
    rw[if_neg (by rw[h1];simp)];exact ih (fun j hj=>h j (by simp[hj])) b
  have ha:=inv.act;rw[hp _ (fun i hi=>List.mem_range.1 hi)] at ha;obtain⟨m,hm,rfl,hd⟩:=inv.world;have hmS:m=S.length:=by
   rcases Nat.lt_or_ge m S.length with h|h
   ·have h1:=hd m h;rw[tI _ (hS m h).1.1] at h1;exact absurd (yG h1.symm) (Nat.lt_irrefl _)
   omega
  rw[ha,hmS];exact hQ
 intro f
 induction f with
 | zero=>
  intro done a w inv hl;have hr:Region.ready md ops done=[]:=by
   rw[List.eq_nil_iff_forall_not_mem];intro i hi;obtain⟨h1,h2,-⟩:=(jX done inv.size i).1 hi;have h3:i∈(List.range ops.size).filter fun i=>!done.getD i true:=List.mem_filter.2 ⟨List.mem_range.2 h1,by rw[cV (by rw[inv.size];exact h1),h2];rfl⟩;unfold left at hl;rw[List.length_eq_zero_iff] at hl;rw[hl] at h3;cases h3
  exact⟨hr,tH done a w inv hr⟩
 | succ f ih=>
  intro done a w inv hl;refine⟨tH done a w inv,fun i hi=>?_⟩;obtain⟨iq,Lh,GV⟩:=(jX done inv.size i).1 hi;have hit:done.getD i true=false:=by rw[cV (by rw[inv.size];exact iq)];exact Lh
  have ho:=Array.getElem?_eq_getElem iq;generalize UA:ops[i]=o at ho;unfold wpOp;rw[ho];dsimp only
  have hg:=Array.all_eq_true_iff_forall_mem.1 oQ o (by rw[←UA];exact Array.getElem_mem iq);have hw:Region.wanted o (yielded ops a.tmps)=true:=by
   unfold Region.wanted;rw[Option.isNone_iff_eq_none.1 hg]
  rw[if_pos hw];refine .inl ?_;have J5:=hF i iq;rw[ho] at J5;simp only[Bool.and_eq_true] at J5;have Ry:=Region.noSelect_spec jW;have hex:execOp aF.eval o=execOp a.eval o:=by
   rw[←inv.act];refine lI (ops:=ops) (fun cs b=>Ry i o cs b ho) _ _ fun j hj Jv d hd Ra=>?_;have pb:=List.mem_range.1 hj;have h1:=List.all_eq_true.1 J5.2 j (List.mem_range.2 pb);rw[Array.getElem?_eq_getElem pb] at h1;unfold dm at hd;rw[Array.getElem?_eq_getElem pb] at hd;simp only[Option.bind_some] at hd;dsimp only at h1
   rw[hd] at h1;simp only[Bool.and_eq_true,Bool.or_eq_true,Bool.not_eq_true',List.contains_eq_mem,decide_eq_false_iff_not] at h1;rcases h1.1 with h2|h2
   ·exact h2 Ra
   have h3:=GV j h2;rw[cV (by rw[inv.size];exact pb),h3] at Jv;cases Jv
  have CY:∀j,j≠i→∀d,dm ops i=some d→dm ops j≠some d:=fun j Mr d hd xX=>by
   unfold dm at xX
   cases Jw:ops[j]? with
   | none=>rw[Jw] at xX;cases xX
   | some p=>
    have pb:=(Array.getElem?_eq_some_iff.1 Jw).1;rw[Jw] at xX;simp only[Option.bind_some] at xX;have h1:=List.all_eq_true.1 J5.2 j (List.mem_range.2 pb);rw[Jw] at h1;dsimp only at h1
    rw[xX] at h1;unfold dm at hd;rw[ho] at hd;simp only[Option.bind_some] at hd;simp only[Bool.and_eq_true,Bool.or_eq_true,Bool.not_eq_true',decide_eq_true_eq,beq_eq_false_iff_ne] at h1;rcases h1.2 with h2|h2
    ·exact Mr h2.symm
    exact h2 hd
  have mN:∀u w',(∃m,m≤S.length∧w'=Wd m∧∀k,k<S.length→(done.setIfInBounds i true).getD (S.getD k 0) false=decide (k<m))→(dm ops i=none∨u=V i)→wpAny P md ops Q f (done.setIfInBounds i true) (a.put o.dst u) w':=fun u w' GN hu=>by
   refine ih _ _ _ ⟨by rw[Array.size_setIfInBounds];exact inv.size,?_,fun j hj k hk=>?_,GN⟩ ?_
   ·have hdo:o.dst=dm ops i:=by unfold dm;rw[ho];rfl
    have h2:=lv (V:=V) hit (by rw[inv.size];exact iq) CY (List.range ops.size) a List.nodup_range (List.mem_range.2 iq);rw[hdo];rcases hu with hu|hu
    ·rw[hu] at h2⊢;exact h2.trans inv.act
    rw[hu];exact h2.trans inv.act
   ·by_cases e:i=j
    ·subst e;exact getD_set_true (GV k hk)
    rw[getD_set_ne false e] at hj;exact getD_set_true (inv.closed j hj k hk)
   unfold left at hl⊢
   have:=qP hit (by rw[inv.size];exact iq) (List.range ops.size) List.nodup_range (List.mem_range.2 iq);omega
  obtain⟨m,hm,rfl,hd⟩:=inv.world;unfold Oper.wp;rcases hW i o ho with⟨UB,h1⟩|⟨k,hk,h1⟩
  ·have ki:=h1 m hm (by
    unfold Xt;rw[List.all_eq_true];intro k hk;have aK:=List.mem_range.1 hk;simp only[Bool.and_eq_true,Bool.or_eq_true,Bool.not_eq_true',decide_eq_true_eq];constructor
    ·cases GM:cd md ops i (S.getD k 0) with
     | false=>exact .inl rfl
     | true=>
      have h2:=hd k aK;rw[GV _ GM] at h2;exact .inr (yG h2.symm)
    cases GM:cd md ops (S.getD k 0) i
    ·exact .inl rfl
    refine .inr (Nat.le_of_not_lt fun aI=>?_);have h2:=hd k aK;rw[yD aI] at h2;have h3:=inv.closed _ h2 i GM;rw[Lh] at h3;cases h3)
   rw[←hex,ki];exact mN _ _ ⟨m,hm,rfl,fun k hk=>by
    have fS:i≠S.getD k 0:=fun e=>UB (by rw[e,yO,yN hk];exact yV hk);rw[getD_set_ne false fS];exact hd k hk⟩ (.inr rfl)
  have aK:=(List.getElem?_eq_some_iff.1 hk).1;have CW:S.getD k 0=i:=by rw[yO,hk];rfl
  have hmk:m=k:=by
   have h2:=hd k aK;rw[CW,Lh] at h2;have h3:=of_decide_eq_false h2.symm;rcases Nat.eq_zero_or_pos k with h0|h0
   ·omega
   rcases (hS k aK).1.2 with h4|h4
   ·omega
   rw[CW] at h4;have h5:=hd (k-1) (by omega);rw[GV _ h4] at h5
   have:=yG h5.symm;omega
  subst hmk;have hdn:dm ops i=none:=by
   have h4:=(hS m aK).2;rw[CW,ho] at h4;unfold dm;rw[ho];exact Option.isNone_iff_eq_none.1 h4
  rw[←hex,h1];exact mN _ _ ⟨m+1,aK,rfl,fun k2 CX=>by
   by_cases e:i=S.getD k2 0
   ·have hkk:k2=m:=by
     have e1:S[k2]=S[m]:=by
      rw[yO,yN CX] at e;rw[yO,yN aK] at CW;exact (e.symm.trans CW.symm)
     exact (List.getElem_inj hN).1 e1
    subst hkk;rw[←e];have h9:i<done.size:=by rw[inv.size];exact iq
    simp[Array.getD,h9]
   rw[getD_set_ne false e,hd k2 CX];have fS:k2≠m:=fun e2=>e (by rw[e2];exact CW.symm);rw[decide_eq_decide];omega⟩ (.inl hdn)
theorem uA {id:Nat} {Q:Exit→Act→World→Prop} {a:Act} {w:World} {l:List Oper} (V:Nat→Value) (Wd:Nat→World) (S:List Nat) (hm:P.follows .mixedOrders=true)
  (hF:fL .any l.toArray S=true) (hS:ui .any l.toArray S=true) (hN:S.Nodup) (h0:Wd 0=w.drew)
  (h:∀aF,j7 l.toArray V (Array.replicate l.toArray.size false) (List.range l.toArray.size) a=aF→(∀i o,l.toArray[i]?=some o→Au P .any l.toArray V Wd S aF i o)∧Q .normal aF (Wd S.length)):(Code.region id l.toArray true).wp P Q a w:=by
 refine wp_region_any hm ?_;obtain⟨h1,h2⟩:=h _ rfl;refine RN (V:=V) (Wd:=Wd) (S:=S) hF hS hN h1 h2 _ _ _ _ ⟨by simp,rfl,fun j hj=>?_,0,yI _,h0.symm,fun k hk=>?_⟩ ?_
 ·rw[getD_replicate_false] at hj;cases hj
 ·rw[getD_replicate_false];simp
 unfold left;rw[List.filter_eq_self.2 (fun i hi=>by rw[getD_in (by simpa using List.mem_range.1 hi) (getD_replicate_false _ _)];rfl),List.length_range]
def aY:List Oper→List Value→Act→Act
 | o::r,v::vs,a=>aY r vs (a.put o.dst v)
 | _,_,a=>a
def J8 (P:Program) (ops:Array Oper) (Wd:Nat→World) (S:List Nat) (aF:Act) (i:Nat) (o:Oper) (v:Value):Prop :=
 (i∉S∧∀m,m≤S.length→Xt .any ops S i m=true→(execOp aF.eval o).run P (Wd m)=.ok (.value v) (Wd m))∨(∃k,S[k]?=some i∧(execOp aF.eval o).run P (Wd k)=.ok .skip (Wd (k+1)))
def qZ (P:Program) (ops:Array Oper) (Wd:Nat→World) (S:List Nat) (aF:Act):Nat→List Oper→List Value→Prop
 | i,o::r,v::vs=>J8 P ops Wd S aF i o v∧qZ P ops Wd S aF (i+1) r vs
 | _,_,_=>True
theorem qI {l:List Oper} {Vs:List Value}:∀(r:List Oper) (vs:List Value) (k:Nat) (a:Act),r.length=vs.length→(∀j,r[j]?=l[k+j]?)→(∀j,vs[j]?=Vs[k+j]?)→k+r.length=l.length →
  j7 l.toArray (fun i=>Vs.getD i undef) (Array.replicate l.toArray.size false) (List.range' k r.length) a=aY r vs a
 | [],[],_,_,_,_,_,_=>rfl
 | [],_::_,_,_,h,_,_,_=>by cases h
 | _::_,[],_,_,h,_,_,_=>by cases h
 | o::r,v::vs,k,a,h,h1,h2,h3=>by
  have ho:l[k]?=some o:=by simpa using (h1 0).symm
  have hv:Vs[k]?=some v:=by simpa using (h2 0).symm
  have aK:k<l.length:=(List.getElem?_eq_some_iff.1 ho).1;rw[List.length_cons,List.range'_succ];unfold j7 aY;rw[if_pos (getD_in (by simpa using aK) (getD_replicate_false _ _))];have hd:dm l.toArray k=o.dst:=by unfold dm;rw[List.getElem?_toArray,ho];rfl
  have hV:Vs.getD k undef=v:=by rw[yO,hv];rfl
  rw[hd,hV];refine qI r vs (k+1) _ (by simpa using h) (fun j=>?_) (fun j=>?_) (by rw[List.length_cons] at h3;omega)
  ·have:=h1 (j+1);rw[List.getElem?_cons_succ] at this;rw[this,show k+(j+1)=k+1+j by omega]
  have:=h2 (j+1);rw[List.getElem?_cons_succ] at this;rw[this,show k+(j+1)=k+1+j by omega]
theorem Dl {P:Program} {l:List Oper} {Vs:List Value} {Wd:Nat→World} {S:List Nat} {aF:Act}:∀(r:List Oper) (vs:List Value) (k:Nat),r.length=vs.length→(∀j,r[j]?=l[k+j]?)→(∀j,vs[j]?=Vs[k+j]?)→qZ P l.toArray Wd S aF k r vs →
  ∀j o,r[j]?=some o→Au P .any l.toArray (fun i=>Vs.getD i undef) Wd S aF (k+j) o
 | [],_,_,_,_,_,_,_,_,h=>by simp at h
 | _::_,[],_,h,_,_,_,_,_,_=>by cases h
 | o::r,v::vs,k,h,h1,h2,hF,j,o',ho'=>by
  unfold qZ at hF
  cases j with
  | zero=>
   obtain rfl:o=o':=by simpa using ho'
   have hv:Vs[k]?=some v:=by simpa using (h2 0).symm
   have hV:Vs.getD k undef=v:=by rw[yO,hv];rfl
   have h4:=hF.1;unfold J8 at h4;unfold Au;rw[Nat.add_zero];dsimp only
   rw[hV];exact h4
  | succ j=>
   rw[List.getElem?_cons_succ] at ho';rw[show k+(j+1)=k+1+j by omega];refine Dl r vs (k+1) (by simpa using h) (fun j=>?_) (fun j=>?_) hF.2 j o' ho'
   ·have:=h1 (j+1);rw[List.getElem?_cons_succ] at this;rw[this,show k+(j+1)=k+1+j by omega]
   have:=h2 (j+1);rw[List.getElem?_cons_succ] at this;rw[this,show k+(j+1)=k+1+j by omega]
theorem t7 {P:Program} {id:Nat} {Q:Exit→Act→World→Prop} {a:Act} {w:World} {l:List Oper} (Vs:List Value) (Wd:Nat→World) (S:List Nat) (hm:P.follows .mixedOrders=true)
  (hF:fL .any l.toArray S=true) (hS:ui .any l.toArray S=true) (hN:S.Nodup) (hl:l.length=Vs.length) (h0:Wd 0=w.drew)
  (h1:qZ P l.toArray Wd S (aY l Vs a) 0 l Vs) (h2:Q .normal (aY l Vs a) (Wd S.length)):(Code.region id l.toArray true).wp P Q a w:=by
 refine uA (fun i=>Vs.getD i undef) Wd S hm hF hS hN h0 ?_;rintro aF rfl;have e:j7 l.toArray (fun i=>Vs.getD i undef) (Array.replicate l.toArray.size false) (List.range l.toArray.size) a=aY l Vs a:=by
  rw[List.size_toArray,List.range_eq_range'];exact qI l Vs 0 a hl (fun j=>by rw[yS]) (fun j=>by rw[yS]) (by omega)
 rw[e];refine⟨fun i o ho=>?_,h2⟩;rw[List.getElem?_toArray] at ho
 have:=Dl (P:=P) l Vs 0 hl (fun j=>by rw[yS]) (fun j=>by rw[yS]) h1 i o ho;rwa [yS] at this
end
def rq (md:Region.Mode) (ops:Array Oper) (S:List Nat):Bool :=
 (List.range S.length).all fun k=>decide (S.getD k 0<ops.size)&&(decide (k=0)||cd md ops (S.getD k 0) (S.getD (k-1) 0)||(List.range ops.size).any fun j=>cd md ops (S.getD k 0) j&&cd md ops j (S.getD (k-1) 0))
section
variable {P:Program} {ops:Array Oper} {md:Region.Mode} {V:Nat→Value} {Wd:Nat→World} {S:List Nat}
def uq (P:Program) (md:Region.Mode) (ops:Array Oper) (V:Nat→Value) (Wd:Nat→World) (S:List Nat) (aF:Act) (i:Nat) (o:Oper):Prop :=
 (i∉S∧∀m,m≤S.length→Xt md ops S i m=true→(execOp aF.eval o).run P (Wd m)=.ok (.value (V i)) (Wd m))∨(∃k,S[k]?=some i∧((o.dst=none∧(execOp aF.eval o).run P (Wd k)=.ok .skip (Wd (k+1)))∨(execOp aF.eval o).run P (Wd k)=.ok (.value (V i)) (Wd (k+1))∨∃f args,(execOp aF.eval o).run P (Wd k)=.ok (.enter f args) (Wd k)∧Calls P f args (Wd k) fun e w'=>e=.returned (V i)∧w'=Wd (k+1)))
theorem LA {Q:Exit→Act→World→Prop} {aF:Act} (hF:fL md ops S=true) (hS:rq md ops S=true) (hN:S.Nodup)
  (hW:∀i o,ops[i]?=some o→uq P md ops V Wd S aF i o) (hQ:Q .normal aF (Wd S.length)) :
  ∀(f:Nat) (done:Array Bool) (a:Act) (w:World),FInv md ops V Wd S aF done a w→left done ops.size=f→wpAny P md ops Q f done a w:=by
 unfold fL at hF;simp only[Bool.and_eq_true,List.all_eq_true,List.mem_range] at hF;obtain⟨⟨jW,oQ⟩,hF⟩:=hF;unfold rq at hS;simp only[Bool.and_eq_true,List.all_eq_true,List.mem_range,decide_eq_true_eq,Bool.or_eq_true] at hS;have CU:∀i j,cd md ops i j=true→j<i:=fun i j h=>by
  unfold cd at h
  cases ho:ops[i]? with
  | none=>rw[ho] at h;cases h
  | some o=>
   obtain⟨e,he,h1,h2⟩:=(fQ ho).1 (by unfold cd;exact h);have hi:=hF i (Array.getElem?_eq_some_iff.1 ho).1;rw[ho] at hi;simp only[Bool.and_eq_true] at hi;have h3:=Array.all_eq_true_iff_forall_mem.1 hi.1 e he;simp only[Bool.or_eq_true,Bool.not_eq_true',decide_eq_true_eq] at h3;rcases h3 with h3|h3
   ·rw[h1] at h3;cases h3
   omega
 have jX:∀done:Array Bool,done.size=ops.size→∀i,i∈Region.ready md ops done↔(i<ops.size∧done.getD i false=false∧∀j,cd md ops i j=true→done.getD j false=true):=fun done fO i=>by
  rw[mem_ready];constructor
  ·rintro⟨h1,o,ho,h2⟩;have hi:=(Array.getElem?_eq_some_iff.1 ho).1;refine⟨hi,by rw[←cV (by omega)];exact h1,fun j hj=>?_⟩;obtain⟨e,he,h3,rfl⟩:=(fQ ho).1 hj;exact h2 e he h3
  rintro⟨hi,h1,h2⟩;refine⟨by rw[cV (by omega)];exact h1,ops[i],Array.getElem?_eq_getElem hi,fun e he hb=>h2 _ ((fQ (Array.getElem?_eq_getElem hi)).2 ⟨e,he,hb,rfl⟩)⟩
 have tH:∀(done:Array Bool) (a:Act) (w:World),FInv md ops V Wd S aF done a w→Region.ready md ops done=[]→Q .normal a w:=fun done a w inv hr=>by
  have tI:∀i,i<ops.size→done.getD i false=true:=fun i=>by
   induction i using Nat.strongRecOn with
   | _ i ih=>
    intro hi;cases h:done.getD i false
    case true=>rfl
    have:i∈Region.ready md ops done:=(jX done inv.size i).2 ⟨hi,h,fun j hj=>ih j (CU i j hj) (by have:=CU i j hj;omega)⟩;rw[hr] at this;cases this
  have hp:∀L:List Nat,(∀i∈L,i<ops.size)→∀b,j7 ops V done L b=b:=fun L=>by
   induction L with
   | nil=>intro _ _;rfl
   | cons i r ih=>
    intro h b;unfold j7;have h1:done.getD i true=true:=by rw[cV (by rw[inv.size];exact h i (by simp))];exact tI i (h i (by simp))
    rw[if_neg (by rw[h1];simp)];exact ih (fun j hj=>h j (by simp[hj])) b
  have ha:=inv.act;rw[hp _ (fun i hi=>List.mem_range.1 hi)] at ha;obtain⟨m,hm,rfl,hd⟩:=inv.world;have hmS:m=S.length:=by
   rcases Nat.lt_or_ge m S.length with h|h
   ·have h1:=hd m h;rw[tI _ (hS m h).1] at h1;exact absurd (yG h1.symm) (Nat.lt_irrefl _)
   omega
  rw[ha,hmS];exact hQ
 intro f
 induction f with
 | zero=>
  intro done a w inv hl;have hr:Region.ready md ops done=[]:=by
   rw[List.eq_nil_iff_forall_not_mem];intro i hi;obtain⟨h1,h2,-⟩:=(jX done inv.size i).1 hi;have h3:i∈(List.range ops.size).filter fun i=>!done.getD i true:=List.mem_filter.2 ⟨List.mem_range.2 h1,by rw[cV (by rw[inv.size];exact h1),h2];rfl⟩;unfold left at hl;rw[List.length_eq_zero_iff] at hl;rw[hl] at h3;cases h3
  exact⟨hr,tH done a w inv hr⟩
 | succ f ih=>
  intro done a w inv hl;refine⟨tH done a w inv,fun i hi=>?_⟩;obtain⟨iq,Lh,GV⟩:=(jX done inv.size i).1 hi;have hit:done.getD i true=false:=by rw[cV (by rw[inv.size];exact iq)];exact Lh
  have ho:=Array.getElem?_eq_getElem iq;generalize UA:ops[i]=o at ho;unfold wpOp;rw[ho];dsimp only
  have hg:=Array.all_eq_true_iff_forall_mem.1 oQ o (by rw[←UA];exact Array.getElem_mem iq);have hw:Region.wanted o (yielded ops a.tmps)=true:=by
   unfold Region.wanted;rw[Option.isNone_iff_eq_none.1 hg]
  rw[if_pos hw];refine .inl ?_;have J5:=hF i iq;rw[ho] at J5;simp only[Bool.and_eq_true] at J5;have Ry:=Region.noSelect_spec jW;have hex:execOp aF.eval o=execOp a.eval o:=by
   rw[←inv.act];refine lI (ops:=ops) (fun cs b=>Ry i o cs b ho) _ _ fun j hj Jv d hd Ra=>?_;have pb:=List.mem_range.1 hj;have h1:=List.all_eq_true.1 J5.2 j (List.mem_range.2 pb);rw[Array.getElem?_eq_getElem pb] at h1;unfold dm at hd;rw[Array.getElem?_eq_getElem pb] at hd;simp only[Option.bind_some] at hd;dsimp only at h1
   rw[hd] at h1;simp only[Bool.and_eq_true,Bool.or_eq_true,Bool.not_eq_true',List.contains_eq_mem,decide_eq_false_iff_not] at h1;rcases h1.1 with h2|h2
   ·exact h2 Ra
   have h3:=GV j h2;rw[cV (by rw[inv.size];exact pb),h3] at Jv;cases Jv
  have CY:∀j,j≠i→∀d,dm ops i=some d→dm ops j≠some d:=fun j Mr d hd xX=>by
   unfold dm at xX
   cases Jw:ops[j]? with
   | none=>rw[Jw] at xX;cases xX
   | some p=>
    have pb:=(Array.getElem?_eq_some_iff.1 Jw).1;rw[Jw] at xX;simp only[Option.bind_some] at xX;have h1:=List.all_eq_true.1 J5.2 j (List.mem_range.2 pb);rw[Jw] at h1;dsimp only at h1
    rw[xX] at h1;unfold dm at hd;rw[ho] at hd;simp only[Option.bind_some] at hd;simp only[Bool.and_eq_true,Bool.or_eq_true,Bool.not_eq_true',decide_eq_true_eq,beq_eq_false_iff_ne] at h1;rcases h1.2 with h2|h2
    ·exact Mr h2.symm
    exact h2 hd
  have mN:∀u w',(∃m,m≤S.length∧w'=Wd m∧∀k,k<S.length→(done.setIfInBounds i true).getD (S.getD k 0) false=decide (k<m))→(dm ops i=none∨u=V i)→wpAny P md ops Q f (done.setIfInBounds i true) (a.put o.dst u) w':=fun u w' GN hu=>by
   refine ih _ _ _ ⟨by rw[Array.size_setIfInBounds];exact inv.size,?_,fun j hj k hk=>?_,GN⟩ ?_
   ·have hdo:o.dst=dm ops i:=by unfold dm;rw[ho];rfl
    have h2:=lv (V:=V) hit (by rw[inv.size];exact iq) CY (List.range ops.size) a List.nodup_range (List.mem_range.2 iq);rw[hdo];rcases hu with hu|hu
    ·rw[hu] at h2⊢;exact h2.trans inv.act
    rw[hu];exact h2.trans inv.act
   ·by_cases e:i=j
    ·subst e;exact getD_set_true (GV k hk)
    rw[getD_set_ne false e] at hj;exact getD_set_true (inv.closed j hj k hk)
   unfold left at hl⊢
   have:=qP hit (by rw[inv.size];exact iq) (List.range ops.size) List.nodup_range (List.mem_range.2 iq);omega
  obtain⟨m,hm,rfl,hd⟩:=inv.world;unfold Oper.wp;rcases hW i o ho with⟨UB,h1⟩|⟨k,hk,h1⟩
  ·have ki:=h1 m hm (by
    unfold Xt;rw[List.all_eq_true];intro k hk;have aK:=List.mem_range.1 hk;simp only[Bool.and_eq_true,Bool.or_eq_true,Bool.not_eq_true',decide_eq_true_eq];constructor
    ·cases GM:cd md ops i (S.getD k 0) with
     | false=>exact .inl rfl
     | true=>
      have h2:=hd k aK;rw[GV _ GM] at h2;exact .inr (yG h2.symm)
    cases GM:cd md ops (S.getD k 0) i
    ·exact .inl rfl
    refine .inr (Nat.le_of_not_lt fun aI=>?_);have h2:=hd k aK;rw[yD aI] at h2;have h3:=inv.closed _ h2 i GM;rw[Lh] at h3;cases h3)
   rw[←hex,ki];exact mN _ _ ⟨m,hm,rfl,fun k hk=>by
    have fS:i≠S.getD k 0:=fun e=>UB (by rw[e,yO,yN hk];exact yV hk);rw[getD_set_ne false fS];exact hd k hk⟩ (.inr rfl)
  have aK:=(List.getElem?_eq_some_iff.1 hk).1;have CW:S.getD k 0=i:=by rw[yO,hk];rfl
  have hmk:m=k:=by
   have h2:=hd k aK;rw[CW,Lh] at h2;have h3:=of_decide_eq_false h2.symm;rcases Nat.eq_zero_or_pos k with h0|h0
   ·omega
   rcases (hS k aK).2 with (h4|h4)|h4
   ·omega
   ·rw[CW] at h4;have h5:=hd (k-1) (by omega);rw[GV _ h4] at h5
    have:=yG h5.symm;omega
   obtain⟨j,-,h6⟩:=List.any_eq_true.1 h4;rw[Bool.and_eq_true,CW] at h6;have h5:=hd (k-1) (by omega);rw[inv.closed j (GV _ h6.1) _ h6.2] at h5
   have:=yG h5.symm;omega
  subst hmk;have uc:∃m',m'≤S.length∧Wd (m+1)=Wd m'∧∀k,k<S.length→(done.setIfInBounds i true).getD (S.getD k 0) false=decide (k<m'):=⟨m+1,aK,rfl,fun k2 CX=>by
   by_cases e:i=S.getD k2 0
   ·have hkk:k2=m:=by
     have e1:S[k2]=S[m]:=by
      rw[yO,yN CX] at e;rw[yO,yN aK] at CW;exact (e.symm.trans CW.symm)
     exact (List.getElem_inj hN).1 e1
    subst hkk;rw[←e];have h9:i<done.size:=by rw[inv.size];exact iq
    simp[Array.getD,h9]
   rw[getD_set_ne false e,hd k2 CX];have fS:k2≠m:=fun e2=>e (by rw[e2];exact CW.symm);rw[decide_eq_decide];omega⟩
  rcases h1 with⟨hdn,h1⟩|h1|⟨f,args,h1,hC⟩
  ·rw[←hex,h1];exact mN _ _ uc (.inl (by unfold dm;rw[ho];exact hdn))
  ·rw[←hex,h1];exact mN _ _ uc (.inr rfl)
  rw[←hex,h1];refine hC.mono ?_;rintro e w' ⟨rfl,rfl⟩;exact mN _ _ uc (.inr rfl)
theorem t8 {id:Nat} {Q:Exit→Act→World→Prop} {a:Act} {w:World} {l:List Oper} (V:Nat→Value) (Wd:Nat→World) (S:List Nat) (hm:P.follows .mixedOrders=true)
  (hF:fL .any l.toArray S=true) (hS:rq .any l.toArray S=true) (hN:S.Nodup) (h0:Wd 0=w.drew)
  (h:∀aF,j7 l.toArray V (Array.replicate l.toArray.size false) (List.range l.toArray.size) a=aF→(∀i o,l.toArray[i]?=some o→uq P .any l.toArray V Wd S aF i o)∧Q .normal aF (Wd S.length)):(Code.region id l.toArray true).wp P Q a w:=by
 refine wp_region_any hm ?_;obtain⟨h1,h2⟩:=h _ rfl;refine LA (V:=V) (Wd:=Wd) (S:=S) hF hS hN h1 h2 _ _ _ _ ⟨by simp,rfl,fun j hj=>?_,0,yI _,h0.symm,fun k hk=>?_⟩ ?_
 ·rw[getD_replicate_false] at hj;cases hj
 ·rw[getD_replicate_false];simp
 unfold left;rw[List.filter_eq_self.2 (fun i hi=>by rw[getD_in (by simpa using List.mem_range.1 hi) (getD_replicate_false _ _)];rfl),List.length_range]
def DG (P:Program) (ops:Array Oper) (Wd:Nat→World) (S:List Nat) (aF:Act) (i:Nat) (o:Oper) (v:Value):Prop :=
 (i∉S∧∀m,m≤S.length→Xt .any ops S i m=true→(execOp aF.eval o).run P (Wd m)=.ok (.value v) (Wd m))∨(∃k,S[k]?=some i∧((o.dst=none∧(execOp aF.eval o).run P (Wd k)=.ok .skip (Wd (k+1)))∨(execOp aF.eval o).run P (Wd k)=.ok (.value v) (Wd (k+1))∨∃f args,(execOp aF.eval o).run P (Wd k)=.ok (.enter f args) (Wd k)∧Calls P f args (Wd k) fun e w'=>e=.returned v∧w'=Wd (k+1)))
def lL (P:Program) (ops:Array Oper) (Wd:Nat→World) (S:List Nat) (aF:Act):Nat→List Oper→List Value→Prop
 | i,o::r,v::vs=>DG P ops Wd S aF i o v∧lL P ops Wd S aF (i+1) r vs
 | _,_,_=>True
theorem yx {P:Program} {l:List Oper} {Vs:List Value} {Wd:Nat→World} {S:List Nat} {aF:Act}:∀(r:List Oper) (vs:List Value) (k:Nat),r.length=vs.length→(∀j,r[j]?=l[k+j]?)→(∀j,vs[j]?=Vs[k+j]?)→lL P l.toArray Wd S aF k r vs →
  ∀j o,r[j]?=some o→uq P .any l.toArray (fun i=>Vs.getD i undef) Wd S aF (k+j) o
 | [],_,_,_,_,_,_,_,_,h=>by simp at h
 | _::_,[],_,h,_,_,_,_,_,_=>by cases h
 | o::r,v::vs,k,h,h1,h2,hF,j,o',ho'=>by
  unfold lL at hF
  cases j with
  | zero=>
   obtain rfl:o=o':=by simpa using ho'
   have hv:Vs[k]?=some v:=by simpa using (h2 0).symm
   have hV:Vs.getD k undef=v:=by rw[yO,hv];rfl
   have h4:=hF.1;unfold DG at h4;unfold uq;rw[Nat.add_zero];dsimp only
   rw[hV];exact h4
  | succ j=>
   rw[List.getElem?_cons_succ] at ho';rw[show k+(j+1)=k+1+j by omega];refine yx r vs (k+1) (by simpa using h) (fun j=>?_) (fun j=>?_) hF.2 j o' ho'
   ·have:=h1 (j+1);rw[List.getElem?_cons_succ] at this;rw[this,show k+(j+1)=k+1+j by omega]
   have:=h2 (j+1);rw[List.getElem?_cons_succ] at this;rw[this,show k+(j+1)=k+1+j by omega]
theorem kT {P:Program} {id:Nat} {Q:Exit→Act→World→Prop} {a:Act} {w:World} {l:List Oper} (Vs:List Value) (Wd:Nat→World) (S:List Nat) (hm:P.follows .mixedOrders=true)
  (hF:fL .any l.toArray S=true) (hS:rq .any l.toArray S=true) (hN:S.Nodup) (hl:l.length=Vs.length) (h0:Wd 0=w.drew)
  (h1:lL P l.toArray Wd S (aY l Vs a) 0 l Vs) (h2:Q .normal (aY l Vs a) (Wd S.length)):(Code.region id l.toArray true).wp P Q a w:=by
 refine t8 (fun i=>Vs.getD i undef) Wd S hm hF hS hN h0 ?_;rintro aF rfl;have e:j7 l.toArray (fun i=>Vs.getD i undef) (Array.replicate l.toArray.size false) (List.range l.toArray.size) a=aY l Vs a:=by
  rw[List.size_toArray,List.range_eq_range'];exact qI l Vs 0 a hl (fun j=>by rw[yS]) (fun j=>by rw[yS]) (by omega)
 rw[e];refine⟨fun i o ho=>?_,h2⟩;rw[List.getElem?_toArray] at ho
 have:=yx (P:=P) l Vs 0 hl (fun j=>by rw[yS]) (fun j=>by rw[yS]) h1 i o ho;rwa [yS] at this
end
theorem mG {P:Program} {o:Oper} {ρ:Operand→Value} {w w':World} {s x:Operand} {t:TypeId} {v u r:Value} (ho:o.op=.call { callee := .builtin .append,args := #[s,x],argTypes := #[t,t] }) (hs:ρ s=v) (hx:ρ x=u)
  (hr:(Builtin.append_ #[t,t] o.type #[v,u]).run P w=.ok r w'):(execOp ρ o).run P w=.ok (.value r) w':=by
 unfold execOp;simp only[ho,resolve,invoke,builtin,Sem.run_bind,Sem.run_pure,Result.andThen_ok,List.map_toArray,List.map_cons,List.map_nil,hs,hx,hr]
section
variable {P:Program} {ops:Array Oper} {md:Region.Mode} {S:List Nat}
def vW (ops:Array Oper) (a0:Act) (V:Nat→Value):Act:=j7 ops V (Array.replicate ops.size false) (List.range ops.size) a0
theorem sC {l:List Oper} {Vs:List Value} {a:Act} (hl:l.length=Vs.length):vW l.toArray a (fun i=>Vs.getD i undef)=aY l Vs a:=by
 unfold vW;rw[List.size_toArray,List.range_eq_range'];exact qI l Vs 0 a hl (fun j=>by rw[yS]) (fun j=>by rw[yS]) (by omega)
end
section
variable {P:Program} {ops:Array Oper} {md:Region.Mode} {S:List Nat}
def ja (md:Region.Mode) (ops:Array Oper) (i:Nat):Nat→List Nat
 | 0=>[]
 | k+1=>if cd md ops k i||(ja md ops i k).any (fun r=>cd md ops k r) then k::ja md ops i k else ja md ops i k
def ep (md:Region.Mode) (ops:Array Oper) (j i:Nat):Bool:=(ja md ops i ops.size).contains j
theorem jT {done:Array Bool} (hc:∀j,done.getD j false=true→∀i,cd md ops j i=true→done.getD i false=true) {i:Nat}:∀k j,j∈ja md ops i k→done.getD j false=true→done.getD i false=true
 | 0,_,h,_=>by simp[ja] at h
 | k+1,j,h,hd=>by
  unfold ja at h;split at h
  ·rename_i hw
   rcases List.mem_cons.1 h with rfl|h
   ·rcases Bool.or_eq_true _ _ |>.mp hw with hw|hw
    ·exact hc _ hd _ hw
    obtain⟨r,hr,h2⟩:=List.any_eq_true.1 hw;exact jT hc _ r hr (hc _ hd _ h2)
   exact jT hc _ j h hd
  exact jT hc _ j h hd
theorem nC {done:Array Bool} (hc:∀j,done.getD j false=true→∀i,cd md ops j i=true→done.getD i false=true) {i j:Nat} (hj:∀r,cd md ops j r=true→done.getD r false=true):∀k,j∈ja md ops i k→done.getD i false=true
 | 0,h=>by simp[ja] at h
 | k+1,h=>by
  unfold ja at h;split at h
  ·rename_i hw
   rcases List.mem_cons.1 h with rfl|h
   ·rcases Bool.or_eq_true _ _ |>.mp hw with hw|hw
    ·exact hj _ hw
    obtain⟨r,hr,h2⟩:=List.any_eq_true.1 hw;exact jT hc _ r hr (hj _ h2)
   exact nC hc hj _ h
  exact nC hc hj _ h
theorem sQ {done:Array Bool} (hc:∀j,done.getD j false=true→∀i,cd md ops j i=true→done.getD i false=true) {i j:Nat} (h:ep md ops j i=true) (hd:done.getD j false=true):done.getD i false=true :=
 jT hc _ j (by unfold ep at h;simpa using h) hd
theorem qt {done:Array Bool} (hc:∀j,done.getD j false=true→∀i,cd md ops j i=true→done.getD i false=true) {i j:Nat} (hj:∀r,cd md ops j r=true→done.getD r false=true) (h:ep md ops j i=true):done.getD i false=true :=
 nC hc hj _ (by unfold ep at h;simpa using h)
def okP (md:Region.Mode) (ops:Array Oper) (S L:List Nat) (i:Nat):Bool :=
 S.all fun s=>if L.contains s then !ep md ops i s else !ep md ops s i
def rdP (md:Region.Mode) (ops:Array Oper) (L:List Nat) (i:Nat):Bool :=
 L.all fun s=>!ep md ops i s
def zI (P:Program) (md:Region.Mode) (ops:Array Oper) (S:List Nat) (a0:Act) (L:List Nat) (V:Nat→Value) (w:World):Prop :=
 ∀i o,ops[i]?=some o→i∉S→okP md ops S L i=true→(execOp (vW ops a0 V).eval o).run P w=.ok (.value (V i)) w
def zS (P:Program) (md:Region.Mode) (ops:Array Oper) (S:List Nat) (a0:Act) (Q:Exit→Act→World→Prop):Nat→List Nat→(Nat→Value)→World→Prop
 | 0,L,V,w=>zI P md ops S a0 L V w∧(L=[]→Q .normal (vW ops a0 V) w)
 | n+1,L,V,w=>zI P md ops S a0 L V w∧(L=[]→Q .normal (vW ops a0 V) w)∧∀i o,i∈L→rdP md ops L i=true→ops[i]?=some o →
  (o.dst=none∧∃w' V',(execOp (vW ops a0 V).eval o).run P w=.ok .skip w'∧(∀j,j≠i→ep md ops j i=false→V' j=V j)∧zS P md ops S a0 Q n (L.erase i) V' w') ∨
  (∃v w' V',(execOp (vW ops a0 V).eval o).run P w=.ok (.value v) w'∧(∀j,j≠i→ep md ops j i=false→V' j=V j)∧V' i=v∧zS P md ops S a0 Q n (L.erase i) V' w') ∨
  ∃f args,(execOp (vW ops a0 V).eval o).run P w=.ok (.enter f args) w∧Calls P f args w fun e w'=>∃v V',e=.returned v∧(∀j,j≠i→ep md ops j i=false→V' j=V j)∧V' i=v∧zS P md ops S a0 Q n (L.erase i) V' w'
theorem xQ {a0:Act} {Q:Exit→Act→World→Prop} {n:Nat} {L:List Nat} {V:Nat→Value} {w:World} (h:zS P md ops S a0 Q n L V w):zI P md ops S a0 L V w∧(L=[]→Q .normal (vW ops a0 V) w):=by
 cases n with
 | zero=>exact h
 | succ n=>exact⟨h.1,h.2.1⟩
structure PInv (P:Program) (md:Region.Mode) (ops:Array Oper) (S:List Nat) (a0:Act) (Q:Exit→Act→World→Prop) (V:Nat→Value) (done:Array Bool) (a:Act) (w:World):Prop where
 size:done.size=ops.size
 act:∀V2:Nat→Value,(∀j,done.getD j false=true→V2 j=V j)→j7 ops V2 done (List.range ops.size) a=vW ops a0 V2
 closed:∀j,done.getD j false=true→∀i,cd md ops j i=true→done.getD i false=true
 world:∃L:List Nat,L.Nodup∧(∀s,s∈L→s∈S)∧zS P md ops S a0 Q L.length L V w∧∀s,s∈S→done.getD s false=decide (s∉L)
theorem Ut {Q:Exit→Act→World→Prop} {a0:Act} (hF:fL md ops S=true) (hS:S.all (fun s=>decide (s<ops.size))=true) :
  ∀(f:Nat) (V:Nat→Value) (done:Array Bool) (a:Act) (w:World),PInv P md ops S a0 Q V done a w→left done ops.size=f→wpAny P md ops Q f done a w:=by
 unfold fL at hF;simp only[Bool.and_eq_true,List.all_eq_true,List.mem_range] at hF;obtain⟨⟨jW,oQ⟩,hF⟩:=hF;have hS:=fun s hs=>yG (List.all_eq_true.1 hS s hs);have CU:∀i j,cd md ops i j=true→j<i:=fun i j h=>by
  unfold cd at h
  cases ho:ops[i]? with
  | none=>rw[ho] at h;cases h
  | some o=>
   obtain⟨e,he,h1,h2⟩:=(fQ ho).1 (by unfold cd;exact h);have hi:=hF i (Array.getElem?_eq_some_iff.1 ho).1;rw[ho] at hi;simp only[Bool.and_eq_true] at hi;have h3:=Array.all_eq_true_iff_forall_mem.1 hi.1 e he;simp only[Bool.or_eq_true,Bool.not_eq_true',decide_eq_true_eq] at h3;rcases h3 with h3|h3
   ·rw[h1] at h3;cases h3
   omega
 have jX:∀done:Array Bool,done.size=ops.size→∀i,i∈Region.ready md ops done↔(i<ops.size∧done.getD i false=false∧∀j,cd md ops i j=true→done.getD j false=true):=fun done fO i=>by
  rw[mem_ready];constructor
  ·rintro⟨h1,o,ho,h2⟩;have hi:=(Array.getElem?_eq_some_iff.1 ho).1;refine⟨hi,by rw[←cV (by omega)];exact h1,fun j hj=>?_⟩;obtain⟨e,he,h3,rfl⟩:=(fQ ho).1 hj;exact h2 e he h3
  rintro⟨hi,h1,h2⟩;refine⟨by rw[cV (by omega)];exact h1,ops[i],Array.getElem?_eq_getElem hi,fun e he hb=>h2 _ ((fQ (Array.getElem?_eq_getElem hi)).2 ⟨e,he,hb,rfl⟩)⟩
 have tH:∀(V:Nat→Value) (done:Array Bool) (a:Act) (w:World),PInv P md ops S a0 Q V done a w→Region.ready md ops done=[]→Q .normal a w:=fun V done a w inv hr=>by
  have tI:∀i,i<ops.size→done.getD i false=true:=fun i=>by
   induction i using Nat.strongRecOn with
   | _ i ih=>
    intro hi;cases h:done.getD i false
    case true=>rfl
    have:i∈Region.ready md ops done:=(jX done inv.size i).2 ⟨hi,h,fun j hj=>ih j (CU i j hj) (by have:=CU i j hj;omega)⟩;rw[hr] at this;cases this
  have hp:∀L:List Nat,(∀i∈L,i<ops.size)→∀b,j7 ops V done L b=b:=fun L=>by
   induction L with
   | nil=>intro _ _;rfl
   | cons i r ih=>
    intro h b;unfold j7;have h1:done.getD i true=true:=by rw[cV (by rw[inv.size];exact h i (by simp))];exact tI i (h i (by simp))
    rw[if_neg (by rw[h1];simp)];exact ih (fun j hj=>h j (by simp[hj])) b
  have ha:=inv.act V (fun _ _=>rfl);rw[hp _ (fun i hi=>List.mem_range.1 hi)] at ha;obtain⟨L,hN,hLS,hI,hd⟩:=inv.world;have hL:L=[]:=by
   rw[List.eq_nil_iff_forall_not_mem];intro s hs;have h1:=hd s (hLS s hs);rw[tI _ (hS s (hLS s hs))] at h1;exact yG h1.symm hs
  rw[ha];exact (xQ hI).2 hL
 intro f
 induction f with
 | zero=>
  intro V done a w inv hl;have hr:Region.ready md ops done=[]:=by
   rw[List.eq_nil_iff_forall_not_mem];intro i hi;obtain⟨h1,h2,-⟩:=(jX done inv.size i).1 hi;have h3:i∈(List.range ops.size).filter fun i=>!done.getD i true:=List.mem_filter.2 ⟨List.mem_range.2 h1,by rw[cV (by rw[inv.size];exact h1),h2];rfl⟩;unfold left at hl;rw[List.length_eq_zero_iff] at hl;rw[hl] at h3;cases h3
  exact⟨hr,tH V done a w inv hr⟩
 | succ f ih=>
  intro V done a w inv hl;refine⟨tH V done a w inv,fun i hi=>?_⟩;obtain⟨iq,Lh,GV⟩:=(jX done inv.size i).1 hi;have hit:done.getD i true=false:=by rw[cV (by rw[inv.size];exact iq)];exact Lh
  have ho:=Array.getElem?_eq_getElem iq;generalize UA:ops[i]=o at ho;unfold wpOp;rw[ho];dsimp only
  have hg:=Array.all_eq_true_iff_forall_mem.1 oQ o (by rw[←UA];exact Array.getElem_mem iq);have hw:Region.wanted o (yielded ops a.tmps)=true:=by
   unfold Region.wanted;rw[Option.isNone_iff_eq_none.1 hg]
  rw[if_pos hw];refine .inl ?_;have J5:=hF i iq;rw[ho] at J5;simp only[Bool.and_eq_true] at J5;have Ry:=Region.noSelect_spec jW;have hex:execOp (vW ops a0 V).eval o=execOp a.eval o:=by
   rw[←inv.act V (fun _ _=>rfl)];refine lI (ops:=ops) (fun cs b=>Ry i o cs b ho) _ _ fun j hj Jv d hd Ra=>?_;have pb:=List.mem_range.1 hj;have h1:=List.all_eq_true.1 J5.2 j (List.mem_range.2 pb);rw[Array.getElem?_eq_getElem pb] at h1;unfold dm at hd;rw[Array.getElem?_eq_getElem pb] at hd;simp only[Option.bind_some] at hd;dsimp only at h1
   rw[hd] at h1;simp only[Bool.and_eq_true,Bool.or_eq_true,Bool.not_eq_true',List.contains_eq_mem,decide_eq_false_iff_not] at h1;rcases h1.1 with h2|h2
   ·exact h2 Ra
   have h3:=GV j h2;rw[cV (by rw[inv.size];exact pb),h3] at Jv;cases Jv
  have CY:∀j,j≠i→∀d,dm ops i=some d→dm ops j≠some d:=fun j Mr d hd xX=>by
   unfold dm at xX
   cases Jw:ops[j]? with
   | none=>rw[Jw] at xX;cases xX
   | some p=>
    have pb:=(Array.getElem?_eq_some_iff.1 Jw).1;rw[Jw] at xX;simp only[Option.bind_some] at xX;have h1:=List.all_eq_true.1 J5.2 j (List.mem_range.2 pb);rw[Jw] at h1;dsimp only at h1
    rw[xX] at h1;unfold dm at hd;rw[ho] at hd;simp only[Option.bind_some] at hd;simp only[Bool.and_eq_true,Bool.or_eq_true,Bool.not_eq_true',decide_eq_true_eq,beq_eq_false_iff_ne] at h1;rcases h1.2 with h2|h2
    ·exact Mr h2.symm
    exact h2 hd
  have Xx:(done.setIfInBounds i true).getD i false=true:=by
   have h9:i<done.size:=by rw[inv.size];exact iq
   simp[Array.getD,h9]
  have mN:∀(V':Nat→Value) u w',(∀j,done.getD j false=true→V' j=V j)→(∃L:List Nat,L.Nodup∧(∀s,s∈L→s∈S)∧zS P md ops S a0 Q L.length L V' w'∧∀s,s∈S→(done.setIfInBounds i true).getD s false=decide (s∉L))→(dm ops i=none∨u=V' i)→wpAny P md ops Q f (done.setIfInBounds i true) (a.put o.dst u) w':=fun V' u w' hV GN hu=>by
   refine ih V' _ _ _ ⟨by rw[Array.size_setIfInBounds];exact inv.size,fun V2 hV2=>?_,fun j hj k hk=>?_,GN⟩ ?_
   ·have hVi:V2 i=V' i:=hV2 i Xx;have hVd:∀j,done.getD j false=true→V2 j=V j:=fun j hj=>(hV2 j (getD_set_true hj)).trans (hV j hj);have hdo:o.dst=dm ops i:=by unfold dm;rw[ho];rfl
    have h2:=lv (V:=V2) hit (by rw[inv.size];exact iq) CY (List.range ops.size) a List.nodup_range (List.mem_range.2 iq);rw[hdo];rcases hu with hu|hu
    ·rw[hu] at h2⊢;exact h2.trans (inv.act V2 hVd)
    rw[hu,←hVi];exact h2.trans (inv.act V2 hVd)
   ·by_cases e:i=j
    ·subst e;exact getD_set_true (GV k hk)
    rw[getD_set_ne false e] at hj;exact getD_set_true (inv.closed j hj k hk)
   unfold left at hl⊢
   have:=qP hit (by rw[inv.size];exact iq) (List.range ops.size) List.nodup_range (List.mem_range.2 iq);omega
  obtain⟨L,hN,hLS,hI,hd⟩:=inv.world;unfold Oper.wp;by_cases UB:i∈S;rotate_left
  ·have ki:=(xQ hI).1 i o ho UB (by
    unfold okP;rw[List.all_eq_true];intro s hs;by_cases hsL:s∈L
    ·rw[if_pos (by simpa using hsL)];cases GM:ep md ops i s
     ·rfl
     have h2:=hd s hs;rw[qt inv.closed GV GM] at h2;exact absurd hsL (yG h2.symm)
    rw[if_neg (by simpa using hsL)];cases GM:ep md ops s i
    ·rfl
    have h2:=hd s hs;rw[yD hsL] at h2;have h3:=sQ inv.closed GM h2;rw[Lh] at h3;cases h3)
   rw[←hex,ki];exact mN V _ _ (fun _ _=>rfl) ⟨L,hN,hLS,hI,fun s hs=>by
    have fS:i≠s:=fun e=>UB (e▸hs);rw[getD_set_ne false fS];exact hd s hs⟩ (.inr rfl)
  have hiL:i∈L:=by
   have h2:=hd i UB;rw[Lh] at h2;have h3:=of_decide_eq_false h2.symm;exact Classical.not_not.1 h3
  have hrd:rdP md ops L i=true:=by
   unfold rdP;rw[List.all_eq_true];intro s hs;have hsd:done.getD s false=false:=by rw[hd s (hLS s hs)];exact yC (fun h=>h hs)
   cases GM:ep md ops i s
   ·rfl
   rw[qt inv.closed GV GM] at hsd;cases hsd
  obtain⟨n,hn⟩:∃n,L.length=n+1:=⟨L.length-1,by have:=List.length_pos_of_mem hiL;omega⟩;rw[hn] at hI;have h1:=hI.2.2 i o hiL hrd ho;have UT:∀V':Nat→Value,(∀j,j≠i→ep md ops j i=false→V' j=V j)→∀j,done.getD j false=true→V' j=V j:=fun V' h j hj=>h j (fun e=>by rw[e,Lh] at hj;cases hj) (by
   cases GM:ep md ops j i
   ·rfl
   have:=sQ inv.closed GM hj;rw[Lh] at this;cases this)
  have uc:∀(V':Nat→Value) w',zS P md ops S a0 Q n (L.erase i) V' w'→∃L':List Nat,L'.Nodup∧(∀s,s∈L'→s∈S)∧zS P md ops S a0 Q L'.length L' V' w'∧∀s,s∈S→(done.setIfInBounds i true).getD s false=decide (s∉L'):=fun V' w' GN=>by
   refine⟨L.erase i,hN.erase i,fun s hs=>hLS s (List.mem_of_mem_erase hs),by rw[List.length_erase_of_mem hiL,hn];exact GN,fun s hs=>?_⟩;by_cases e:i=s
   ·subst e;rw[Xx];have hni:¬i∈L.erase i:=fun h=>((List.Nodup.mem_erase_iff hN).1 h).1 rfl;exact (yD hni).symm
   rw[getD_set_ne false e,hd s hs,decide_eq_decide];exact not_congr ((List.mem_erase_of_ne (Ne.symm e)).symm)
  rcases h1 with⟨hdn,w',V',h1,h2,h3⟩|⟨v,w',V',h1,h2,h3,h4⟩|⟨f',args,h1,hC⟩
  ·rw[←hex,h1];exact mN V' _ _ (UT V' h2) (uc V' w' h3) (.inl (by unfold dm;rw[ho];exact hdn))
  ·rw[←hex,h1];exact mN V' _ _ (UT V' h2) (uc V' w' h4) (.inr h3.symm)
  rw[←hex,h1];refine hC.mono ?_;rintro e w' ⟨v,V',rfl,h2,h3,h4⟩;exact mN V' _ _ (UT V' h2) (uc V' w' h4) (.inr h3.symm)
theorem cI {id:Nat} {Q:Exit→Act→World→Prop} {a:Act} {w:World} {l:List Oper} (V:Nat→Value) (S:List Nat) (hm:P.follows .mixedOrders=true)
  (hF:fL .any l.toArray S=true) (hS:S.all (fun s=>decide (s<l.toArray.size))=true) (hN:S.Nodup) (h:zS P .any l.toArray S a Q S.length S V w.drew):(Code.region id l.toArray true).wp P Q a w:=by
 refine wp_region_any hm ?_;refine Ut hF hS _ V _ _ _ ⟨by simp,fun V2 _=>rfl,fun j hj=>?_,S,hN,fun _ h=>h,h,fun s hs=>?_⟩ ?_
 ·rw[getD_replicate_false] at hj;cases hj
 ·rw[getD_replicate_false];exact (yC (fun h=>h hs)).symm
 unfold left;rw[List.filter_eq_self.2 (fun i hi=>by rw[getD_in (by simpa using List.mem_range.1 hi) (getD_replicate_false _ _)];rfl),List.length_range]
def mm (P:Program) (ops:Array Oper) (S:List Nat) (aF:Act) (L:List Nat) (w:World):Nat→List Oper→List Value→Prop
 | i,o::r,v::vs=>(S.contains i=true∨okP .any ops S L i=false∨(execOp aF.eval o).run P w=.ok (.value v) w)∧mm P ops S aF L w (i+1) r vs
 | _,_,_=>True
theorem uM {aF:Act} {L:List Nat} {w:World} {Vs:List Value}:∀(r:List Oper) (vs:List Value) (k:Nat),r.length=vs.length→(∀j,vs[j]?=Vs[k+j]?)→mm P ops S aF L w k r vs →
  ∀j o,r[j]?=some o→S.contains (k+j)=true∨okP .any ops S L (k+j)=false∨(execOp aF.eval o).run P w=.ok (.value (Vs.getD (k+j) undef)) w
 | [],_,_,_,_,_,j,o,ho=>by simp at ho
 | _::_,[],_,hl,_,_,_,_,_=>by simp at hl
 | o::r,v::vs,k,hl,hv,h,j,o',ho=>by
  cases j with
  | zero=>
   obtain rfl:o=o':=by simpa using ho
   have h0:=hv 0;rw[List.getElem?_cons_zero] at h0;have e:Vs.getD (k+0) undef=v:=by rw[yO,←h0];rfl
   rw[e];exact h.1
  | succ j=>
   rw[List.getElem?_cons_succ] at ho;have h1:=uM r vs (k+1) (by simpa using hl) (fun j=>by
    have:=hv (j+1);rw[List.getElem?_cons_succ] at this;rw[this,show k+(j+1)=k+1+j by omega]) h.2 j o' ho
   rwa [show k+1+j=k+(j+1) by omega] at h1
theorem sU {l:List Oper} {Vs:List Value} {a:Act} {L:List Nat} {w:World} (hl:l.length=Vs.length) (h:mm P l.toArray S (aY l Vs a) L w 0 l Vs):zI P .any l.toArray S a L (fun i=>Vs.getD i undef) w:=by
 intro i o ho UB bM;rw[List.getElem?_toArray] at ho;rw[sC hl]
 have:=uM (Vs:=Vs) l Vs 0 hl (fun j=>by rw[yS]) h i o ho;rw[yS] at this;rcases this with h1|h1|h1
 ·exact absurd (by simpa using h1) UB
 ·rw[bM] at h1;cases h1
 exact h1
theorem Ur {l:List Oper} {Vs:List Value} {a:Act} {Q:Exit→Act→World→Prop} {w:World} (hl:l.length=Vs.length) (h:mm P l.toArray S (aY l Vs a) [] w 0 l Vs) (hQ:Q .normal (aY l Vs a) w) :
  zS P .any l.toArray S a Q 0 [] (fun i=>Vs.getD i undef) w:=⟨sU hl h,fun _=>by rw[sC hl];exact hQ⟩
abbrev KG (P:Program) (S:List Nat) (l:List Oper) (Vs:List Value) (a:Act) (Q:Exit→Act→World→Prop) (n:Nat) (L:List Nat) (w:World) (i:Nat) (o:Oper):Prop :=
 (o.dst=none∧∃w' V',(execOp (aY l Vs a).eval o).run P w=.ok .skip w'∧(∀j,j≠i→ep .any l.toArray j i=false→V' j=Vs.getD j undef)∧zS P .any l.toArray S a Q n (L.erase i) V' w') ∨
 (∃v w' V',(execOp (aY l Vs a).eval o).run P w=.ok (.value v) w'∧(∀j,j≠i→ep .any l.toArray j i=false→V' j=Vs.getD j undef)∧V' i=v∧zS P .any l.toArray S a Q n (L.erase i) V' w') ∨
 ∃f args,(execOp (aY l Vs a).eval o).run P w=.ok (.enter f args) w∧Calls P f args w fun e w'=>∃v V',e=.returned v∧(∀j,j≠i→ep .any l.toArray j i=false→V' j=Vs.getD j undef)∧V' i=v∧zS P .any l.toArray S a Q n (L.erase i) V' w'
theorem Qp {l:List Oper} {Vs:List Value} {a:Act} {Q:Exit→Act→World→Prop} {w:World} {n:Nat} {L:List Nat} (hl:l.length=Vs.length) (fS:L ≠ []) (h:mm P l.toArray S (aY l Vs a) L w 0 l Vs)
  (hop:∀i o,i∈L→rdP .any l.toArray L i=true→l[i]?=some o→KG P S l Vs a Q n L w i o) :
  zS P .any l.toArray S a Q (n+1) L (fun i=>Vs.getD i undef) w:=by
 refine⟨sU hl h,fun e=>absurd e fS,fun i o hi hr ho=>?_⟩;rw[List.getElem?_toArray] at ho;rw[sC hl];exact hop i o hi hr ho
def sM (l:Array Oper) (i:Nat):Nat→List Value→List Value→Prop
 | k,v::vs,u::us=>(k=i∨ep .any l k i=true∨u=v)∧sM l i (k+1) vs us
 | _,[],[]=>True
 | _,_,_=>False
theorem wG {l:Array Oper} {i:Nat}:∀(k:Nat) (vs us:List Value),sM l i k vs us→∀j,k + j ≠ i→ep .any l (k + j) i=false→us.getD j undef=vs.getD j undef
 | k,v::vs,u::us,h,0,h1,h2=>by
  rcases h.1 with h3|h3|h3
  ·exact absurd h3 h1
  ·rw[Nat.add_zero,h3] at h2;cases h2
  exact h3
 | k,v::vs,u::us,h,j+1,h1,h2=>wG (k+1) vs us h.2 j (by omega) (by rwa [show k+1+j=k+(j+1) by omega])
 | _,[],[],_,_,_,_=>rfl
 | _,[],_::_,h,_,_,_=>h.elim
 | _,_::_,[],h,_,_,_=>h.elim
theorem qk {l:Array Oper} {i:Nat} {Vs Us:List Value} (h:sM l i 0 Vs Us):∀j,j≠i→ep .any l j i=false→Us.getD j undef=Vs.getD j undef:=fun j h1 h2=>wG 0 Vs Us h j (by omega) (by rwa [yS])
section
variable {l:List Oper} {Vs:List Value} {a:Act} {Q:Exit→Act→World→Prop} {w:World} {n:Nat} {L:List Nat}
def G9 (P:Program) (S:List Nat) (l:List Oper) (Vs:List Value) (a:Act) (Q:Exit→Act→World→Prop) (n:Nat) (L:List Nat) (w:World) (i:Nat):Prop :=
 ∀o,rdP .any l.toArray L i=true→l[i]?=some o→KG P S l Vs a Q n L w i o
theorem bV:∀i,i∈([]:List Nat)→G9 P S l Vs a Q n L w i:=fun _ h=>absurd h (List.not_mem_nil)
theorem az {i:Nat} {K:List Nat} (h:G9 P S l Vs a Q n L w i) (t:∀j,j∈K→G9 P S l Vs a Q n L w j):∀j,j∈i::K→G9 P S l Vs a Q n L w j:=fun _ hj=>(List.mem_cons.1 hj).elim (fun e=>e▸h) (t _)
theorem bC {i:Nat} {o:Oper} (e:l[i]?=some o) (h:KG P S l Vs a Q n L w i o):G9 P S l Vs a Q n L w i:=fun _ _ ho=>Option.some.inj (e.symm.trans ho)▸h
theorem gp {i:Nat} (k:rdP .any l.toArray L i=false:=by kernel_rfl):G9 P S l Vs a Q n L w i:=fun _ h=>absurd h (by rw[k];decide)
theorem bW (hm:∀i,i∈L→G9 P S l Vs a Q n L w i) (hl:l.length=Vs.length := by rfl) (fS:L ≠ [] := by decide)
  (h:mm P l.toArray S (aY l Vs a) L w 0 l Vs:=by simp only[aY,Act.put,aw,av,au,mm];and_intros <;> first|exact True.intro|exact .inl rfl|exact .inr (.inl (by decide +kernel))|(refine .inr (.inr ?_);go_simp;done)):zS P .any l.toArray S a Q (n+1) L (fun i=>Vs.getD i undef) w :=
 Qp hl fS h fun i o hi hr ho=>hm i hi o hr ho
theorem fZ (hQ:Q .normal (aY l Vs a) w) (hl:l.length=Vs.length:=by rfl) (h:mm P l.toArray S (aY l Vs a) [] w 0 l Vs:=by simp only[aY,Act.put,aw,av,au,mm];and_intros <;> first|exact True.intro|exact .inl rfl|exact .inr (.inl (by decide +kernel))|(refine .inr (.inr ?_);go_simp;done)):zS P .any l.toArray S a Q 0 [] (fun i=>Vs.getD i undef) w :=
 Ur hl h hQ
variable {i:Nat} {o:Oper}
theorem eE {f:Nat} {args:Array Value} {v:Value} {B:Nat} (hc:Calls P f args w fun e w'=>e=.returned v ∧ Below B w w') (Us:List Value) (h:∀w',Below B w w'→zS P .any l.toArray S a Q n (L.erase i) (fun i=>Us.getD i undef) w')
  (hv:Us.getD i undef=v:=by rfl) (hx:(execOp (aY l Vs a).eval o).run P w=.ok (.enter f args) w:=by simp only[aY,Act.put,aw,av,au];go_simp) (UT:sM l.toArray i 0 Vs Us:=by and_intros <;> first|exact True.intro|exact .inl rfl|exact .inr (.inr rfl)|exact .inr (.inl (by decide +kernel))):KG P S l Vs a Q n L w i o :=
 .inr (.inr ⟨f,args,hx,hc.mono fun _ w' he=>⟨v,_,he.1,qk UT,hv,h w' he.2⟩⟩)
theorem lu {w':World} (Us:List Value) (h:zS P .any l.toArray S a Q n (L.erase i) (fun i=>Us.getD i undef) w')
  (hx:(execOp (aY l Vs a).eval o).run P w=.ok (.value (Us.getD i undef)) w':=by simp only[aY,Act.put,aw,av,au];go_simp) (UT:sM l.toArray i 0 Vs Us:=by and_intros <;> first|exact True.intro|exact .inl rfl|exact .inr (.inr rfl)|exact .inr (.inl (by decide +kernel))):KG P S l Vs a Q n L w i o :=
 .inr (.inl ⟨_,w',_,hx,qk UT,rfl,h⟩)
theorem du {w':World} (Us:List Value) (h:zS P .any l.toArray S a Q n (L.erase i) (fun i=>Us.getD i undef) w') (hd:o.dst=none := by rfl)
  (hx:(execOp (aY l Vs a).eval o).run P w=.ok .skip w':=by simp only[aY,Act.put,aw,av,au];go_simp) (UT:sM l.toArray i 0 Vs Us:=by and_intros <;> first|exact True.intro|exact .inl rfl|exact .inr (.inr rfl)|exact .inr (.inl (by decide +kernel))):KG P S l Vs a Q n L w i o :=
 .inl ⟨hd,w',_,hx,qk UT,h⟩
end
end
theorem U3 (n:Int) (w:World):Calls Tryz.prog 51 #[.int .i64 n] w fun e w'=>e=.returned (.agg #[.int .i64 n,.int .i64 1])∧Below w.heap.size w w':=by
 obtain⟨z0,z1⟩:=(Blk.new w 23 #[.int .i64 n,.int .i64 1]).c2;go_enter Tryz.func51,Tryz.ntmps51;go_wp2_with fail;refine YF (v:=.agg #[.int .i64 n,.int .i64 1]) (by simp[results,Tryz.results51,go_sem,z0,z1]) rfl ?_;exact⟨rfl,(yB _ _).alloc (yA _) _⟩
theorem qjh (a b:FrT) (w:World) (ha:aj a=true) (hb:aj b=true) (gj:0≤b.num):Calls Tryz.prog 103 #[a.val,b.val] w fun e w'=>e=.returned (.int .i64 (eI a b))∧Below w.heap.size w w':=by
 have hC:=fun W=>qzu a b W ha hb gj;have HB:=zh (((yB _ w).alloc (yA _) (.cells #[.int .i64 a.num,.int .i64 a.den] 23)).alloc (by simp) (.cells #[.int .i64 b.num,.int .i64 b.den] 23));clear ha hb gj;generalize eI a b=c at*;obtain⟨an,ad⟩:=a;obtain⟨bn,bd⟩:=b;simp only at*;go_enter Tryz.func103,Tryz.ntmps103;go_wp2_with (go_at_call 31;refine (hC _).mono ?_;rintro e w2 ⟨rfl,bg⟩);go_ret;exact⟨rfl,HB.o.trans (bg.mono HB.o.size)⟩
def ga (f:FrT):Int:=if aj f=true then (if f.den≤f.num∧f.num≤100∧f.den≤100 then 0 else 2) else 1
theorem GC (f:FrT) (w:World):Calls Tryz.prog 79 #[f.val] w fun e w'=>e=.returned (.int .i64 (ga f))∧Below w.heap.size w w':=by
 have hV:=fun W=>gi f W;have HD:=zh (Blk.new w 23 #[.int .i64 f.num,.int .i64 f.den]);have HB:=zh ((yB _ w).alloc (yA _) (.cells #[.int .i64 f.num,.int .i64 f.den] 23));rcases yM (aj f) with h0|h0;rotate_left
 ·have HE:Y0 (ga f=1):=by unfold Y0 ga;rw[if_neg (by rw[h0];simp)]
  rw[h0] at hV;clear h0 HD;generalize ga f=fe at*;obtain⟨num,den⟩:=f;simp only at*;go_enter Tryz.func79,Tryz.ntmps79;go_wp2_with (go_at_call 49;refine (hV _).mono ?_;rintro e w2 ⟨rfl,bg⟩);go_ret;exact⟨ij HE.o.symm,HB.o.trans (bg.mono HB.o.size)⟩
 have HE:Y0 (ga f=if f.den≤f.num∧f.num≤100∧f.den≤100 then 0 else 2):=by unfold Y0 ga;rw[if_pos h0]
 rw[h0] at hV;clear h0;generalize ga f=fe at*;obtain⟨num,den⟩:=f;simp only at*;by_cases c1:num<den
 ·have e1:decide (num<den)=true:=yD c1;have gn:Y0 (fe=2):=by unfold Y0;rw[HE.o,if_neg (by omega)]
  clear c1 HE;go_enter Tryz.func79,Tryz.ntmps79;go_wp2_with (go_at_call 49;refine (hV _).mono ?_;rintro e w2 ⟨rfl,bg⟩;have cP:=HD.o.below bg HD.o.lt;have z0:=cP.cell 0;have z1:=cP.cell 1;simp only[aB,aD,aA] at z0 z1);go_ret;exact⟨ij gn.o.symm,HB.o.trans (bg.mono HB.o.size)⟩
 have e1:decide (num<den)=false:=yC c1;by_cases c2:100<num
 ·have e2:decide (100<num)=true:=yD c2;have gn:Y0 (fe=2):=by unfold Y0;rw[HE.o,if_neg (by omega)]
  clear c1 c2 HE;go_enter Tryz.func79,Tryz.ntmps79;go_wp2_with (go_at_call 49;refine (hV _).mono ?_;rintro e w2 ⟨rfl,bg⟩;have cP:=HD.o.below bg HD.o.lt;have z0:=cP.cell 0;have z1:=cP.cell 1;simp only[aB,aD,aA] at z0 z1);go_ret;exact⟨ij gn.o.symm,HB.o.trans (bg.mono HB.o.size)⟩
 have e2:decide (100<num)=false:=yC c2;by_cases c3:100<den
 ·exact absurd c3 (by omega)
 have e3:decide (100<den)=false:=yC c3;have gn:Y0 (fe=0):=by unfold Y0;rw[HE.o,if_pos (by omega)]
 clear c1 c2 c3 HE;go_enter Tryz.func79,Tryz.ntmps79;go_wp2_with (go_at_call 49;refine (hV _).mono ?_;rintro e w2 ⟨rfl,bg⟩;have cP:=HD.o.below bg HD.o.lt;have z0:=cP.cell 0;have z1:=cP.cell 1;simp only[aB,aD,aA] at z0 z1);go_ret;exact⟨ij gn.o.symm,HB.o.trans (bg.mono HB.o.size)⟩
theorem vT {m:Int} (h1 : -1152921504606846976≤m) (h2:m≤1152921504606846976):aj ⟨m,1⟩=true:=by
 unfold aj;simp only[Bool.and_eq_true,decide_eq_true_eq,beq_iff_eq];refine⟨⟨⟨⟨by omega,by omega⟩,h1⟩,h2⟩,?_⟩;show ((Nat.gcd m.natAbs 1:Nat):Int)=1;rw[Nat.gcd_one_right];rfl
theorem QD (a:FrT) (m:Int) (w:World) (ha:aj a=true) (h0:0<a.num) (hm:1≤m∧m≤67108864) :
  Calls Tryz.prog 12 #[a.val,.int .i64 m] w fun e w'=>e=.returned (bQ (aU ⟨m,1⟩/aU a))∧Below w.heap.size w w':=by
 have jA:=fun W=>gi a W;rw[ha] at jA;have hM:=fun W=>Nt ⟨m,1⟩ a W (vT (by omega) (by omega)) ha (by omega);obtain⟨fx,fy,fz,hf⟩:=cX (aU ⟨m,1⟩/aU a);rw[hf] at hM⊢;have HM:=zh hM;have HO:=zh fun W=>U3 m W;have d1:decide (m<1)=false:=yC (by omega);have d2:decide (67108864<m)=false:=yC (by omega);have d3:decide (a.num<0)=false:=yC (by omega);have d4:(a.num==0)=false:=zb (by omega);clear ha h0 hm hf hM;obtain⟨an,ad⟩:=a
 simp only at*;have D0:=(Blk.new w 23 #[.int .i64 an,.int .i64 ad]).alloc (.cells #[.int .i64 0,.int .i64 0] 23);have D1:=Blk.new (w.alloc (.cells #[.int .i64 an,.int .i64 ad] 23)) 23 #[.int .i64 0,.int .i64 0];have hB:=((yB _ w).alloc (yA _) (.cells #[.int .i64 an,.int .i64 ad] 23)).alloc (by simp) (.cells #[.int .i64 0,.int .i64 0] 23);rw[yZ] at D1;go_enter Tryz.func12,Tryz.ntmps12;go_wp2_with fail
 generalize (w.alloc (.cells #[.int .i64 an,.int .i64 ad] 23)).alloc (.cells #[.int .i64 0,.int .i64 0] 23)=W1 at*;refine (jA W1).mono ?_;rintro e w2 ⟨rfl,bg⟩;have D0:=zh (D0.below bg D0.lt);have D1:=zh (D1.below bg D1.lt);have HB:=zh (hB.trans (bg.mono hB.size));clear bg hB jA;obtain⟨y0,y1⟩:=D0.o.c2;go_wp2_with (exact zX);have u0:=YL y0;have u1:=YL y1;clear y0 y1;refine af 6 (fun jx=>if jx=1 then some (gV (.agg #[.int .i64 m,.int .i64 1])) else if jx=3 then some (gV (.tuple #[.agg #[.int .i64 fx,.int .i64 fy],.int .i64 fz])) else none) (by kernel_rfl) (by kernel_rfl) ?_
 simp only[aO,aR,aP,aQ];refine zw 1 ?_;simp only[aO,aR,aP,aQ]
 repeat (go_big_quiet_step (fail))
 refine YE ?_;refine ae rfl rfl (fun w1 _ _=>⟨51,#[.int .i64 m],by go_simp,(HO.o w1).mono fun _ _ ⟨he,hb⟩=>⟨_,he,hb,rfl,trivial⟩⟩) ?_;rintro _ rfl;simp only[Act.put,aw,av,au];refine zw 1 ?_;simp only[aO,aR,aP,aQ]
 repeat (go_big_quiet_step (fail))
 refine YE ?_;refine ae rfl rfl (fun w1 _ _=>⟨50,#[.agg #[.int .i64 m,.int .i64 1],.agg #[.int .i64 an,.int .i64 ad]],by go_simp,(HM.o w1).mono fun _ _ ⟨he,hb⟩=>⟨_,he,hb,rfl,trivial⟩⟩) ?_;rintro _ rfl;simp only[Act.put,aw,av,au];refine zw 2 ?_;simp only[aO,aR,aP,aQ]
 repeat (go_big_quiet_step (fail))
 refine YE ?_;refine Zc ?_;intro w4 bP hF;have lO:=D1.o.below bP D1.o.lt;have fj:=HB.o.trans (bP.mono HB.o.size);have q0:=lO.cell 0;have f0:=lO.frozen 0;have E1:=(lO.set_ 0 (.int .i64 fx));have f1:=E1.frozen 1;have E2:=E1.set_ 1 (.int .i64 fy);have p0:=E2.cell 0;have p1:=E2.cell 1;have r1:=E1.cell 1;simp only[aw,av,au] at p0 p1 r1;simp only[aB,aD,aA] at q0 p0 p1 r1;have dw:=zh ((fj.setCell (p:=⟨w.heap.size+1,0,none⟩) (by show w.heap.size≤w.heap.size+1;omega) (.int .i64 fx)).setCell (p:=⟨w.heap.size+1,1,none⟩) (by show w.heap.size≤w.heap.size+1;omega) (.int .i64 fy))
 clear lO fj E1 E2 HM HO hF u0 u1;go_wp2_with fail;refine YF (v:=.tuple #[.agg #[.int .i64 fx,.int .i64 fy],.int .i64 fz]) (by simp[results,Tryz.results12,go_sem,p0,p1]) rfl ?_;exact⟨rfl,dw.o⟩
def errW (ok:Bool) (g:Nat) (w:World):World:=match ok with
 | true=>w
 | false=>w.setCell ⟨g,2,none⟩ (.int .i64 5)
theorem qx5 (a f:FrT) (m:Int) (g:Nat) (er:Int) (w:World) (ha:aj a=true) (hf:aj f=true) (hm:0≤m∧m≤67108864) (hC:Blk w g 98 #[.int .i64 f.num,.int .i64 f.den,.int .i64 er]) :
  Calls Tryz.prog 63 #[.pointer (some ⟨g,0,none⟩),a.val,.int .i64 m] w fun e w'=>e=.returned (.bool (cB m f a))∧∃w2,Below w.heap.size w w2∧w'=errW (aC (aU a*aU f)) g w2:=by
 have hM:=fun W=>Wo a f W ha hf;have HV:Y0 (cB m f a=(aC (aU a*aU f)&&decide (0<eI (dM (aU a*aU f)) ⟨m,1⟩))):=rfl;obtain⟨fx,fy,fz,hv⟩:=cX (aU a*aU f);have HX:Y0 (aC (aU a*aU f)=true→aj ⟨fx,fy⟩=true∧dM (aU a*aU f)=⟨fx,fy⟩∧fz=0):=fun h=>by
  have h2:=jY h;rw[hv] at h2;injection h2 with h2;injection h2 with h2;injection h2 with h3 h4;injection h3 with h3;injection h3 with h3;injection h3 with h5 h6;injection h5 with _ h5;injection h6 with h6 _;injection h6 with _ h6;injection h4 with h4 _;injection h4 with _ h4;have e:dM (aU a*aU f)=⟨fx,fy⟩:=by unfold dM;rw[h5,h6]
  exact⟨by rw[←e];exact qa h,e,h4⟩
 have HN:Y0 (aC (aU a*aU f)=false→fz=5):=fun h=>by
  have h2:=lG h;rw[hv] at h2;injection h2 with h2;injection h2 with h2;injection h2 with h3 h4;injection h4 with h4 _;injection h4 with _ h4
 rw[hv] at hM;have En:=zh fun W (h:aj ⟨fx,fy⟩=true)=>qjh ⟨fx,fy⟩ ⟨m,1⟩ W h (nR (by omega) (by omega)) (by show (0:Int)≤m;omega);have HO:=zh fun W=>U3 m W;have HM:=zh hM;generalize cB m f a=ob at*;generalize dM (aU a*aU f)=fo at*;generalize aC (aU a*aU f)=ok at*;clear ha hf hm hM hv;obtain⟨an,ad⟩:=a;obtain⟨fn,fd⟩:=f
 try simp only at*
 have D0:=Blk.new w 23 #[.int .i64 an,.int .i64 ad];have hCk:=hC.below ((yB w.heap.size w).alloc (yA _) (.cells #[.int .i64 an,.int .i64 ad] 23)) hC.lt;have HB:=zh ((yB _ w).alloc (yA _) (.cells #[.int .i64 an,.int .i64 ad] 23));have HG:Y0 (g<w.heap.size):=hC.lt;go_enter Tryz.func63,Tryz.ntmps63;go_upto_region 1 with fail;generalize w.alloc (.cells #[.int .i64 an,.int .i64 ad] 23)=W1 at*;have D0:=zh D0
 have HC:=zh hCk;clear hC hCk;have D0:Y0 (Blk W1.drew w.heap.size 23 #[.int .i64 an,.int .i64 ad]):=D0.o.drewN 1;have HC:Y0 (Blk W1.drew g 98 #[.int .i64 fn,.int .i64 fd,.int .i64 er]):=HC.o.drewN 1;have HB:=zh HB.o.drew;have ya:=D0.o.alloc (.cells #[.int .i64 0,.int .i64 0] 23);have yb:=HC.o.alloc (.cells #[.int .i64 0,.int .i64 0] 23);have ya0:=ya.cell 0;have ya1:=ya.cell 1;have MC:=yb.cell 0;have MB:=yb.cell 1
 have y0:=D0.o.cell 0;have y1:=D0.o.cell 1;have y2:=HC.o.cell 0;have y3:=HC.o.cell 1;simp only[aB,aD,aA] at y0 y1 y2 y3 ya0 ya1 MC MB;refine cI (fun i=>([.agg #[.int .i64 an,.int .i64 ad],.pointer (some ⟨g,0,none⟩),.pointer (some ⟨g,0,none⟩),.pointer (some ⟨g,0,none⟩),.agg #[.int .i64 fn,.int .i64 fd],undef,undef,undef,undef,undef,undef,undef]:List Value).getD i undef) [5,9,10] (by kernel_rfl) (by kernel_rfl) (by kernel_rfl) (by decide) ?_
 generalize W1.drew=W2 at*;refine bW (L:=[5,9,10]) (az (bC rfl ?_) (az (bC rfl ?_) (az gp bV)))
 ·refine eE (HM.o _) [.agg #[.int .i64 an,.int .i64 ad],.pointer (some ⟨g,0,none⟩),.pointer (some ⟨g,0,none⟩),.pointer (some ⟨g,0,none⟩),.agg #[.int .i64 fn,.int .i64 fd],.tuple #[.agg #[.int .i64 fx,.int .i64 fy],.int .i64 fz],.tuple #[.agg #[.int .i64 fx,.int .i64 fy],.int .i64 fz],.agg #[.int .i64 fx,.int .i64 fy],.int .i64 fz,undef,undef,.int .i64 fz] ?_;intro w3 ft;refine bW (L:=[9,10]) (az (bC rfl ?_) (az gp bV))
  refine lu (w':=((w3.alloc (.cells #[.int .i64 0,.int .i64 0] 23)))) [.agg #[.int .i64 an,.int .i64 ad],.pointer (some ⟨g,0,none⟩),.pointer (some ⟨g,0,none⟩),.pointer (some ⟨g,0,none⟩),.agg #[.int .i64 fn,.int .i64 fd],.tuple #[.agg #[.int .i64 fx,.int .i64 fy],.int .i64 fz],.tuple #[.agg #[.int .i64 fx,.int .i64 fy],.int .i64 fz],.agg #[.int .i64 fx,.int .i64 fy],.int .i64 fz,.pointer (some ⟨w3.heap.size,0,none⟩),undef,.int .i64 fz] ?_
  refine bW (L:=[10]) (az (bC rfl ?_) bV);have cR:=zh (Blk.new w3 23 #[.int .i64 0,.int .i64 0]);have r0:=cR.o.cell 0;have f0:=cR.o.frozen 0;have r1:=(cR.o.set_ 0 (.int .i64 fx)).cell 1;have f1:=(cR.o.set_ 0 (.int .i64 fx)).frozen 1;simp only[aw,av,aB,aD,aA] at r0 r1;refine du (w':=((w3.alloc (.cells #[.int .i64 fx,.int .i64 fy] 23)))) [.agg #[.int .i64 an,.int .i64 ad],.pointer (some ⟨g,0,none⟩),.pointer (some ⟨g,0,none⟩),.pointer (some ⟨g,0,none⟩),.agg #[.int .i64 fn,.int .i64 fd],.tuple #[.agg #[.int .i64 fx,.int .i64 fy],.int .i64 fz],.tuple #[.agg #[.int .i64 fx,.int .i64 fy],.int .i64 fz],.agg #[.int .i64 fx,.int .i64 fy],.int .i64 fz,.pointer (some ⟨w3.heap.size,0,none⟩),undef,.int .i64 fz] ?_
  refine fZ ?_;simp only[aY,Act.put,aw,av,au,];have dw:=zh ((HB.o.trans (ft.mono HB.o.size)).alloc (yH HB.o.size ft.size) (.cells #[.int .i64 fx,.int .i64 fy] 23));have VY:=zh ((HC.o.below ft HC.o.lt).alloc (.cells #[.int .i64 fx,.int .i64 fy] 23));have iH:=zh (Blk.new w3 23 #[.int .i64 fx,.int .i64 fy]);clear HB HC D0 ya yb ya0 ya1 MC MB y0 y1 y2 y3 cR r0 r1 f0 f1 ft HG;generalize w3.alloc (.cells #[.int .i64 fx,.int .i64 fy] 23)=w9 at*
  generalize w3.heap.size=n9 at*;obtain⟨q0,q1⟩:=iH.o.c2;cases bM:ok
  case true=>
   obtain⟨oQ,GZ,xV⟩:=HX.o bM;have UO:=fun W=>En.o W oQ;have cH:Y0 (ob=decide (0<eI ⟨fx,fy⟩ ⟨m,1⟩)):=by unfold Y0;rw[HV.o,bM,GZ,Bool.true_and]
   generalize eI ⟨fx,fy⟩ ⟨m,1⟩=c at*;have Bi:=zh bM;subst xV;have u0:=YL q0;have u1:=YL q1;have cO:=HeldB.call (W:=w9) fun w' _=>HO.o w';have cC:=HeldB.call (W:=w9) fun w' _=>UO w';clear HX HN HV HM HO En oQ GZ bM UO VY;go_wp2_with (exact zX);refine bJ (by kernel_rfl) (by kernel_rfl) ?_
   repeat (go_big_quiet_step (first|(go_at_call 51;with_reducible exact cO _)|(go_at_call 103;with_reducible exact cC _)))
   refine YE ?_;rintro zp ⟨⟨vqs,sw⟩,rfl⟩;clear u0 u1 cO cC q0 q1;go_wp2_with fail;go_ret;exact⟨Ze cH.o.symm,zp,dw.o.trans (sw.mono dw.o.size),by rw[Bi.o];rfl⟩
  have xV:=HN.o bM;have cH:Y0 (ob=false):=by unfold Y0;rw[HV.o,bM,Bool.false_and]
  have Bi:=zh bM;subst xV;have e2:=VY.o.cell 2;have f2:=VY.o.frozen 2;simp only[aB,aD,aA] at e2;clear HX HN HV HM HO En VY iH bM q0 q1;go_wp2_with fail;go_ret;exact⟨Ze cH.o.symm,w9,dw.o,by rw[Bi.o];rfl⟩
 refine lu (w':=((W2.alloc (.cells #[.int .i64 0,.int .i64 0] 23)))) [.agg #[.int .i64 an,.int .i64 ad],.pointer (some ⟨g,0,none⟩),.pointer (some ⟨g,0,none⟩),.pointer (some ⟨g,0,none⟩),.agg #[.int .i64 fn,.int .i64 fd],undef,undef,undef,undef,.pointer (some ⟨W2.heap.size,0,none⟩),undef,undef] ?_;refine bW (L:=[5,10]) (az (bC rfl ?_) (az gp bV));refine eE (HM.o _) [.agg #[.int .i64 an,.int .i64 ad],.pointer (some ⟨g,0,none⟩),.pointer (some ⟨g,0,none⟩),.pointer (some ⟨g,0,none⟩),.agg #[.int .i64 fn,.int .i64 fd],.tuple #[.agg #[.int .i64 fx,.int .i64 fy],.int .i64 fz],.tuple #[.agg #[.int .i64 fx,.int .i64 fy],.int .i64 fz],.agg #[.int .i64 fx,.int .i64 fy],.int .i64 fz,.pointer (some ⟨W2.heap.size,0,none⟩),undef,.int .i64 fz] ?_
 intro w3 ft;refine bW (L:=[10]) (az (bC rfl ?_) bV);have cR:=zh ((Blk.new W2 23 #[.int .i64 0,.int .i64 0]).below ft (Blk.new _ _ _).lt);have r0:=cR.o.cell 0;have f0:=cR.o.frozen 0;have r1:=(cR.o.set_ 0 (.int .i64 fx)).cell 1;have f1:=(cR.o.set_ 0 (.int .i64 fx)).frozen 1;simp only[aw,av,aB,aD,aA] at r0 r1;refine du (w':=(((w3.setCell ⟨W2.heap.size,0,none⟩ (.int .i64 fx)).setCell ⟨W2.heap.size,1,none⟩ (.int .i64 fy)))) [.agg #[.int .i64 an,.int .i64 ad],.pointer (some ⟨g,0,none⟩),.pointer (some ⟨g,0,none⟩),.pointer (some ⟨g,0,none⟩),.agg #[.int .i64 fn,.int .i64 fd],.tuple #[.agg #[.int .i64 fx,.int .i64 fy],.int .i64 fz],.tuple #[.agg #[.int .i64 fx,.int .i64 fy],.int .i64 fz],.agg #[.int .i64 fx,.int .i64 fy],.int .i64 fz,.pointer (some ⟨W2.heap.size,0,none⟩),undef,.int .i64 fz] ?_
 refine fZ ?_;simp only[aY,Act.put,aw,av,au,];have hW:=HB.o.size;have hG:=HG.o;have dw:=zh ((((HB.o.alloc hW (.cells #[.int .i64 0,.int .i64 0] 23)).trans (ft.mono (HB.o.alloc hW (.cells #[.int .i64 0,.int .i64 0] 23)).size)).setCell (p:=⟨W2.heap.size,0,none⟩) hW (.int .i64 fx)).setCell (p:=⟨W2.heap.size,1,none⟩) hW (.int .i64 fy));have VY:=zh (((yb.below ft yb.lt).far (p:=⟨W2.heap.size,0,none⟩) (by show g≠W2.heap.size;omega) (.int .i64 fx)).far (p:=⟨W2.heap.size,1,none⟩) (by show g≠W2.heap.size;omega) (.int .i64 fy))
 have iH:=zh ((cR.o.set_ 0 (.int .i64 fx)).set_ 1 (.int .i64 fy));simp only[aw,av,au,] at iH;clear HB HC D0 ya yb ya0 ya1 MC MB y0 y1 y2 y3 cR r0 r1 f0 f1 ft HG hW hG;generalize (w3.setCell ⟨W2.heap.size,0,none⟩ (.int .i64 fx)).setCell ⟨W2.heap.size,1,none⟩ (.int .i64 fy)=w9 at*;generalize W2.heap.size=n9 at*;obtain⟨q0,q1⟩:=iH.o.c2;cases bM:ok
 case true=>
  obtain⟨oQ,GZ,xV⟩:=HX.o bM;have UO:=fun W=>En.o W oQ;have cH:Y0 (ob=decide (0<eI ⟨fx,fy⟩ ⟨m,1⟩)):=by unfold Y0;rw[HV.o,bM,GZ,Bool.true_and]
  generalize eI ⟨fx,fy⟩ ⟨m,1⟩=c at*;have Bi:=zh bM;subst xV;have u0:=YL q0;have u1:=YL q1;have cO:=HeldB.call (W:=w9) fun w' _=>HO.o w';have cC:=HeldB.call (W:=w9) fun w' _=>UO w';clear HX HN HV HM HO En oQ GZ bM UO VY;go_wp2_with (exact zX);refine bJ (by kernel_rfl) (by kernel_rfl) ?_
  repeat (go_big_quiet_step (first|(go_at_call 51;with_reducible exact cO _)|(go_at_call 103;with_reducible exact cC _)))
  refine YE ?_;rintro zp ⟨⟨vqs,sw⟩,rfl⟩;clear u0 u1 cO cC q0 q1;go_wp2_with fail;go_ret;exact⟨Ze cH.o.symm,zp,dw.o.trans (sw.mono dw.o.size),by rw[Bi.o];rfl⟩
 have xV:=HN.o bM;have cH:Y0 (ob=false):=by unfold Y0;rw[HV.o,bM,Bool.false_and]
 have Bi:=zh bM;subst xV;have e2:=VY.o.cell 2;have f2:=VY.o.frozen 2;simp only[aB,aD,aA] at e2;clear HX HN HV HM HO En VY iH bM q0 q1;go_wp2_with fail;go_ret;exact⟨Ze cH.o.symm,w9,dw.o,by rw[Bi.o];rfl⟩
