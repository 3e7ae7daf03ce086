/- Lemmas. -/
import Derived.Test.YtfhmbechennkbaaGreatDoorI9
import Derived.Test.YtfhmbechennkbaaGreatDoorT3
namespace Go.Proofs.YtfhmbechennkbaaGreatDoor
set_option maxRecDepth 100000
set_option maxHeartbeats 40000000
open Go.RowKit Go.Shelf
section
variable {P:Program} {ops:Array Oper} {md:Region.Mode} {V:Nat→Value} {I:Nat→World→Prop} {S:List Nat}
def Ff (P:Program) (md:Region.Mode) (ops:Array Oper) (V:Nat→Value) (I:Nat→World→Prop) (S:List Nat) (aF:Act) (i:Nat) (o:Oper):Prop :=
 (i∉S∧∀ m,m≤S.length→V0 md ops S i m=true→∀ w,I m w→(execOp aF.eval o).run P w = .ok (.value (V i)) w)∨(∃ k,S[k]? = some i∧∀ w,I k w→((o.dst=none∧∃ w',(execOp aF.eval o).run P w = .ok .skip w'∧I (k+1) w')∨(∃ w',(execOp aF.eval o).run P w = .ok (.value (V i)) w'∧I (k+1) w')∨∃ f args,(execOp aF.eval o).run P w = .ok (.enter f args) w∧Calls P f args w fun e w'=>e = .returned (V i)∧I (k+1) w'))
structure IInv (md:Region.Mode) (ops:Array Oper) (V:Nat→Value) (I:Nat→World→Prop) (S:List Nat) (aF:Act) (done:Array Bool) (a:Act) (w:World):Prop where
 size:done.size=ops.size
 act:jY ops V done (List.range ops.size) a=aF
 closed:∀ j,done.getD j false=true→∀ i,cG md ops j i=true→done.getD i false=true
 world:∃ m,m≤S.length∧I m w∧∀ k,k<S.length→done.getD (S.getD k 0) false=decide (k<m)
theorem Mm {Q:Exit→Act→World→Prop} {aF:Act} (hF:fj md ops S=true) (hS:jP md ops S=true) (hN:S.Nodup)
  (hW:∀ i o,ops[i]? = some o→Ff P md ops V I S aF i o) (hQ:∀ w,I S.length w→Q .normal aF w) :
  ∀ (f:Nat) (done:Array Bool) (a:Act) (w:World),IInv md ops V I S aF done a w→left done ops.size=f→wpAny P md ops Q f done a w:=by
 unfold fj at hF
 simp only[Bool.and_eq_true,List.all_eq_true,List.mem_range] at hF
 obtain⟨⟨kW,EO⟩,hF⟩:=hF
 unfold jP at hS
 simp only[Bool.and_eq_true,List.all_eq_true,List.mem_range,decide_eq_true_eq,Bool.or_eq_true] at hS
 have IV:∀ i j,cG md ops i j=true→j<i:=fun i j h=>by
  unfold cG at h
  cases ho:ops[i]? with
  | none=>rw[ho] at h;cases h
  | some o=>
   obtain⟨e,he,h1,h2⟩:=(gi ho).1 (by unfold cG;exact h)
   have hi:=hF i (Array.getElem?_eq_some_iff.1 ho).1
   rw[ho] at hi
   simp only[Bool.and_eq_true] at hi
   have h3:=Array.all_eq_true_iff_forall_mem.1 hi.1 e he
   simp only[Bool.or_eq_true,Bool.not_eq_true',decide_eq_true_eq] at h3
   rcases h3 with h3 | h3
   ·rw[h1] at h3;cases h3
   omega
 have kX:∀ done:Array Bool,done.size=ops.size→∀ i,i∈Region.ready md ops done↔(i<ops.size∧done.getD i false=false∧∀ j,cG md ops i j=true→done.getD j false=true):=fun done dK i=>by
  rw[mem_ready]
  constructor
  ·rintro⟨h1,o,ho,h2⟩
   have hi:=(Array.getElem?_eq_some_iff.1 ho).1
   refine⟨hi,by rw[← cU (by omega)];exact h1,fun j hj=>?_⟩
   obtain⟨e,he,h3,rfl⟩:=(gi ho).1 hj
   exact h2 e he h3
  rintro⟨hi,h1,h2⟩
  refine⟨by rw[cU (by omega)];exact h1,ops[i],Array.getElem?_eq_getElem hi,fun e he hb=>h2 _ ((gi (Array.getElem?_eq_getElem hi)).2 ⟨e,he,hb,rfl⟩)⟩
 have uV:∀ (done:Array Bool) (a:Act) (w:World),IInv md ops V I S aF done a w→Region.ready md ops done=[]→Q .normal a w:=fun done a w inv hr=>by
  have uX:∀ i,i<ops.size→done.getD i false=true:=fun i=>by
   induction i using Nat.strongRecOn with
   | _ i ih=>
    intro hi
    cases h:done.getD i false
    case true=>rfl
    have:i∈Region.ready md ops done:=(kX done inv.size i).2 ⟨hi,h,fun j hj=>ih j (IV i j hj) (by have:=IV i j hj;omega)⟩
    rw[hr] at this
    cases this
  have hp:∀ L:List Nat,(∀ i∈L,i<ops.size)→∀ b,jY ops V done L b=b:=fun L=>by
   induction L with
   | nil=>intro _ _;rfl
   | cons i r ih=>
    intro h b
    unfold jY
    have h1:done.getD i true=true:=by rw[cU (by rw[inv.size];exact h i (by simp))];exact uX i (h i (by simp))
    rw[if_neg (by rw[h1];simp)]
    exact ih (fun j hj=>h j (by simp[hj])) b
  have ha:=inv.act
  rw[hp _ (fun i hi=>List.mem_range.1 hi)] at ha
  obtain⟨m,hm,hI,hd⟩:=inv.world
  have hmS:m=S.length:=by
   rcases Nat.lt_or_ge m S.length with h | h
   ·have h1:=hd m h
    rw[uX _ (hS m h).1] at h1
    exact absurd (yG h1.symm) (Nat.lt_irrefl _)
   omega
  rw[ha]
  rw[hmS] at hI
  exact hQ w hI
 intro f
 induction f with
 | zero=>
  intro done a w inv hl
  have hr:Region.ready md ops done=[]:=by
   rw[List.eq_nil_iff_forall_not_mem]
   intro i hi
   obtain⟨h1,h2,-⟩:=(kX done inv.size i).1 hi
   have h3:i∈(List.range ops.size).filter fun i=>!done.getD i true:=List.mem_filter.2 ⟨List.mem_range.2 h1,by rw[cU (by rw[inv.size];exact h1),h2];rfl⟩
   unfold left at hl
   rw[List.length_eq_zero_iff] at hl
   rw[hl] at h3
   cases h3
  exact⟨hr,uV done a w inv hr⟩
 | succ f ih=>
  intro done a w inv hl
  refine⟨uV done a w inv,fun i hi=>?_⟩
  obtain⟨iO,Ws,JY⟩:=(kX done inv.size i).1 hi
  have hit:done.getD i true=false:=by rw[cU (by rw[inv.size];exact iO)];exact Ws
  have ho:=Array.getElem?_eq_getElem iO
  generalize hoo:ops[i]=o at ho
  unfold wpOp
  rw[ho]
  dsimp only
  have hg:=Array.all_eq_true_iff_forall_mem.1 EO o (by rw[← hoo];exact Array.getElem_mem iO)
  have hw:Region.wanted o (yielded ops a.tmps)=true:=by
   unfold Region.wanted
   rw[Option.isNone_iff_eq_none.1 hg]
  rw[if_pos hw]
  refine .inl ?_
  have NH:=hF i iO
  rw[ho] at NH
  simp only[Bool.and_eq_true] at NH
  have WJ:=Region.noSelect_spec kW
  have hex:execOp aF.eval o=execOp a.eval o:=by
   rw[← inv.act]
   refine mm (ops:=ops) (fun cs b=>WJ i o cs b ho) _ _ fun j hj N6 d hd Wm=>?_
   have nB:=List.mem_range.1 hj
   have h1:=List.all_eq_true.1 NH.2 j (List.mem_range.2 nB)
   rw[Array.getElem?_eq_getElem nB] at h1
   unfold dn at hd
   rw[Array.getElem?_eq_getElem nB] at hd
   simp only[Option.bind_some] at hd
   dsimp only at h1
   rw[hd] at h1
   simp only[Bool.and_eq_true,Bool.or_eq_true,Bool.not_eq_true',List.contains_eq_mem,decide_eq_false_iff_not] at h1
   rcases h1.1 with h2 | h2
   ·exact h2 Wm
   have h3:=JY j h2
   rw[cU (by rw[inv.size];exact nB),h3] at N6
   cases N6
  have IY:∀ j,j≠i→∀ d,dn ops i=some d→dn ops j≠some d:=fun j N8 d hd Dz=>by
   unfold dn at Dz
   cases N7:ops[j]? with
   | none=>rw[N7] at Dz;cases Dz
   | some p=>
    have nB:=(Array.getElem?_eq_some_iff.1 N7).1
    rw[N7] at Dz
    simp only[Option.bind_some] at Dz
    have h1:=List.all_eq_true.1 NH.2 j (List.mem_range.2 nB)
    rw[N7] at h1
    dsimp only at h1
    rw[Dz] at h1
    unfold dn at hd
    rw[ho] at hd
    simp only[Option.bind_some] at hd
    simp only[Bool.and_eq_true,Bool.or_eq_true,Bool.not_eq_true',decide_eq_true_eq,beq_eq_false_iff_ne] at h1
    rcases h1.2 with h2 | h2
    ·exact N8 h2.symm
    exact h2 hd
  have mZ:∀ u w',(∃ m,m≤S.length∧I m w'∧∀ k,k<S.length→(done.setIfInBounds i true).getD (S.getD k 0) false=decide (k<m))→(dn ops i=none∨u=V i)→wpAny P md ops Q f (done.setIfInBounds i true) (a.put o.dst u) w':=fun u w' IL hu=>by
   refine ih _ _ _ ⟨by rw[Array.size_setIfInBounds];exact inv.size,?_,fun j hj k hk=>?_,IL⟩ ?_
   ·have hdo:o.dst=dn ops i:=by unfold dn;rw[ho];rfl
    have h2:=lX (V:=V) hit (by rw[inv.size];exact iO) IY (List.range ops.size) a List.nodup_range (List.mem_range.2 iO)
    rw[hdo]
    rcases hu with hu | hu
    ·rw[hu] at h2 ⊢
     exact h2.trans inv.act
    rw[hu]
    exact h2.trans inv.act
   ·by_cases e:i=j
    ·subst e
     exact getD_set_true (JY k hk)
    rw[getD_set_ne false e] at hj
    exact getD_set_true (inv.closed j hj k hk)
   unfold left at hl ⊢
   have:=rT hit (by rw[inv.size];exact iO) (List.range ops.size) List.nodup_range (List.mem_range.2 iO)
   omega
  obtain⟨m,hm,hI,hd⟩:=inv.world
  unfold Oper.wp
  rcases hW i o ho with⟨hns,h1⟩ | ⟨k,hk,h1⟩
  ·have fh:=h1 m hm (by
    unfold V0
    rw[List.all_eq_true]
    intro k hk
    have aB:=List.mem_range.1 hk
    simp only[Bool.and_eq_true,Bool.or_eq_true,Bool.not_eq_true',decide_eq_true_eq]
    constructor
    ·cases VY:cG md ops i (S.getD k 0) with
     | false=>exact .inl rfl
     | true=>
      have h2:=hd k aB
      rw[JY _ VY] at h2
      exact .inr (yG h2.symm)
    cases VY:cG md ops (S.getD k 0) i
    ·exact .inl rfl
    refine .inr (Nat.le_of_not_lt fun aw=>?_)
    have h2:=hd k aB
    rw[yD aw] at h2
    have h3:=inv.closed _ h2 i VY
    rw[Ws] at h3
    cases h3) w hI
   rw[← hex,fh]
   exact mZ _ _ ⟨m,hm,hI,fun k hk=>by
    have fB:i≠S.getD k 0:=fun e=>hns (by rw[e,yN,yM hk];exact yV hk)
    rw[getD_set_ne false fB]
    exact hd k hk⟩ (.inr rfl)
  have aB:=(List.getElem?_eq_some_iff.1 hk).1
  have vz:S.getD k 0=i:=by rw[yN,hk];rfl
  have hmk:m=k:=by
   have h2:=hd k aB
   rw[vz,Ws] at h2
   have h3:=of_decide_eq_false h2.symm
   rcases Nat.eq_zero_or_pos k with h0 | h0
   ·omega
   rcases (hS k aB).2 with (h4 | h4) | h4
   ·omega
   ·rw[vz] at h4
    have h5:=hd (k-1) (by omega)
    rw[JY _ h4] at h5
    have:=yG h5.symm
    omega
   obtain⟨j,-,h6⟩:=List.any_eq_true.1 h4
   rw[Bool.and_eq_true,vz] at h6
   have h5:=hd (k-1) (by omega)
   rw[inv.closed j (JY _ h6.1) _ h6.2] at h5
   have:=yG h5.symm
   omega
  subst hmk
  have kt:∀ w',I (m+1) w'→∃ m',m'≤S.length∧I m' w'∧∀ k,k<S.length→(done.setIfInBounds i true).getD (S.getD k 0) false=decide (k<m'):=fun w' IL=>⟨m+1,aB,IL,fun k2 LO=>by
   by_cases e:i=S.getD k2 0
   ·have hkk:k2=m:=by
     have e1:S[k2]=S[m]:=by
      rw[yN,yM LO] at e
      rw[yN,yM aB] at vz
      exact (e.symm.trans vz.symm)
     exact (List.getElem_inj hN).1 e1
    subst hkk
    rw[← e]
    have h9:i<done.size:=by rw[inv.size];exact iO
    simp[Array.getD,h9]
   rw[getD_set_ne false e,hd k2 LO]
   have fB:k2≠m:=fun e2=>e (by rw[e2];exact vz.symm)
   rw[decide_eq_decide]
   omega⟩
  rcases h1 w hI with⟨hdn,w',h1,h2⟩ | ⟨w',h1,h2⟩ | ⟨f,args,h1,hC⟩
  ·rw[← hex,h1]
   exact mZ _ _ (kt w' h2) (.inl (by unfold dn;rw[ho];exact hdn))
  ·rw[← hex,h1]
   exact mZ _ _ (kt w' h2) (.inr rfl)
  rw[← hex,h1]
  refine hC.mono ?_
  rintro e w' ⟨rfl,h2⟩
  exact mZ _ _ (kt w' h2) (.inr rfl)
theorem sS {id:Nat} {Q:Exit→Act→World→Prop} {a:Act} {w:World} {l:List Oper} (V:Nat→Value) (I:Nat→World→Prop) (S:List Nat) (hm:P.follows .mixedOrders=true)
  (hF:fj .any l.toArray S=true) (hS:jP .any l.toArray S=true) (hN:S.Nodup) (h0:I 0 w.drew)
  (h:∀ aF,jY l.toArray V (Array.replicate l.toArray.size false) (List.range l.toArray.size) a=aF→(∀ i o,l.toArray[i]? = some o→Ff P .any l.toArray V I S aF i o)∧∀ w',I S.length w'→Q .normal aF w'):(Code.region id l.toArray true).wp P Q a w:=by
 refine wp_region_any hm ?_
 obtain⟨h1,h2⟩:=h _ rfl
 refine Mm (V:=V) (I:=I) (S:=S) hF hS hN h1 h2 _ _ _ _ ⟨by simp,rfl,fun j hj=>?_,0,yI _,h0,fun k hk=>?_⟩ ?_
 ·rw[getD_replicate_false] at hj
  cases hj
 ·rw[getD_replicate_false]
  simp
 unfold left
 rw[List.filter_eq_self.2 (fun i hi=>by rw[getD_in (by simpa using List.mem_range.1 hi) (getD_replicate_false _ _)];rfl),List.length_range]
def DK (P:Program) (ops:Array Oper) (I:Nat→World→Prop) (S:List Nat) (aF:Act) (i:Nat) (o:Oper) (v:Value):Prop :=
 (i∉S∧∀ m,m≤S.length→V0 .any ops S i m=true→∀ w,I m w→(execOp aF.eval o).run P w = .ok (.value v) w)∨(∃ k,S[k]? = some i∧∀ w,I k w→((o.dst=none∧∃ w',(execOp aF.eval o).run P w = .ok .skip w'∧I (k+1) w')∨(∃ w',(execOp aF.eval o).run P w = .ok (.value v) w'∧I (k+1) w')∨∃ f args,(execOp aF.eval o).run P w = .ok (.enter f args) w∧Calls P f args w fun e w'=>e = .returned v∧I (k+1) w'))
def kI (P:Program) (ops:Array Oper) (I:Nat→World→Prop) (S:List Nat) (aF:Act):Nat→List Oper→List Value→Prop
 | i,o::r,v::vs=>DK P ops I S aF i o v∧kI P ops I S aF (i+1) r vs
 | _,_,_=>True
theorem BJ {P:Program} {l:List Oper} {Vs:List Value} {I:Nat→World→Prop} {S:List Nat} {aF:Act}:∀ (r:List Oper) (vs:List Value) (k:Nat),r.length=vs.length→(∀ j,r[j]? = l[k+j]?)→(∀ j,vs[j]? = Vs[k+j]?)→kI P l.toArray I S aF k r vs →
  ∀ j o,r[j]? = some o→Ff P .any l.toArray (fun i=>Vs.getD i undef) I S aF (k+j) o
 | [],_,_,_,_,_,_,_,_,h=>by simp at h
 | _::_,[],_,h,_,_,_,_,_,_=>by cases h
 | o::r,v::vs,k,h,h1,h2,hF,j,o',ho'=>by
  unfold kI at hF
  cases j with
  | zero=>
   obtain rfl:o=o':=by simpa using ho'
   have hv:Vs[k]? = some v:=by simpa using (h2 0).symm
   have hV:Vs.getD k undef=v:=by rw[yN,hv];rfl
   have h4:=hF.1
   unfold DK at h4
   unfold Ff
   rw[Nat.add_zero]
   dsimp only
   rw[hV]
   exact h4
  | succ j=>
   rw[List.getElem?_cons_succ] at ho'
   rw[show k+(j+1)=k+1+j by omega]
   refine BJ r vs (k+1) (by simpa using h) (fun j=>?_) (fun j=>?_) hF.2 j o' ho'
   ·have:=h1 (j+1)
    rw[List.getElem?_cons_succ] at this
    rw[this,show k+(j+1)=k+1+j by omega]
   have:=h2 (j+1)
   rw[List.getElem?_cons_succ] at this
   rw[this,show k+(j+1)=k+1+j by omega]
theorem lw {P:Program} {id:Nat} {Q:Exit→Act→World→Prop} {a:Act} {w:World} {l:List Oper} (Vs:List Value) (I:Nat→World→Prop) (S:List Nat) (hm:P.follows .mixedOrders=true)
  (hF:fj .any l.toArray S=true) (hS:jP .any l.toArray S=true) (hN:S.Nodup) (hl:l.length=Vs.length) (h0:I 0 w.drew)
  (h1:kI P l.toArray I S (cj l Vs a) 0 l Vs) (h2:∀ w',I S.length w'→Q .normal (cj l Vs a) w'):(Code.region id l.toArray true).wp P Q a w:=by
 refine sS (fun i=>Vs.getD i undef) I S hm hF hS hN h0 ?_
 rintro aF rfl
 have e:jY l.toArray (fun i=>Vs.getD i undef) (Array.replicate l.toArray.size false) (List.range l.toArray.size) a=cj l Vs a:=by
  rw[List.size_toArray,List.range_eq_range']
  exact rL l Vs 0 a hl (fun j=>by rw[yR]) (fun j=>by rw[yR]) (by omega)
 rw[e]
 refine⟨fun i o ho=>?_,h2⟩
 rw[List.getElem?_toArray] at ho
 have:=BJ (P:=P) l Vs 0 hl (fun j=>by rw[yR]) (fun j=>by rw[yR]) h1 i o ho
 rwa [yR] at this
end
structure Both (w:World) (B Dp Dr:Nat) (s1 s2:St) (Mp Mr:Nat→Prop) (rp:StR) (rr:RefR):Prop where
 prog:StoreAt w B Dp Mp s1 rp
 ref:RefAt w B Dr Mr s2 rr
 p1:∀ g,rp.foot Dp Mp g→g≠Dr∧rr.pv.ownBlock≠some g∧rr.kv.ownBlock≠some g
 p2:∀ g,rr.foot Dr Mr g→g≠Dp∧rp.pv.ownBlock≠some g∧rp.mv ≠ .map (some g)
theorem JB {w:World} {g:Nat} {t:TypeId} {a1 a2 a3 a4 b1 b2 b3 b4:Value} (h1:Blk w g t #[a1,a2,a3,a4]) (h2:Blk w g t #[b1,b2,b3,b4]):a2=b2∧a3=b3:=by
 unfold Blk at h1 h2
 rw[h1] at h2
 injection h2 with h2
 injection h2 with h2 _ _
 injection h2 with h2
 injection h2 with _ h2
 injection h2 with e2 h2
 injection h2 with e3 _
 exact⟨e2,e3⟩
section
variable {w w':World} {B Dp Dr:Nat} {s1 s2 t1:St} {Mp Mr M':Nat→Prop} {rp rp':StR} {rr rr':RefR}
theorem Both.onProg (h:Both w B Dp Dr s1 s2 Mp Mr rp rr) (hc:KeepF Dp w w') (hS:StoreAt w' B Dp M' t1 rp') (hM:∀ g,M' g→Mp g∨w.heap.size≤g):Both w' B Dp Dr t1 s2 M' Mr rp' rr:=by
 obtain⟨k1,k2,sv',pv',mv',wk',gZ,kp,km⟩:=hc _ _ _ _ h.prog.blk
 obtain⟨rfl,rfl⟩:=JB gZ hS.blk
 have new:∀ g,w.heap.size≤g→g≠Dr∧rr.pv.ownBlock≠some g∧rr.kv.ownBlock≠some g:=fun g hg=>
  ⟨fun e=>by have:=h.ref.blk.lt;omega,fun e=>by have:=(h.ref.own.lt g e).2;omega,fun e=>by have:=(h.ref.kown.lt g e).2;omega⟩
 refine⟨hS,h.ref.kept k1 fun g hg=>k2 g (h.ref.footLt hg) (h.p2 g hg).1 (h.p2 g hg).2.1 (h.p2 g hg).2.2,fun g hg=>?_,fun g hg=>⟨(h.p2 g hg).1,fun e=>?_,fun e=>?_⟩⟩
 ·rcases hg with hg | rfl | hg | hg
  ·rcases hM g hg with h1 | h1
   ·exact h.p1 g (.inl h1)
   exact new g h1
  ·exact h.p1 _ (.inr (.inl rfl))
  ·rcases kp g hg with h1 | h1
   ·exact h.p1 g (.inr (.inr (.inl h1)))
   exact new g h1
  rcases km g hg with h1 | h1
  ·exact h.p1 g (.inr (.inr (.inr h1)))
  exact new g h1
 ·rcases kp g e with h1 | h1
  ·exact (h.p2 g hg).2.1 h1
  have:=h.ref.footLt hg
  omega
 rcases km g e with h1 | h1
 ·exact (h.p2 g hg).2.2 h1
 have:=h.ref.footLt hg
 omega
theorem Both.onRef (h:Both w B Dp Dr s1 s2 Mp Mr rp rr) (hc:KeepR Dr w w') (hS:RefAt w' B Dr M' t1 rr') (hM:∀ g,M' g→Mr g∨w.heap.size≤g):Both w' B Dp Dr s1 t1 Mp M' rp rr':=by
 obtain⟨k1,k2,sv',pv',kv',wk',gZ,kp,km⟩:=hc _ _ _ _ h.ref.blk
 obtain⟨rfl,rfl⟩:=JB gZ hS.blk
 have new:∀ g,w.heap.size≤g→g≠Dp∧rp.pv.ownBlock≠some g∧rp.mv ≠ .map (some g):=fun g hg=>
  ⟨fun e=>by have:=h.prog.blk.lt;omega,fun e=>by have:=h.prog.footLt (.inr (.inr (.inl e)));omega,fun e=>by have:=h.prog.footLt (.inr (.inr (.inr e)));omega⟩
 refine⟨h.prog.kept k1 fun g hg=>k2 g (h.prog.footLt hg) (h.p1 g hg).1 (h.p1 g hg).2.1 (h.p1 g hg).2.2,hS,fun g hg=>⟨(h.p1 g hg).1,fun e=>?_,fun e=>?_⟩,fun g hg=>?_⟩
 ·rcases kp g e with h1 | h1
  ·exact (h.p1 g hg).2.1 h1
  have:=h.prog.footLt hg
  omega
 ·rcases km g e with h1 | h1
  ·exact (h.p1 g hg).2.2 h1
  have:=h.prog.footLt hg
  omega
 rcases hg with hg | rfl | hg | hg
 ·rcases hM g hg with h1 | h1
  ·exact h.p2 g (.inl h1)
  exact new g h1
 ·exact h.p2 _ (.inr (.inl rfl))
 ·rcases kp g hg with h1 | h1
  ·exact h.p2 g (.inr (.inr (.inl h1)))
  exact new g h1
 rcases km g hg with h1 | h1
 ·exact h.p2 g (.inr (.inr (.inr h1)))
 exact new g h1
theorem Both.below (h:Both w B Dp Dr s1 s2 Mp Mr rp rr) (hb:Below w.heap.size w w'):Both w' B Dp Dr s1 s2 Mp Mr rp rr:=⟨h.prog.below hb,h.ref.below hb,h.p1,h.p2⟩
end
def Pair (w:World) (B Dp Dr:Nat) (s1 s2:St):Prop:=∃ Mp Mr rp rr,Both w B Dp Dr s1 s2 Mp Mr rp rr
section
variable {w w':World} {B Dp Dr:Nat} {s1 s2:St}
theorem Pair.below (h:Pair w B Dp Dr s1 s2) (hb:Below w.heap.size w w'):Pair w' B Dp Dr s1 s2:=let ⟨Mp,Mr,rp,rr,h⟩:=h;⟨Mp,Mr,rp,rr,h.below hb⟩
theorem Pair.ok (h:Pair w B Dp Dr s1 s2):B≤w.heap.size:=let ⟨_,_,_,_,h⟩:=h;yH h.prog.base (YJ h.prog.blk.lt)
theorem Pair.put {Mp Mr:Nat→Prop} {rp:StR} {rr:RefR} (h:Both w B Dp Dr s1 s2 Mp Mr rp rr) {o:Int×St} {e:Ending} (hp:jF B Dp Mp o w e w'):e = .returned (.int .i64 o.1)∧Below B w w'∧Pair w' B Dp Dr o.2 s2:=by
 obtain⟨he,hc,M',r',hS,hM⟩:=hp
 exact⟨he,hc.bel,M',Mr,r',rr,h.onProg hc.keep hS hM⟩
theorem Pair.undo {Mp Mr:Nat→Prop} {rp:StR} {rr:RefR} (h:Both w B Dp Dr s1 s2 Mp Mr rp rr) {e:Ending} (hp:lf B Dp Mp s1 w e w'):e = .returned (.int .i64 (cu s1).1)∧Below B w w'∧Pair w' B Dp Dr (cu s1).2 s2:=by
 obtain⟨he,hc,r',hS⟩:=hp
 exact⟨he,hc.bel,Mp,Mr,r',rr,h.onProg hc.keep hS fun _ hg=>.inl hg⟩
theorem Pair.rput {Mp Mr:Nat→Prop} {rp:StR} {rr:RefR} (h:Both w B Dp Dr s1 s2 Mp Mr rp rr) {o:Int×St} {e:Ending} (hp:fZ B Dr Mr o w e w'):e = .returned (.int .i64 o.1)∧Below B w w'∧Pair w' B Dp Dr s1 o.2:=by
 obtain⟨he,hc,M',r',hS,hM⟩:=hp
 exact⟨he,hc.bel,Mp,M',rp,r',h.onRef hc.keep hS hM⟩
theorem Pair.lines {Mp Mr:Nat→Prop} {rp:StR} {rr:RefR} (h:Both w B Dp Dr s1 s2 Mp Mr rp rr) {nm:ByteArray} {e:Ending} (hp:lI B Dp Mp s1 nm w e w'):Below B w w'∧Pair w' B Dp Dr (bG s1 nm) s2 ∧
  ∃ A c,e = .returned (.tuple #[.slice A (ma s1 nm).1.length c,.int .i64 (ma s1 nm).2])∧w'.ownsRow w.heap.size 82 2 (.slice A (ma s1 nm).1.length c) (ma s1 nm).1.length ((ma s1 nm).1.flatMap FrT.cells):=by
 obtain⟨hc,M',r',v,hS,hM,he,ho,-⟩:=hp
 obtain⟨A,c,rfl⟩:=bD ho
 exact⟨hc.bel,⟨M',Mr,r',rr,h.onProg hc.keep hS hM⟩,A,c,he,ho⟩
theorem Pair.rlines {Mp Mr:Nat→Prop} {rp:StR} {rr:RefR} (h:Both w B Dp Dr s1 s2 Mp Mr rp rr) {nm:ByteArray} {e:Ending} (hp:qX B Dr Mr s2 nm w e w'):Below B w w'∧KeepR Dr w w'∧Pair w' B Dp Dr s1 (bG s2 nm) ∧
  ∃ A c,e = .returned (.tuple #[.slice A (ma s2 nm).1.length c,.int .i64 (ma s2 nm).2])∧FrsAt w' w'.heap.size (.slice A (ma s2 nm).1.length c) (ma s2 nm).1:=by
 obtain⟨hc,M',r',v,hS,hM,he,hf⟩:=hp
 obtain⟨A,c,rfl,-⟩:=hf.open_
 exact⟨hc.bel,hc.keep,⟨Mp,M',rp,r',h.onRef hc.keep hS hM⟩,A,c,he,hf⟩
end
def KeepT (w w':World):Prop:=∀ (g:Nat) cs t f,w.heap[g]? = some (.cells cs t f)→t≠56→t≠49→t≠46→t≠26→w'.heap[g]? = w.heap[g]?
theorem KeepT.blk {w w':World} {g:Nat} {t:TypeId} {cs:Array Value} (h:KeepT w w') (hb:Blk w g t cs) (h1:t≠56) (h2:t≠49) (h3:t≠46) (h4:t≠26):Blk w' g t cs:=(h g cs t (0,0) hb h1 h2 h3 h4).trans hb
theorem KeepT.own {w w':World} {b t s n:Nat} {v:Value} {xs:List Value} (h:KeepT w w') (ho:w.ownsRow b t s v n xs) (h1:t≠56) (h2:t≠49) (h3:t≠46) (h4:t≠26):w'.ownsRow b t s v n xs :=
 bX ho fun g e=>let ⟨cs,hc⟩:=cm ho e;h g cs t (0,0) hc h1 h2 h3 h4
theorem RefAt.keepT {w w':World} {B D:Nat} {M:Nat→Prop} {st:St} {r:RefR} (h:RefAt w B D M st r) (hk:KeepR D w w'):KeepT w w':=by
 obtain⟨_,e1,_⟩:=hk _ _ _ _ h.blk
 intro g cs t f hc h1 h2 h3 h4
 refine e1 g (Array.getElem?_eq_some_iff.1 hc).1 (fun e=>?_) (fun e=>?_) (fun e=>?_)
 ·have:=h.blk
  unfold Blk at this
  rw[← e,hc] at this
  injection this with this
  injection this with _ this _
  exact h2 this
 ·obtain⟨cs',pZ⟩:=cm h.own e
  rw[hc] at pZ
  injection pZ with pZ
  injection pZ with _ pZ _
  exact h3 pZ
 obtain⟨cs',pZ⟩:=cm h.kown e
 rw[hc] at pZ
 injection pZ with pZ
 injection pZ with _ pZ _
 exact h4 pZ
structure Step (w w':World) (B Dp Dr:Nat) (s1 s2:St):Prop where
 bel:Below B w w'
 pair:Pair w' B Dp Dr s1 s2
 keep:KeepT w w'
section
variable {w w' w2:World} {B Dp Dr:Nat} {s1 s2 t1 t2:St} {Mp Mr:Nat→Prop} {rp:StR} {rr:RefR}
theorem Step.of_below (h:Pair w B Dp Dr s1 s2) (hb:Below w.heap.size w w'):Step w w' B Dp Dr s1 s2:=⟨hb.mono h.ok,h.below hb,fun g _ _ _ hc _ _ _ _=>hb.block g (Array.getElem?_eq_some_iff.1 hc).1⟩
theorem Step.trans (h:Step w w' B Dp Dr s1 s2) (k:Step w' w2 B Dp Dr t1 t2):Step w w2 B Dp Dr t1 t2:=⟨h.bel.trans k.bel,k.pair,fun g cs t f hc h1 h2 h3 h4=>(k.keep g cs t f ((h.keep g cs t f hc h1 h2 h3 h4).trans hc) h1 h2 h3 h4).trans (h.keep g cs t f hc h1 h2 h3 h4)⟩
theorem Step.put (h:Both w B Dp Dr s1 s2 Mp Mr rp rr) {o:Int×St} {e:Ending} (hp:jF B Dp Mp o w e w'):e = .returned (.int .i64 o.1)∧Step w w' B Dp Dr o.2 s2:=by
 obtain⟨he,hc,M',r',hS,hM⟩:=hp
 exact⟨he,hc.bel,⟨M',Mr,r',rr,h.onProg hc.keep hS hM⟩,fun g cs t f hx h1 _ h3 _=>hc.chg.same g cs t f hx h1 h3⟩
theorem Step.undo (h:Both w B Dp Dr s1 s2 Mp Mr rp rr) {e:Ending} (hp:lf B Dp Mp s1 w e w'):e = .returned (.int .i64 (cu s1).1)∧Step w w' B Dp Dr (cu s1).2 s2:=by
 obtain⟨he,hc,r',hS⟩:=hp
 exact⟨he,hc.bel,⟨Mp,Mr,r',rr,h.onProg hc.keep hS fun _ hg=>.inl hg⟩,fun g cs t f hx h1 _ h3 _=>hc.chg.same g cs t f hx h1 h3⟩
theorem Step.rput (h:Both w B Dp Dr s1 s2 Mp Mr rp rr) {o:Int×St} {e:Ending} (hp:fZ B Dr Mr o w e w'):e = .returned (.int .i64 o.1)∧Step w w' B Dp Dr s1 o.2:=by
 obtain⟨he,hc,M',r',hS,hM⟩:=hp
 exact⟨he,hc.bel,⟨Mp,M',rp,r',h.onRef hc.keep hS hM⟩,h.ref.keepT hc.keep⟩
theorem Step.lines (h:Both w B Dp Dr s1 s2 Mp Mr rp rr) {nm:ByteArray} {e:Ending} (hp:lI B Dp Mp s1 nm w e w'):Step w w' B Dp Dr (bG s1 nm) s2 ∧
  ∃ A c,e = .returned (.tuple #[.slice A (ma s1 nm).1.length c,.int .i64 (ma s1 nm).2])∧w'.ownsRow w.heap.size 82 2 (.slice A (ma s1 nm).1.length c) (ma s1 nm).1.length ((ma s1 nm).1.flatMap FrT.cells):=by
 obtain⟨hc,M',r',v,hS,hM,he,ho,-⟩:=hp
 obtain⟨A,c,rfl⟩:=bD ho
 exact⟨⟨hc.bel,⟨M',Mr,r',rr,h.onProg hc.keep hS hM⟩,fun g cs t f hx h1 _ h3 _=>hc.chg.same g cs t f hx h1 h3⟩,A,c,he,ho⟩
theorem Step.rlines (h:Both w B Dp Dr s1 s2 Mp Mr rp rr) {nm:ByteArray} {e:Ending} (hp:qX B Dr Mr s2 nm w e w'):Step w w' B Dp Dr s1 (bG s2 nm) ∧
  ∃ A c,e = .returned (.tuple #[.slice A (ma s2 nm).1.length c,.int .i64 (ma s2 nm).2])∧FrsAt w' w'.heap.size (.slice A (ma s2 nm).1.length c) (ma s2 nm).1:=by
 obtain⟨hc,M',r',v,hS,hM,he,hf⟩:=hp
 obtain⟨A,c,rfl,-⟩:=hf.open_
 exact⟨⟨hc.bel,⟨Mp,M',rp,r',h.onRef hc.keep hS hM⟩,h.ref.keepT hc.keep⟩,A,c,he,hf⟩
end
def MidI (w0:World) (B Dp Dr x:Nat) (cs:Array Value) (st Ce:St) (m:Nat) (w:World):Prop :=
 Step w0 w B Dp Dr (if m=0 then st else Ce) (if m≤1 then st else Ce)∧Blk w x 51 cs
theorem MidI.next {w0 w w':World} {B Dp Dr x:Nat} {cs:Array Value} {st Ce s1 s2:St} {m:Nat} (h:MidI w0 B Dp Dr x cs st Ce m w) (hs:Step w w' B Dp Dr s1 s2) (h1:s1=Ce) (h2:s2=if m+1≤1 then st else Ce):MidI w0 B Dp Dr x cs st Ce (m+1) w':=by
 subst h1 h2
 refine⟨?_,hs.keep.blk h.2 (by decide) (by decide) (by decide) (by decide)⟩
 have h3:=h.1.trans hs
 rw[if_neg (by omega)]
 exact h3
theorem IA (B Dp Dr:Nat) (st:St) (a:ActC) (w:World) (h:Pair w B Dp Dr st st) (aK:StOk st) (ht:∀ W,Below B w W→Tab W) (hs:SetAt w B a.c.val a.c.s) (hn:SetNames a.c.s) (hsm:StSmall st 1000) :
  Calls Tryz.prog 19 #[.pointer (some ⟨Dp,0,none⟩),.pointer (some ⟨Dr,0,none⟩),a.val] w fun e w'=>e = .returned (.bool true)∧Step w w' B Dp Dr (lO st a.kind a.c.s) (lO st a.kind a.c.s):=by
 obtain⟨k,s,al,cl,ai,ci,ab,cb⟩:=a
 show Calls Tryz.prog 19 #[.pointer (some ⟨Dp,0,none⟩),.pointer (some ⟨Dr,0,none⟩),.agg #[.int .i64 k,.string s.name,.int .i64 s.depth,.int .i64 s.low,.int .i64 s.high,.int .i64 s.len,.slice al s.lines.length cl,.int .i64 s.pipe,.int .i64 s.arbor,.int .i64 s.purch,.int .i64 s.most,.int .i64 s.brake,.slice ai s.items.length ci,.slice ab s.bricks.length cb]] w fun e w'=>e = .returned (.bool true)∧Step w w' B Dp Dr (lO st k s) (lO st k s)
 change SetAt w B (aL s al cl ai ci ab cb) s at hs
 change SetNames s at hn
 have Ka:=h.ok
 have Yn:=zh fun W (hb:Below B w W)=>(hs.below hb (yA _)).mono (yH Ka hb.size)
 have HSB:=zh fun W (hb:Below B w W)=>hs.below hb (yA _)
 have Ea:=zh ht
 have HN:=zh hn
 have Fw:=zh aK
 have M0:=zh hsm
 have h1:=Step.of_below h ((yB _ w).alloc (yA _) (.cells #[.int .i64 k,.string s.name,.int .i64 s.depth,.int .i64 s.low,.int .i64 s.high,.int .i64 s.len,.slice al s.lines.length cl,.int .i64 s.pipe,.int .i64 s.arbor,.int .i64 s.purch,.int .i64 s.most,.int .i64 s.brake,.slice ai s.items.length ci,.slice ab s.bricks.length cb] 51))
 have aS:=zh h1
 have rn:=zh (Blk.new w 51 #[.int .i64 k,.string s.name,.int .i64 s.depth,.int .i64 s.low,.int .i64 s.high,.int .i64 s.len,.slice al s.lines.length cl,.int .i64 s.pipe,.int .i64 s.arbor,.int .i64 s.purch,.int .i64 s.most,.int .i64 s.brake,.slice ai s.items.length ci,.slice ab s.bricks.length cb])
 clear h aK ht hs hn hsm h1
 rcases qvb k with (hk | ⟨h0,hk⟩) | ⟨h0,h1,hk⟩ | ⟨h0,h1,h2,hk⟩ | ⟨h0,h1,h2,h3⟩
 ·have hA:lO st k s=(putV st s).2:=vqr hk
  rw[hA]
  subst hk
  have HV:Y0 (∀ n t,putV st s=(n,t)→(putV st s).1=n∧(putV st s).2=t):=fun n t e=>by rw[e];exact⟨rfl,rfl⟩
  have HP:=zh fun W (hI:MidI w B Dp Dr w.heap.size #[.int .i64 0,.string s.name,.int .i64 s.depth,.int .i64 s.low,.int .i64 s.high,.int .i64 s.len,.slice al s.lines.length cl,.int .i64 s.pipe,.int .i64 s.arbor,.int .i64 s.purch,.int .i64 s.most,.int .i64 s.brake,.slice ai s.items.length ci,.slice ab s.bricks.length cb] st (putV st s).2 0 W)=>(by
   obtain⟨hS,-⟩:=hI
   obtain⟨Mp,Mr,rp,rr,hB⟩:=hS.pair
   exact (Rv B Dp Mp st rp (aL s al cl ai ci ab cb) s W hB.prog Fw.o (Yn.o W hS.bel) HN.o M0.o.past).mono fun _ _ hp=>Step.put hB hp:Calls Tryz.prog 24 #[.pointer (some ⟨Dp,0,none⟩),aL s al cl ai ci ab cb] W fun e w'=>e = .returned (.int .i64 (putV st s).1)∧Step W w' B Dp Dr (putV st s).2 st)
  have HR:=zh fun W (hI:MidI w B Dp Dr w.heap.size #[.int .i64 0,.string s.name,.int .i64 s.depth,.int .i64 s.low,.int .i64 s.high,.int .i64 s.len,.slice al s.lines.length cl,.int .i64 s.pipe,.int .i64 s.arbor,.int .i64 s.purch,.int .i64 s.most,.int .i64 s.brake,.slice ai s.items.length ci,.slice ab s.bricks.length cb] st (putV st s).2 1 W)=>(by
   obtain⟨hS,-⟩:=hI
   obtain⟨Mp,Mr,rp,rr,hB⟩:=hS.pair
   exact (RA B Dr Mr st rr (aL s al cl ai ci ab cb) s W hB.ref Fw.o (HSB.o W hS.bel) HN.o M0.o.past).mono fun _ _ hp=>Step.rput hB hp:Calls Tryz.prog 57 #[.pointer (some ⟨Dr,0,none⟩),aL s al cl ai ci ab cb] W fun e w'=>e = .returned (.int .i64 (putV st s).1)∧Step W w' B Dp Dr (putV st s).2 (putV st s).2)
  unfold aL at HP HR
  generalize (putV st s).1=n at *
  generalize (putV st s).2=Ce at *
  have t1:(n==n)=true:=YF _
  clear HV hA Yn HSB Ea HN Fw M0
  go_enter Tryz.func19,Tryz.ntmps19
  have z0:=rn.o.cell 0
  simp only[aP,aO] at z0
  go_upto_region 3 with fail
  have H0:Y0 (MidI w B Dp Dr w.heap.size #[.int .i64 0,.string s.name,.int .i64 s.depth,.int .i64 s.low,.int .i64 s.high,.int .i64 s.len,.slice al s.lines.length cl,.int .i64 s.pipe,.int .i64 s.arbor,.int .i64 s.purch,.int .i64 s.most,.int .i64 s.brake,.slice ai s.items.length ci,.slice ab s.bricks.length cb] st Ce 0 (w.alloc (.cells #[.int .i64 0,.string s.name,.int .i64 s.depth,.int .i64 s.low,.int .i64 s.high,.int .i64 s.len,.slice al s.lines.length cl,.int .i64 s.pipe,.int .i64 s.arbor,.int .i64 s.purch,.int .i64 s.most,.int .i64 s.brake,.slice ai s.items.length ci,.slice ab s.bricks.length cb] 51)).drew):=⟨aS.o.trans (Step.of_below aS.o.pair ((yB _ _).drew)),rn.o⟩
  clear aS rn z0
  generalize (w.alloc (.cells #[.int .i64 0,.string s.name,.int .i64 s.depth,.int .i64 s.low,.int .i64 s.high,.int .i64 s.len,.slice al s.lines.length cl,.int .i64 s.pipe,.int .i64 s.arbor,.int .i64 s.purch,.int .i64 s.most,.int .i64 s.brake,.slice ai s.items.length ci,.slice ab s.bricks.length cb] 51))=W1 at *
  refine lw [.pointer (some ⟨Dp,0,none⟩),.pointer (some ⟨w.heap.size,1,none⟩),.agg (zA s al cl ai ci ab cb),.int .i64 n,.pointer (some ⟨Dr,0,none⟩),.pointer (some ⟨w.heap.size,1,none⟩),.agg (zA s al cl ai ci ab cb),.int .i64 n,.bool true,.bool true] (MidI w B Dp Dr w.heap.size #[.int .i64 0,.string s.name,.int .i64 s.depth,.int .i64 s.low,.int .i64 s.high,.int .i64 s.len,.slice al s.lines.length cl,.int .i64 s.pipe,.int .i64 s.arbor,.int .i64 s.purch,.int .i64 s.most,.int .i64 s.brake,.slice ai s.items.length ci,.slice ab s.bricks.length cb] st Ce) [3,7] (by kernel_rfl) (by kernel_rfl) (by kernel_rfl) (by decide) (by rfl) H0.o ?_ ?_
  ·simp only[cj,Act.put,aJ,aI,aH]
   simp only[kI]
   refine⟨?_,?_,?_,?_,?_,?_,?_,?_,?_,?_,trivial⟩
   ·exact .inl ⟨by decide,fun m hm aK w2 hI=>by go_simp⟩
   ·exact .inl ⟨by decide,fun m hm aK w2 hI=>by go_simp⟩
   ·exact .inl ⟨by decide,fun m hm aK w2 hI=>by have q1:=hI.2.cell 1;have q2:=hI.2.cell 2;have q3:=hI.2.cell 3;have q4:=hI.2.cell 4;have q5:=hI.2.cell 5;have q6:=hI.2.cell 6;have q7:=hI.2.cell 7;have q8:=hI.2.cell 8;have q9:=hI.2.cell 9;have iZ:=hI.2.cell 10;have j9:=hI.2.cell 11;have mY:=hI.2.cell 12;have ow:=hI.2.cell 13;simp only[aP,aQ,aO] at q1 q2 q3 q4 q5 q6 q7 q8 q9 iZ j9 mY ow;go_simp⟩
   ·exact .inr ⟨0,rfl,fun w2 hI=>.inr (.inr ⟨24,#[.pointer (some ⟨Dp,0,none⟩),.agg (zA s al cl ai ci ab cb)],by go_simp,(HP.o w2 hI).mono fun _ _ hp=>⟨hp.1,hI.next hp.2 rfl (by rw[if_pos (by omega)])⟩⟩)⟩
   ·exact .inl ⟨by decide,fun m hm aK w2 hI=>by go_simp⟩
   ·exact .inl ⟨by decide,fun m hm aK w2 hI=>by go_simp⟩
   ·exact .inl ⟨by decide,fun m hm aK w2 hI=>by have q1:=hI.2.cell 1;have q2:=hI.2.cell 2;have q3:=hI.2.cell 3;have q4:=hI.2.cell 4;have q5:=hI.2.cell 5;have q6:=hI.2.cell 6;have q7:=hI.2.cell 7;have q8:=hI.2.cell 8;have q9:=hI.2.cell 9;have iZ:=hI.2.cell 10;have j9:=hI.2.cell 11;have mY:=hI.2.cell 12;have ow:=hI.2.cell 13;simp only[aP,aQ,aO] at q1 q2 q3 q4 q5 q6 q7 q8 q9 iZ j9 mY ow;go_simp⟩
   ·exact .inr ⟨1,rfl,fun w2 hI=>.inr (.inr ⟨57,#[.pointer (some ⟨Dr,0,none⟩),.agg (zA s al cl ai ci ab cb)],by go_simp,(HR.o w2 hI).mono fun _ _ hp=>⟨hp.1,hI.next hp.2 rfl (by rw[if_neg (by omega)])⟩⟩)⟩
   ·exact .inl ⟨by decide,fun m hm aK w2 hI=>by go_simp⟩
   exact .inl ⟨by decide,fun m hm aK w2 hI=>by go_simp⟩
  intro w9 hI9
  simp only[cj,Act.put,aJ,aI,aH]
  have HI9:Y0 (Step w w9 B Dp Dr Ce Ce):=hI9.1
  clear hI9 H0 HP HR t1
  go_wp2_with fail
  go_ret
  exact⟨rfl,HI9.o⟩
 ·have hA:lO st k s=(cw st s.name).2:=vqq hk
  rw[hA]
  subst hk
  have HV:Y0 (∀ n t,cw st s.name=(n,t)→(cw st s.name).1=n∧(cw st s.name).2=t):=fun n t e=>by rw[e];exact⟨rfl,rfl⟩
  have HP:=zh fun W (hI:MidI w B Dp Dr w.heap.size #[.int .i64 1,.string s.name,.int .i64 s.depth,.int .i64 s.low,.int .i64 s.high,.int .i64 s.len,.slice al s.lines.length cl,.int .i64 s.pipe,.int .i64 s.arbor,.int .i64 s.purch,.int .i64 s.most,.int .i64 s.brake,.slice ai s.items.length ci,.slice ab s.bricks.length cb] st (cw st s.name).2 0 W)=>(by
   obtain⟨hS,-⟩:=hI
   obtain⟨Mp,Mr,rp,rr,hB⟩:=hS.pair
   exact (qqH B Dp Mp st rp s.name W hB.prog Fw.o M0.o.past).mono fun _ _ hp=>Step.put hB hp:Calls Tryz.prog 26 #[.pointer (some ⟨Dp,0,none⟩),.string s.name] W fun e w'=>e = .returned (.int .i64 (cw st s.name).1)∧Step W w' B Dp Dr (cw st s.name).2 st)
  have HR:=zh fun W (hI:MidI w B Dp Dr w.heap.size #[.int .i64 1,.string s.name,.int .i64 s.depth,.int .i64 s.low,.int .i64 s.high,.int .i64 s.len,.slice al s.lines.length cl,.int .i64 s.pipe,.int .i64 s.arbor,.int .i64 s.purch,.int .i64 s.most,.int .i64 s.brake,.slice ai s.items.length ci,.slice ab s.bricks.length cb] st (cw st s.name).2 1 W)=>(by
   obtain⟨hS,-⟩:=hI
   obtain⟨Mp,Mr,rp,rr,hB⟩:=hS.pair
   exact (OH B Dr Mr st rr s.name W hB.ref Fw.o M0.o.past).mono fun _ _ hp=>Step.rput hB hp:Calls Tryz.prog 58 #[.pointer (some ⟨Dr,0,none⟩),.string s.name] W fun e w'=>e = .returned (.int .i64 (cw st s.name).1)∧Step W w' B Dp Dr (cw st s.name).2 (cw st s.name).2)
  unfold aL at HP HR
  generalize (cw st s.name).1=n at *
  generalize (cw st s.name).2=Ce at *
  have t1:(n==n)=true:=YF _
  clear HV hA Yn HSB Ea HN Fw M0
  go_enter Tryz.func19,Tryz.ntmps19
  have z0:=rn.o.cell 0
  simp only[aP,aO] at z0
  go_upto_region 5 with fail
  have H0:Y0 (MidI w B Dp Dr w.heap.size #[.int .i64 1,.string s.name,.int .i64 s.depth,.int .i64 s.low,.int .i64 s.high,.int .i64 s.len,.slice al s.lines.length cl,.int .i64 s.pipe,.int .i64 s.arbor,.int .i64 s.purch,.int .i64 s.most,.int .i64 s.brake,.slice ai s.items.length ci,.slice ab s.bricks.length cb] st Ce 0 (w.alloc (.cells #[.int .i64 1,.string s.name,.int .i64 s.depth,.int .i64 s.low,.int .i64 s.high,.int .i64 s.len,.slice al s.lines.length cl,.int .i64 s.pipe,.int .i64 s.arbor,.int .i64 s.purch,.int .i64 s.most,.int .i64 s.brake,.slice ai s.items.length ci,.slice ab s.bricks.length cb] 51)).drew):=⟨aS.o.trans (Step.of_below aS.o.pair ((yB _ _).drew)),rn.o⟩
  clear aS rn z0
  generalize (w.alloc (.cells #[.int .i64 1,.string s.name,.int .i64 s.depth,.int .i64 s.low,.int .i64 s.high,.int .i64 s.len,.slice al s.lines.length cl,.int .i64 s.pipe,.int .i64 s.arbor,.int .i64 s.purch,.int .i64 s.most,.int .i64 s.brake,.slice ai s.items.length ci,.slice ab s.bricks.length cb] 51))=W1 at *
  refine lw [.pointer (some ⟨Dp,0,none⟩),.pointer (some ⟨w.heap.size,1,none⟩),.pointer (some ⟨w.heap.size,1,none⟩),.string s.name,.int .i64 n,.pointer (some ⟨Dr,0,none⟩),.pointer (some ⟨w.heap.size,1,none⟩),.pointer (some ⟨w.heap.size,1,none⟩),.string s.name,.int .i64 n,.bool true,.bool true] (MidI w B Dp Dr w.heap.size #[.int .i64 1,.string s.name,.int .i64 s.depth,.int .i64 s.low,.int .i64 s.high,.int .i64 s.len,.slice al s.lines.length cl,.int .i64 s.pipe,.int .i64 s.arbor,.int .i64 s.purch,.int .i64 s.most,.int .i64 s.brake,.slice ai s.items.length ci,.slice ab s.bricks.length cb] st Ce) [4,9] (by kernel_rfl) (by kernel_rfl) (by kernel_rfl) (by decide) (by rfl) H0.o ?_ ?_
  ·simp only[cj,Act.put,aJ,aI,aH]
   simp only[kI]
   refine⟨?_,?_,?_,?_,?_,?_,?_,?_,?_,?_,?_,?_,trivial⟩
   ·exact .inl ⟨by decide,fun m hm aK w2 hI=>by go_simp⟩
   ·exact .inl ⟨by decide,fun m hm aK w2 hI=>by go_simp⟩
   ·exact .inl ⟨by decide,fun m hm aK w2 hI=>by go_simp⟩
   ·exact .inl ⟨by decide,fun m hm aK w2 hI=>by have q1:=hI.2.cell 1;simp only[aP,aQ,aO] at q1;go_simp⟩
   ·exact .inr ⟨0,rfl,fun w2 hI=>.inr (.inr ⟨26,#[.pointer (some ⟨Dp,0,none⟩),.string s.name],by go_simp,(HP.o w2 hI).mono fun _ _ hp=>⟨hp.1,hI.next hp.2 rfl (by rw[if_pos (by omega)])⟩⟩)⟩
   ·exact .inl ⟨by decide,fun m hm aK w2 hI=>by go_simp⟩
   ·exact .inl ⟨by decide,fun m hm aK w2 hI=>by go_simp⟩
   ·exact .inl ⟨by decide,fun m hm aK w2 hI=>by go_simp⟩
   ·exact .inl ⟨by decide,fun m hm aK w2 hI=>by have q1:=hI.2.cell 1;simp only[aP,aQ,aO] at q1;go_simp⟩
   ·exact .inr ⟨1,rfl,fun w2 hI=>.inr (.inr ⟨58,#[.pointer (some ⟨Dr,0,none⟩),.string s.name],by go_simp,(HR.o w2 hI).mono fun _ _ hp=>⟨hp.1,hI.next hp.2 rfl (by rw[if_neg (by omega)])⟩⟩)⟩
   ·exact .inl ⟨by decide,fun m hm aK w2 hI=>by go_simp⟩
   exact .inl ⟨by decide,fun m hm aK w2 hI=>by go_simp⟩
  intro w9 hI9
  simp only[cj,Act.put,aJ,aI,aH]
  have HI9:Y0 (Step w w9 B Dp Dr Ce Ce):=hI9.1
  clear hI9 H0 HP HR t1
  go_wp2_with fail
  go_ret
  exact⟨rfl,HI9.o⟩
 ·rw[vqp hk]
  subst hk
  obtain⟨Mp,Mr,rp,rr,hB⟩:=aS.o.pair
  have hU:=(Ru B Dp Mp st rp _ hB.prog M0.o.past).mono fun _ _ hp=>Step.undo hB hp
  have HR:=zh fun W (hS:Step w W B Dp Dr (cu st).2 st)=>(by
   obtain⟨Mp,Mr,rp,rr,hB⟩:=hS.pair
   exact (OG B Dr Mr st rr W hB.ref M0.o.past).mono fun _ _ hp=>Step.rput hB hp:Calls Tryz.prog 59 #[.pointer (some ⟨Dr,0,none⟩)] W fun e w'=>e = .returned (.int .i64 (cu st).1)∧Step W w' B Dp Dr (cu st).2 (cu st).2)
  generalize (cu st).1=n at *
  generalize (cu st).2=Ce at *
  have t1:(n==n)=true:=YF _
  clear hB Yn HSB Ea HN Fw M0
  go_enter Tryz.func19,Tryz.ntmps19
  have z0:=rn.o.cell 0
  simp only[aP,aO] at z0
  go_wp2_with fail
  refine hU.mono ?_
  rintro e w2 ⟨rfl,jU⟩
  have gx:=zh (aS.o.trans jU)
  clear jU hU aS rn z0
  go_wp2_with fail
  refine (HR.o w2 gx.o).mono ?_
  rintro e w3 ⟨rfl,sO⟩
  have jS:=zh (gx.o.trans sO)
  clear sO HR gx
  go_wp2_with fail
  go_ret
  exact⟨rfl,jS.o⟩
 ·rw[vqo hk]
  subst hk
  obtain⟨Mp,Mr,rp,rr,hB⟩:=aS.o.pair
  have hL:=(vw B Dp Mp st rp s.name _ hB.prog Fw.o (Ea.o _ aS.o.bel) (yH M0.o.work (by decide)) (yH M0.o.known (by decide))).mono fun _ _ hp=>Step.lines hB hp
  have HR:=zh fun W (hS:Step w W B Dp Dr (bG st s.name) st)=>(by
   obtain⟨Mp,Mr,rp,rr,hB⟩:=hS.pair
   exact (K7 B Dr Mr st rr s.name W hB.ref Fw.o (yH M0.o.work (by decide)) (yH M0.o.known (by decide))).mono fun _ _ hp=>Step.rlines hB hp:Calls Tryz.prog 60 #[.pointer (some ⟨Dr,0,none⟩),.string s.name] W fun e w'=>Step W w' B Dp Dr (bG st s.name) (bG st s.name)∧∃ A c,e = .returned (.tuple #[.slice A (ma st s.name).1.length c,.int .i64 (ma st s.name).2])∧FrsAt w' w'.heap.size (.slice A (ma st s.name).1.length c) (ma st s.name).1)
  generalize (ma st s.name).1=fl at *
  generalize (ma st s.name).2=n at *
  generalize bG st s.name=Ce at *
  have t1:(n==n)=true:=YF _
  clear hB Yn HSB Ea HN Fw M0
  go_enter Tryz.func19,Tryz.ntmps19
  have z0:=rn.o.cell 0
  simp only[aP,aO] at z0
  have z1:=rn.o.cell 1
  simp only[aP,aQ,aO] at z1
  go_wp2_with fail
  refine hL.mono ?_
  rintro e w2 ⟨jU,A2,c2,rfl,EJ⟩
  have gx:=zh (aS.o.trans jU)
  have qkk:=zh (jU.keep.blk rn.o (by decide) (by decide) (by decide) (by decide))
  have Fx:=zh EJ
  clear jU EJ hL aS rn z0 z1
  have z1:=qkk.o.cell 1
  simp only[aP,aQ,aO] at z1
  go_wp2_with fail
  refine (HR.o w2 gx.o).mono ?_
  rintro e w3 ⟨sO,A3,c3,rfl,JZ⟩
  have jS:=zh (gx.o.trans sO)
  have Du:=sO.keep.own Fx.o (by decide) (by decide) (by decide) (by decide)
  have Jh:=DD (.slice A2 fl.length c2) (.slice A3 fl.length c3) fl fl w3.heap.size w3 (Flat.of_own Du) JZ
  rw[yD rfl] at Jh
  clear sO HR gx qkk Fx Du JZ z1
  go_wp2_with fail
  refine Jh.mono ?_
  rintro e w4 ⟨rfl,nq,rfl⟩
  have hS4:=jS.o.trans (Step.of_below jS.o.pair (Zf (yB _ _) nq))
  clear Jh jS
  go_wp2_with fail
  go_ret
  exact⟨rfl,hS4⟩
 rw[vqn h0 h1 h2 h3]
 have b0:(k==0)=false:=by simpa using h0
 have b1:(k==1)=false:=by simpa using h1
 have b2:(k==2)=false:=by simpa using h2
 have b3:(k==3)=false:=by simpa using h3
 clear Yn HSB Ea HN Fw M0 h0 h1 h2 h3
 go_enter Tryz.func19,Tryz.ntmps19
 have z0:=rn.o.cell 0
 simp only[aP,aO] at z0
 go_wp2_with fail
 go_ret
 exact⟨rfl,aS.o⟩
theorem Dl (B Dp Dr:Nat) (st:St) (w:World) (h:Pair w B Dp Dr st st) (aK:StOk st) (ht:∀ W,Below B w W→Tab W) :
  Calls Tryz.prog 20 #[.pointer (some ⟨Dp,0,none⟩),.pointer (some ⟨Dr,0,none⟩)] w fun e w'=>e = .returned (.bool true)∧Below w.heap.size w w':=by
 obtain⟨Mp,Mr,rp,rr,hB⟩:=h
 have Ka:=yH hB.prog.base (YJ hB.prog.blk.lt)
 have HB:=zh hB
 have hnn:st.sets.length=(st.sets.map SetT.name).length:=(yP _).symm
 have PN:(st.sets.map SetT.name).length≤60:=by rw[← hnn];exact aK.len
 have HNp:Y0 (∀ W,Below w.heap.size w W→Calls Tryz.prog 28 #[.pointer (some ⟨Dp,0,none⟩)] W fun e w'=>∃ v',e = .returned v'∧w'.ownsRow W.heap.size 9 1 v' (st.sets.map SetT.name).length ((st.sets.map SetT.name).map Value.string)∧Below W.heap.size W w'):=fun W hb=>(ZE B Dp Mp st rp W (hB.prog.below hb) aK).mono fun _ _ ⟨h1,v,h2,h3⟩=>⟨v,h2,by rw[← hnn];exact h3,h1⟩
 have HNr:Y0 (∀ W,Below w.heap.size w W→Calls Tryz.prog 62 #[.pointer (some ⟨Dr,0,none⟩)] W fun e w'=>∃ v',e = .returned v'∧w'.ownsRow W.heap.size 9 1 v' (st.sets.map SetT.name).length ((st.sets.map SetT.name).map Value.string)∧Below W.heap.size W w'):=fun W hb=>(K6 B Dr Mr st rr W (hB.ref.below hb) aK).mono fun _ _ ⟨h1,v,h2,h3⟩=>⟨v,h2,by rw[← hnn];exact h3,h1⟩
 have HWk:=zh fun W (hb:Below w.heap.size w W)=>Ej B Dp Mp st rp W (hB.prog.below hb)
 have HGp:=zh fun nm W (hb:Below w.heap.size w W)=>qzH B Dp Mp st rp nm W (hB.prog.below hb) aK
 have HGr:=zh fun nm W (hb:Below w.heap.size w W)=>wy B Dr Mr st rr nm W (hB.ref.below hb) aK
 have HFp:=zh fun nm W (hb:Below w.heap.size w W)=>ZF B Dp Mp st rp nm W (hB.prog.below hb) aK (ht W (hb.mono Ka))
 have HFr:=zh fun nm W (hb:Below w.heap.size w W)=>K8 B Dr Mr st rr nm W (hB.ref.below hb) aK
 have hd:=hB.ref.blk.cell 3
 simp only[aP,aQ,aO] at hd
 have Zd:=hB.ref.blk.lt
 have ud:=YL hd
 clear hB ht aK hnn HB hd
 generalize st.sets.map SetT.name=NN at *
 generalize (st.work:Int)=wk at *
 have nwk:(wk != wk)=false:=bne_self_eq_false _
 go_enter Tryz.func20,Tryz.ntmps20
 go_upto_region 1 with fail
 refine ag 14 (fun jx=>if jx=1 then some (vd w.heap.size 9 1 NN.length (NN.map Value.string)) else if jx=3 then some (vd w.heap.size 9 1 NN.length (NN.map Value.string)) else if jx=4 then some (qxW (.bool true)) else if jx=8 then some (qxW (.int .i64 wk)) else none) (by kernel_rfl) (by kernel_rfl) ?_
 simp only[aU,aT,aW,aX]
 first | refine aR (by first | rfl | go_simp) rfl rfl ?_ | refine bk rfl (by first | rfl | go_simp) rfl ?_
 go_big_quiet_step (fail)
 refine YH ?_
 refine jh (by first | rfl | go_simp) rfl (fun w1 ao _=>⟨28,#[.pointer (some ⟨Dp,0,none⟩)],by go_simp,CP (HNp.o w1 ao) ao.size⟩) ?_
 rintro _ ⟨A1,c1,rfl⟩
 simp only[Act.put,aJ,aI,aH]
 first | refine aR (by first | rfl | go_simp) rfl rfl ?_ | refine bk rfl (by first | rfl | go_simp) rfl ?_
 go_big_quiet_step (fail)
 refine YH ?_
 refine jh (by first | rfl | go_simp) rfl (fun w1 ao _=>⟨62,#[.pointer (some ⟨Dr,0,none⟩)],by go_simp,CP (HNr.o w1 ao) ao.size⟩) ?_
 rintro _ ⟨A2,c2,rfl⟩
 simp only[Act.put,aJ,aI,aH]
 refine jh (by first | rfl | go_simp) rfl ?_ ?_
 ·intro w1 ao hk
  have h1:w1.ownsRow w.heap.size 9 1 (.slice A1 NN.length c1) NN.length (NN.map Value.string):=hk 16 (yG (by kernel_rfl))
  have h2:w1.ownsRow w.heap.size 9 1 (.slice A2 NN.length c2) NN.length (NN.map Value.string):=hk 18 (yG (by kernel_rfl))
  have hC:=Xo (.slice A1 NN.length c1) (.slice A2 NN.length c2) NN NN w1.heap.size w1 (Flat.of_own h1) (Flat.of_own h2)
  rw[yD rfl] at hC
  exact⟨61,#[.slice A1 NN.length c1,.slice A2 NN.length c2],by go_simp,hC.mono fun _ _ hp=>⟨_,hp.1,(let ⟨n,e⟩:=hp.2;e▸Zf (yB _ _) n),rfl,trivial⟩⟩
 rintro _ rfl
 simp only[Act.put,aJ,aI,aH]
 first | refine aR (by first | rfl | go_simp) rfl rfl ?_ | refine bk rfl (by first | rfl | go_simp) rfl ?_
 go_big_quiet_step (fail)
 refine YH ?_
 first | refine aR (by first | rfl | go_simp) rfl rfl ?_ | refine bk rfl (by first | rfl | go_simp) rfl ?_
 go_big_quiet_step (fail)
 refine YH ?_
 first | refine aR (by first | rfl | go_simp) rfl rfl ?_ | refine bk rfl (by first | rfl | go_simp) rfl ?_
 go_big_quiet_step (fail)
 refine YH ?_
 refine jh (by first | rfl | go_simp) rfl (fun w1 ao _=>⟨29,#[.pointer (some ⟨Dp,0,none⟩)],by go_simp,(HWk.o w1 ao).mono fun _ _ hp=>⟨_,hp.1,hp.2▸yB _ _,rfl,trivial⟩⟩) ?_
 rintro _ rfl
 simp only[Act.put,aJ,aI,aH]
 first | refine aR (by first | rfl | go_simp) rfl rfl ?_ | refine bk rfl (by first | rfl | go_simp) rfl ?_
 go_big_quiet_step (fail)
 refine YH ?_
 refine qs (.pointer (some ⟨Dr,0,none⟩)) (by first | rfl | go_simp) rfl (fun w=>by go_simp) ?_
 simp only[Act.put,aJ,aI,aH]
 first | refine aR (by first | rfl | go_simp) rfl rfl ?_ | refine bk rfl (by first | rfl | go_simp) rfl ?_
 go_big_quiet_step (fail)
 refine YH ?_
 first | refine aR (by first | rfl | go_simp) rfl rfl ?_ | refine bk rfl (by first | rfl | go_simp) rfl ?_
 go_big_quiet_step (fail)
 refine YH ?_
 first | refine aR (by first | rfl | go_simp) rfl rfl ?_ | refine bk rfl (by first | rfl | go_simp) rfl ?_
 go_big_quiet_step (fail)
 refine YH ?_
 refine Zc ?_
 intro w8 aM _
 have dP:=zh aM
 clear aM HNp HWk ud nwk
 go_wp2_with fail
 refine (HNr.o w8 dP.o).mono ?_
 rintro e w9 ⟨v9,rfl,ho9,ja⟩
 obtain⟨A9,c9,rfl⟩:=bD ho9
 have lJ:=zh (dP.o.trans (ja.mono dP.o.size))
 have h98:=ja.size
 clear ja HNr
 go_wp2_with (at_builtin;refine cA _ rfl (.tmp 31) (.tmp 32) 68 rfl w8.heap.size 9 mc Tryz.underlying68 rfl _ NN.length _ rfl ho9 (.string (⟨#[110,111,110,101]⟩:ByteArray)) rfl rfl (by unfold maxLen;omega) (by omega) (by omega) ?_;intro g3 bF w3 jN fW vB jA)
 have Ec:Y0 (w3.ownsRow w8.heap.size 9 1 (.slice (some ⟨g3,0,none⟩) (NN.length+1) bF) (NN.length+1) ((NN++[(⟨#[110,111,110,101]⟩:ByteArray)]).map Value.string)):=by unfold Y0;rw[List.map_append];exact jN
 have bY:=zh (lJ.o.grown fW lJ.o.size (fun k hk=>yH dP.o.size (ho9.lt k hk).1))
 have hL:(NN++[(⟨#[110,111,110,101]⟩:ByteArray)]).length=NN.length+1:=by simp
 clear jN fW vB jA ho9 h98 lJ
 generalize NN++[(⟨#[110,111,110,101]⟩:ByteArray)]=LL at *
 go_loopw [35] (fun ix wr=>∃ k:Nat,k≤LL.length∧ix = .int .i64 k∧Y0 (Below w.heap.size w wr)∧Y0 (wr.ownsRow w8.heap.size 9 1 (.slice (some ⟨g3,0,none⟩) (NN.length+1) bF) (NN.length+1) (LL.map Value.string))) (fun ix _=>LL.length-(intOf ix).toNat)
 case atStart=>exact⟨0,yI _,rfl,bY,Ec⟩
 clear bY Ec
 obtain⟨k,hk,rfl,HB,HO⟩:=hrel
 have k0:(0:Int)≤(k:Int):=yE _
 by_cases aB:k<LL.length
 ·have k1:(k:Int)<(NN.length:Int)+1:=by omega
  have hx:=HO.o.cells (g:=g3) (by simp[Value.ownBlock]) k (.string LL[k]) (by rw[YD,yM aB];rfl)
  rw[Addr.add_lit,yR] at hx
  generalize LL[k]=nm at *
  have hGp:=HGp.o nm wr HB.o
  have qjk:=zh fun W hb=>HGr.o nm W hb
  have qkb:=zh fun W hb=>HFp.o nm W hb
  have qka:=zh fun W hb=>HFr.o nm W hb
  unfold vO at hGp qjk
  generalize (qa st nm).1=G at *
  generalize (qa st nm).2=er at *
  generalize (iQ st nm).1=fb at *
  generalize (iQ st nm).2=fe at *
  have n1:(er != er)=false:=bne_self_eq_false _
  have n2:(fb != fb)=false:=by cases fb <;> rfl
  have n3:(fe != fe)=false:=bne_self_eq_false _
  go_wp2_with fail
  refine hGp.mono ?_
  rintro e w2 ⟨bE,⟨s,al,cl,ai,ci,ab,cb⟩,rfl,dr,EJ⟩
  simp only at dr
  subst dr
  have LH:Below w.heap.size w w2:=HB.o.trans (bE.mono HB.o.size)
  have ha:=(yB w2.heap.size w2).alloc (yA _) (.cells (zA s al cl ai ci ab cb) 26)
  have HW2:=zh (LH.trans (ha.mono LH.size))
  have Fx:=zh ((bQ HO.o bE).alloc (.cells (zA s al cl ai ci ab cb) 26))
  have HC2:=zh (EJ.below_ ha)
  have vk:=zh (Blk.new w2 26 (zA s al cl ai ci ab cb))
  have NG:=qjk.o _ HW2.o
  clear bE EJ LH ha hx hGp qjk HB HO
  unfold SetC.val aL
  dsimp only
  go_wp2_with fail
  generalize w2.alloc (.cells (zA s al cl ai ci ab cb) 26)=W2 at *
  refine NG.mono ?_
  rintro e w4 ⟨cD,⟨s4,bl,dl,bi,di,bb,db⟩,rfl,NC,YU⟩
  simp only at NC
  have hc5:=NC.symm
  clear NC
  subst hc5
  have hw4:Below w.heap.size w w4:=HW2.o.trans (cD.mono HW2.o.size)
  have ha:=(yB w4.heap.size w4).alloc (yA _) (.cells (zA s bl dl bi di bb db) 26)
  have HW4:=zh (hw4.trans (ha.mono hw4.size))
  have qo:=zh ((bQ Fx.o cD).alloc (.cells (zA s bl dl bi di bb db) 26))
  have Yz:=zh ((HC2.o.below_ cD).below_ ha)
  have HE4:=zh (YU.below_ ha)
  have Yd:=zh ((vk.o.below cD vk.o.lt).below ha (yK vk.o.lt cD.size))
  have HY4:=zh (Blk.new w4 26 (zA s bl dl bi di bb db))
  have hFp:=qkb.o _ HW4.o
  clear cD YU hw4 ha NG qkb HW2 Fx HC2 vk
  unfold SetC.val aL
  dsimp only
  go_wp2_with fail
  generalize w4.alloc (.cells (zA s bl dl bi di bb db) 26)=W4 at *
  refine hFp.mono ?_
  rintro e w5 ⟨rfl,bg⟩
  have BS:=zh (HW4.o.trans (bg.mono HW4.o.size))
  have hFr:=qka.o _ BS.o
  go_wp2_with fail
  refine hFr.mono ?_
  rintro e w6 ⟨rfl,iq⟩
  have HW6:=zh (BS.o.trans (iq.mono BS.o.size))
  have PE:=bg.trans (iq.mono bg.size)
  have tS:=zh (bQ qo.o PE)
  have HX6:=zh (Yd.o.below PE Yd.o.lt)
  have HY6:=zh (HY4.o.below PE HY4.o.lt)
  have Bu:=pB _ _ s s w6 (Yz.o.below_ PE).set (HE4.o.below_ PE).set
  rw[yD rfl] at Bu
  clear bg iq PE hFp hFr qka HW4 BS qo Yz HE4 Yd HY4
  obtain⟨x0,x1,x2,x3,x4,x5,x6,x7,x8,x9,uO,lQ,nk⟩:=HX6.o.c13
  obtain⟨y0,y1,y2,y3,y4,y5,y6,y7,y8,y9,lM,iY,iG⟩:=HY6.o.c13
  unfold SetC.val aL at Bu
  dsimp only at Bu
  go_wp2_with fail
  refine Bu.mono ?_
  rintro e w7 ⟨rfl,na⟩
  have HW7:=zh (HW6.o.trans (na.mono HW6.o.size))
  have HO7:=zh (bQ tS.o na)
  clear na Bu x0 x1 x2 x3 x4 x5 x6 x7 x8 x9 uO lQ nk y0 y1 y2 y3 y4 y5 y6 y7 y8 y9 lM iY iG HX6 HY6 HW6 tS
  go_wp2_with fail
  go_roundw
  case rel=>exact⟨k+1,by omega,by go_num,HW7,HO7⟩
  simp[intOf];omega
 obtain rfl:k=LL.length:=by omega
 have kk:((LL.length:Nat):Int)=(NN.length:Int)+1:=by omega
 rw[kk]
 go_wp2_with fail
 go_ret
 exact⟨rfl,HB.o⟩
def rr0:RefR:=⟨.slice none 0 0,[],.slice none 0 0,[],.slice none 0 0,[]⟩
theorem ZP (w:World) {B:Nat} (hB:B≤w.heap.size):RefAt (w.alloc (.cells #[.slice none 0 0,.slice none 0 0,.slice none 0 0,.int .i64 0] 49)) B w.heap.size (fun _=>False) O4 rr0 :=
 ⟨Blk.new _ _ _,hB,fun h=>h,fun _ h=>h.elim,SetsM.nil,rfl,yJ _ _ _ _,fun _ _ h=>h,fun _ h=>absurd h YG,rfl,yJ _ _ _ _,fun _ _ h=>h,fun _ h=>absurd h YG,rfl⟩
theorem I6 {w:World} {B Dp:Nat} {Mp:Nat→Prop} {rp:StR} (h:StoreAt w B Dp Mp O4 rp) (hB:B≤w.heap.size):Pair (w.alloc (.cells #[.slice none 0 0,.slice none 0 0,.slice none 0 0,.int .i64 0] 49)) B Dp w.heap.size O4 O4:=by
 have ha:=(yB w.heap.size w).alloc (yA _) (.cells #[.slice none 0 0,.slice none 0 0,.slice none 0 0,.int .i64 0] 49)
 refine⟨Mp,fun _=>False,rp,rr0,h.below ha,ZP w hB,fun g hg=>⟨fun e=>?_,fun e=>(by cases e),fun e=>(by cases e)⟩,fun g hg=>?_⟩
 ·have:=h.footLt hg
  omega
 rcases hg with hg | rfl | hg | hg
 ·exact hg.elim
 ·refine⟨fun e=>?_,fun e=>?_,fun e=>?_⟩
  ·have:=h.blk.lt;omega
  ·have:=(h.own.lt _ e).2;omega
  have:=h.footLt (.inr (.inr (.inr e)));omega
 ·cases hg
 cases hg
theorem DT (L:List ActC):dq L 0=O4:=by unfold dq;rw[List.take_zero];rfl
end Go.Proofs.YtfhmbechennkbaaGreatDoor
