/- Lemmas. -/
import Derived.Test.YtmmhehgajkaniaaGreatDoorZ8
namespace Go.Proofs.YtmmhehgajkaniaaGreatDoor
def ct (m:Int) (f a:FrT):Bool:=bF (dI a*dI f)&&decide (0<iS (fM (dI a*dI f)) ⟨m,1⟩)
theorem FX {m:Int} (h1 : -1152921504606846976≤m) (h2:m≤1152921504606846976):au ⟨m,1⟩=true:=by
 unfold au;simp only[Bool.and_eq_true,decide_eq_true_eq,beq_iff_eq];refine⟨⟨⟨⟨by omega,by omega⟩,h1⟩,h2⟩,?_⟩;show ((Nat.gcd m.natAbs 1:Nat):Int)=1;rw[Nat.gcd_one_right];rfl
section
variable {l:List FrT} {m:Int} {f:FrT} (hg:∀a∈l,au a=true) (hl:0<l.length) (hm:1≤m∧m≤67108864) (hf:au f=true) (hf0:0≤f.num) (hk:∀a∈l,bF (dI a*dI f)=true)
include hg hl in
end
open Go.RowKit Go.Shelf
def cS (md:Region.Mode) (ops:Array Oper) (i j:Nat):Bool :=
 match ops[i]? with
 | some o=>o.after.any fun e=>Region.binds md e&&e.on==j
 | none=>false
def okM (md:Region.Mode) (ops:Array Oper) (S:List Nat) (i m:Nat):Bool :=
 (List.range S.length).all fun k=>(!cS md ops i (S.getD k 0)||decide (k<m))&&(!cS md ops (S.getD k 0) i||decide (m≤k))
def cW (md:Region.Mode) (ops:Array Oper) (_S:List Nat):Bool :=
 Region.noSelect ops&&ops.all (fun o=>o.guard.isNone) &&
 (List.range ops.size).all fun i=>match ops[i]? with
  | none=>false
  | some o=>(o.after.all fun e=>!Region.binds md e||decide (e.on < i)) &&
   (List.range ops.size).all fun j=>match ops[j]? with
    | none=>false
    | some p=>match p.dst with
     | none=>true
     | some d=>(!(o.looksAt ops).contains d||cS md ops i j)&&(decide (i=j) || !(o.dst==some d))
def vP (md:Region.Mode) (ops:Array Oper) (S:List Nat):Bool :=
 (List.range S.length).all fun k=>decide (S.getD k 0<ops.size)&&(decide (k=0)||cS md ops (S.getD k 0) (S.getD (k-1) 0))&&(match ops[S.getD k 0]? with|some o=>o.dst.isNone|none=>false)
section
variable {P:Program} {ops:Array Oper} {md:Region.Mode} {V:Nat→Value} {Wd:Nat→World} {S:List Nat}
theorem sV {i j:Nat} {o:Oper} (ho:ops[i]?=some o):cS md ops i j=true ↔ ∃e∈o.after,Region.binds md e=true∧e.on=j:=by
 unfold cS;rw[ho];dsimp only
 rw[←Array.any_toList,List.any_eq_true];simp only[Bool.and_eq_true,beq_iff_eq,Array.mem_toList_iff]
def fk (ops:Array Oper) (i:Nat):Option Tmp:=(ops[i]?).bind (·.dst)
def lx (ops:Array Oper) (V:Nat→Value) (done:Array Bool):List Nat→Act→Act
 | [],a=>a
 | i::r,a=>lx ops V done r (if done.getD i true=false then a.put (fk ops i) (V i) else a)
theorem rI {done:Array Bool} {i:Nat}:∀(L:List Nat) (a:Act),i∉L→lx ops V (done.setIfInBounds i true) L a=lx ops V done L a
 | [],_,_=>rfl
 | j::r,a,h=>by
  have xP:i≠j:=fun e=>h (by rw[e];simp);unfold lx;rw[getD_set_ne true xP,rI r _ (fun hh=>h (by simp[hh]))]
theorem py {done:Array Bool} {i:Nat} (hi:done.getD i true=false) (ao:i<done.size) (hd:∀j,j≠i→∀d,fk ops i=some d→fk ops j≠some d):∀(L:List Nat) (a:Act),L.Nodup→i∈L →
  lx ops V (done.setIfInBounds i true) L (a.put (fk ops i) (V i))=lx ops V done L a
 | [],_,_,h=>by cases h
 | j::r,a,hn,hm=>by
  rw[List.nodup_cons] at hn;unfold lx;by_cases e:j=i
  ·subst e;have h1:(done.setIfInBounds j true).getD j true=true:=by
    simp[Array.getD,ao]
   rw[if_neg (by rw[h1];simp),if_pos hi,rI r _ hn.1]
  rw[getD_set_ne true (Ne.symm e)];have Mg:i∈r:=by
   rcases List.mem_cons.1 hm with h|h
   ·exact absurd h.symm e
   exact h
  by_cases hj:done.getD j true=false
  ·rw[if_pos hj,if_pos hj,Act.put_comm a (V i) (V j) (hd j e),py hi ao hd r _ hn.2 Mg]
  rw[if_neg hj,if_neg hj,py hi ao hd r _ hn.2 Mg]
theorem tD {done:Array Bool} {o:Oper} (hs:∀cs b,o.op ≠ .select cs b):∀(L:List Nat) (a:Act),(∀j∈L,done.getD j true=false→∀d,fk ops j=some d→d∉o.looksAt ops)→execOp (lx ops V done L a).eval o=execOp a.eval o
 | [],_,_=>rfl
 | j::r,a,h=>by
  unfold lx;by_cases hj:done.getD j true=false
  ·rw[if_pos hj,tD hs r _ (fun j hj=>h j (by simp[hj])),execOp_put (ops:=ops) o hs a _ _ (h j (by simp) hj)]
  rw[if_neg hj,tD hs r _ (fun j hj=>h j (by simp[hj]))]
def left (done:Array Bool) (n:Nat):Nat:=((List.range n).filter fun i=>!done.getD i true).length
theorem xE {done:Array Bool} {i:Nat} (hi:done.getD i true=false) (ao:i < done.size):∀L:List Nat,L.Nodup→i∈L→(L.filter fun i=>!done.getD i true).length=(L.filter fun j=>!(done.setIfInBounds i true).getD j true).length + 1
 | [],_,h=>by cases h
 | j::r,hn,hm=>by
  rw[List.nodup_cons] at hn;have vzn:∀r:List Nat,i∉r→(r.filter fun j=>!(done.setIfInBounds i true).getD j true)=r.filter fun j=>!done.getD j true:=fun r hr=>
   List.filter_congr fun x hx=>by rw[getD_set_ne true (fun e=>hr (by rw[e];exact hx))]
  by_cases e:j=i
  ·subst e;have h1:(done.setIfInBounds j true).getD j true=true:=by
    simp[Array.getD,ao]
   rw[List.filter_cons_of_pos (by rw[hi];rfl),List.filter_cons_of_neg (by rw[h1];simp),vzn r hn.1];rfl
  have Mg:i∈r:=by
   rcases List.mem_cons.1 hm with h|h
   ·exact absurd h.symm e
   exact h
  have ih:=xE hi ao r hn.2 Mg;have h2:=getD_set_ne (listed:=done) true (Ne.symm e);cases hj:done.getD j true
  ·rw[List.filter_cons_of_pos (by rw[hj];rfl),List.filter_cons_of_pos (by rw[h2,hj];rfl),List.length_cons,List.length_cons,ih]
  rw[List.filter_cons_of_neg (by rw[hj];simp),List.filter_cons_of_neg (by rw[h2,hj];simp),ih]
structure FInv (md:Region.Mode) (ops:Array Oper) (V:Nat→Value) (Wd:Nat→World) (S:List Nat) (aF:Act) (done:Array Bool) (a:Act) (w:World):Prop where
 size:done.size=ops.size
 act:lx ops V done (List.range ops.size) a=aF
 closed:∀j,done.getD j false=true→∀i,cS md ops j i=true→done.getD i false=true
 world:∃m,m≤S.length∧w=Wd m∧∀k,k<S.length→done.getD (S.getD k 0) false=decide (k<m)
theorem kp {done:Array Bool} {i:Nat} (h:i<done.size):done.getD i true=done.getD i false:=by
 simp[Array.getD,h]
theorem Lu (hF:cW md ops S=true) (i j:Nat) (h:cS md ops i j=true):j<i:=by
 unfold cW at hF;simp only[Bool.and_eq_true,List.all_eq_true,List.mem_range] at hF;obtain⟨⟨k8,sP⟩,hF⟩:=hF;unfold cS at h
 cases ho:ops[i]? with
 | none=>rw[ho] at h;cases h
 | some o=>
  obtain⟨e,he,h1,h2⟩:=(sV ho).1 (by unfold cS;exact h);have hi:=hF i (Array.getElem?_eq_some_iff.1 ho).1;rw[ho] at hi;simp only[Bool.and_eq_true] at hi;have h3:=Array.all_eq_true_iff_forall_mem.1 hi.1 e he;simp only[Bool.or_eq_true,Bool.not_eq_true',decide_eq_true_eq] at h3;rcases h3 with h3|h3
  ·rw[h1] at h3;cases h3
  omega
theorem pq {done:Array Bool} (de:done.size=ops.size) (i:Nat):i∈Region.ready md ops done↔(i<ops.size∧done.getD i false=false∧∀j,cS md ops i j=true→done.getD j false=true):=by
 rw[mem_ready];constructor
 ·rintro⟨h1,o,ho,h2⟩;have hi:=(Array.getElem?_eq_some_iff.1 ho).1;refine⟨hi,by rw[←kp (by omega)];exact h1,fun j hj=>?_⟩;obtain⟨e,he,h3,rfl⟩:=(sV ho).1 hj;exact h2 e he h3
 rintro⟨hi,h1,h2⟩;refine⟨by rw[kp (by omega)];exact h1,ops[i],Array.getElem?_eq_getElem hi,fun e he hb=>h2 _ ((sV (Array.getElem?_eq_getElem hi)).2 ⟨e,he,hb,rfl⟩)⟩
theorem Lv (hF:cW md ops S=true) {done:Array Bool} (de:done.size=ops.size) (hr:Region.ready md ops done=[]) (i:Nat):i<ops.size→done.getD i false=true:=by
 induction i using Nat.strongRecOn with
 | _ i ih=>
  intro hi;cases h:done.getD i false
  case true=>rfl
  have:i∈Region.ready md ops done:=(pq de i).2 ⟨hi,h,fun j hj=>ih j (Lu hF i j hj) (by have:=Lu hF i j hj;omega)⟩;rw[hr] at this;cases this
theorem Ej {done:Array Bool} (de:done.size=ops.size) (fF:∀i,i<ops.size→done.getD i false=true) (L:List Nat):(∀i∈L,i<ops.size)→∀b,lx ops V done L b=b:=by
 induction L with
 | nil=>intro _ _;rfl
 | cons i r ih=>
  intro h b;unfold lx;have h1:done.getD i true=true:=by rw[kp (by rw[de];exact h i (by simp))];exact fF i (h i (by simp))
  rw[if_neg (by rw[h1];simp)];exact ih (fun j hj=>h j (by simp[hj])) b
theorem Ek {done:Array Bool} (de:done.size=ops.size) (hl:left done ops.size=0):Region.ready md ops done=[]:=by
 rw[List.eq_nil_iff_forall_not_mem];intro i hi;obtain⟨h1,h2,-⟩:=(pq de i).1 hi;have h3:i∈(List.range ops.size).filter fun i=>!done.getD i true:=List.mem_filter.2 ⟨List.mem_range.2 h1,by rw[kp (by rw[de];exact h1),h2];rfl⟩;unfold left at hl;rw[List.length_eq_zero_iff] at hl;rw[hl] at h3;cases h3
theorem El (hF:cW md ops S=true) {done:Array Bool} (de:done.size=ops.size) {i:Nat} {o:Oper} {a:Act} (ho:ops[i]?=some o) (Px:∀j,cS md ops i j=true→done.getD j false=true):execOp (lx ops V done (List.range ops.size) a).eval o=execOp a.eval o:=by
 unfold cW at hF;simp only[Bool.and_eq_true,List.all_eq_true,List.mem_range] at hF;obtain⟨⟨k8,sP⟩,hF⟩:=hF;have lz:=(Array.getElem?_eq_some_iff.1 ho).1;have hFi:=hF i lz;rw[ho] at hFi;simp only[Bool.and_eq_true] at hFi;have vzL:=Region.noSelect_spec k8;refine tD (ops:=ops) (fun cs b=>vzL i o cs b ho) _ _ fun j hj hju d hd vzt=>?_;have re:=List.mem_range.1 hj;have h1:=List.all_eq_true.1 hFi.2 j (List.mem_range.2 re)
 rw[Array.getElem?_eq_getElem re] at h1;unfold fk at hd;rw[Array.getElem?_eq_getElem re] at hd;simp only[Option.bind_some] at hd;dsimp only at h1
 rw[hd] at h1;simp only[Bool.and_eq_true,Bool.or_eq_true,Bool.not_eq_true',List.contains_eq_mem,decide_eq_false_iff_not] at h1;rcases h1.1 with h2|h2
 ·exact h2 vzt
 have h3:=Px j h2;rw[kp (by rw[de];exact re),h3] at hju;cases hju
theorem Em (hF:cW md ops S=true) {i:Nat} {o:Oper} (ho:ops[i]?=some o) (j:Nat) (xP:j≠i) (d:Nat) (hd:fk ops i=some d) (hdj:fk ops j=some d):False:=by
 unfold cW at hF;simp only[Bool.and_eq_true,List.all_eq_true,List.mem_range] at hF;obtain⟨⟨k8,sP⟩,hF⟩:=hF;have lz:=(Array.getElem?_eq_some_iff.1 ho).1;have hFi:=hF i lz;rw[ho] at hFi;simp only[Bool.and_eq_true] at hFi;unfold fk at hdj
 cases hjo:ops[j]? with
 | none=>rw[hjo] at hdj;cases hdj
 | some p=>
  have re:=(Array.getElem?_eq_some_iff.1 hjo).1;rw[hjo] at hdj;simp only[Option.bind_some] at hdj;have h1:=List.all_eq_true.1 hFi.2 j (List.mem_range.2 re);rw[hjo] at h1;dsimp only at h1
  rw[hdj] at h1;unfold fk at hd;rw[ho] at hd;simp only[Option.bind_some] at hd;simp only[Bool.and_eq_true,Bool.or_eq_true,Bool.not_eq_true',decide_eq_true_eq,beq_eq_false_iff_ne] at h1;rcases h1.2 with h2|h2
  ·exact xP h2.symm
  exact h2 hd
theorem wS (hF:cW md ops S=true) {i:Nat} {o:Oper} (ho:ops[i]?=some o) (a:Act):Region.wanted o (yielded ops a.tmps)=true:=by
 unfold cW at hF;simp only[Bool.and_eq_true,List.all_eq_true,List.mem_range] at hF;obtain⟨⟨k8,sP⟩,hF⟩:=hF;obtain⟨lz,hoo⟩:=Array.getElem?_eq_some_iff.1 ho;have hg:=Array.all_eq_true_iff_forall_mem.1 sP o (by rw[←hoo];exact Array.getElem_mem lz);unfold Region.wanted;rw[Option.isNone_iff_eq_none.1 hg]
def oR (md:Region.Mode) (ops:Array Oper) (S:List Nat):Bool :=
 (List.range S.length).all fun k=>decide (S.getD k 0<ops.size)&&(decide (k=0)||cS md ops (S.getD k 0) (S.getD (k-1) 0)||(List.range ops.size).any fun j=>cS md ops (S.getD k 0) j&&cS md ops j (S.getD (k-1) 0))
def vV (P:Program) (md:Region.Mode) (ops:Array Oper) (V:Nat→Value) (Wd:Nat→World) (S:List Nat) (aF:Act) (i:Nat) (o:Oper):Prop :=
 (i∉S∧∀m,m≤S.length→okM md ops S i m=true→(execOp aF.eval o).run P (Wd m)=.ok (.value (V i)) (Wd m))∨(∃k,S[k]?=some i∧((o.dst=none∧(execOp aF.eval o).run P (Wd k)=.ok .skip (Wd (k+1)))∨(execOp aF.eval o).run P (Wd k)=.ok (.value (V i)) (Wd (k+1))∨∃f args,(execOp aF.eval o).run P (Wd k)=.ok (.enter f args) (Wd k)∧Calls P f args (Wd k) fun e w'=>e=.returned (V i)∧w'=Wd (k+1)))
theorem BI {Q:Exit→Act→World→Prop} {aF:Act} (hF:cW md ops S=true) (hS:oR md ops S=true) (hN:S.Nodup)
  (hW:∀i o,ops[i]?=some o→vV P md ops V Wd S aF i o) (hQ:Q .normal aF (Wd S.length)) :
  ∀(f:Nat) (done:Array Bool) (a:Act) (w:World),FInv md ops V Wd S aF done a w→left done ops.size=f→wpAny P md ops Q f done a w:=by
 unfold oR at hS;simp only[Bool.and_eq_true,List.all_eq_true,List.mem_range,decide_eq_true_eq,Bool.or_eq_true] at hS;have CG:∀(done:Array Bool) (a:Act) (w:World),FInv md ops V Wd S aF done a w→Region.ready md ops done=[]→Q .normal a w:=fun done a w inv hr=>by
  have fF:=Lv hF inv.size hr;have ha:=inv.act;rw[Ej inv.size fF _ (fun i hi=>List.mem_range.1 hi)] at ha;obtain⟨m,hm,rfl,hd⟩:=inv.world;have hmS:m=S.length:=by
   rcases Nat.lt_or_ge m S.length with h|h
   ·have h1:=hd m h;rw[fF _ (hS m h).1] at h1;exact absurd (yG h1.symm) (Nat.lt_irrefl _)
   omega
  rw[ha,hmS];exact hQ
 intro f
 induction f with
 | zero=>
  intro done a w inv hl;have hr:=Ek (md:=md) inv.size hl;exact⟨hr,CG done a w inv hr⟩
 | succ f ih=>
  intro done a w inv hl;refine⟨CG done a w inv,fun i hi=>?_⟩;obtain⟨lz,Y2,Px⟩:=(pq inv.size i).1 hi;have hit:done.getD i true=false:=by rw[kp (by rw[inv.size];exact lz)];exact Y2
  have ho:=Array.getElem?_eq_getElem lz;generalize ops[i]=o at ho;unfold wpOp;rw[ho];dsimp only
  rw[if_pos (wS hF ho a)];refine .inl ?_;have hex:execOp aF.eval o=execOp a.eval o:=by rw[←inv.act];exact El hF inv.size ho Px
  have UB:∀j,j≠i→∀d,fk ops i=some d→fk ops j≠some d:=fun j h d h1 h2=>Em hF ho j h d h1 h2;have rT:∀u w',(∃m,m≤S.length∧w'=Wd m∧∀k,k<S.length→(done.setIfInBounds i true).getD (S.getD k 0) false=decide (k<m))→(fk ops i=none∨u=V i)→wpAny P md ops Q f (done.setIfInBounds i true) (a.put o.dst u) w':=fun u w' Od hu=>by
   refine ih _ _ _ ⟨by rw[Array.size_setIfInBounds];exact inv.size,?_,fun j hj k hk=>?_,Od⟩ ?_
   ·have hdo:o.dst=fk ops i:=by unfold fk;rw[ho];rfl
    have h2:=py (V:=V) hit (by rw[inv.size];exact lz) UB (List.range ops.size) a List.nodup_range (List.mem_range.2 lz);rw[hdo];rcases hu with hu|hu
    ·rw[hu] at h2⊢;exact h2.trans inv.act
    rw[hu];exact h2.trans inv.act
   ·by_cases e:i=j
    ·subst e;exact getD_set_true (Px k hk)
    rw[getD_set_ne false e] at hj;exact getD_set_true (inv.closed j hj k hk)
   unfold left at hl⊢
   have:=xE hit (by rw[inv.size];exact lz) (List.range ops.size) List.nodup_range (List.mem_range.2 lz);omega
  obtain⟨m,hm,rfl,hd⟩:=inv.world;unfold Oper.wp;rcases hW i o ho with⟨hns,h1⟩|⟨k,hk,h1⟩
  ·have kA:=h1 m hm (by
    unfold okM;rw[List.all_eq_true];intro k hk;have ay:=List.mem_range.1 hk;simp only[Bool.and_eq_true,Bool.or_eq_true,Bool.not_eq_true',decide_eq_true_eq];constructor
    ·cases Ur:cS md ops i (S.getD k 0) with
     | false=>exact .inl rfl
     | true=>
      have h2:=hd k ay;rw[Px _ Ur] at h2;exact .inr (yG h2.symm)
    cases Ur:cS md ops (S.getD k 0) i
    ·exact .inl rfl
    refine .inr (Nat.le_of_not_lt fun ao=>?_);have h2:=hd k ay;rw[yD ao] at h2;have h3:=inv.closed _ h2 i Ur;rw[Y2] at h3;cases h3)
   rw[←hex,kA];exact rT _ _ ⟨m,hm,rfl,fun k hk=>by
    have dL:i≠S.getD k 0:=fun e=>hns (by rw[e,yN,yM hk];exact yV hk);rw[getD_set_ne false dL];exact hd k hk⟩ (.inr rfl)
  have ay:=(List.getElem?_eq_some_iff.1 hk).1;have Mj:S.getD k 0=i:=by rw[yN,hk];rfl
  have hmk:m=k:=by
   have h2:=hd k ay;rw[Mj,Y2] at h2;have h3:=of_decide_eq_false h2.symm;rcases Nat.eq_zero_or_pos k with h0|h0
   ·omega
   rcases (hS k ay).2 with (h4|h4)|h4
   ·omega
   ·rw[Mj] at h4;have h5:=hd (k-1) (by omega);rw[Px _ h4] at h5
    have:=yG h5.symm;omega
   obtain⟨j,-,h6⟩:=List.any_eq_true.1 h4;rw[Bool.and_eq_true,Mj] at h6;have h5:=hd (k-1) (by omega);rw[inv.closed j (Px _ h6.1) _ h6.2] at h5
   have:=yG h5.symm;omega
  subst hmk;have vJ:∃m',m'≤S.length∧Wd (m+1)=Wd m'∧∀k,k<S.length→(done.setIfInBounds i true).getD (S.getD k 0) false=decide (k<m'):=⟨m+1,ay,rfl,fun k2 GZ=>by
   by_cases e:i=S.getD k2 0
   ·have hkk:k2=m:=by
     have e1:S[k2]=S[m]:=by
      rw[yN,yM GZ] at e;rw[yN,yM ay] at Mj;exact (e.symm.trans Mj.symm)
     exact (List.getElem_inj hN).1 e1
    subst hkk;rw[←e];have h9:i<done.size:=by rw[inv.size];exact lz
    simp[Array.getD,h9]
   rw[getD_set_ne false e,hd k2 GZ];have dL:k2≠m:=fun e2=>e (by rw[e2];exact Mj.symm);rw[decide_eq_decide];omega⟩
  rcases h1 with⟨hdn,h1⟩|h1|⟨f,args,h1,hC⟩
  ·rw[←hex,h1];exact rT _ _ vJ (.inl (by unfold fk;rw[ho];exact hdn))
  ·rw[←hex,h1];exact rT _ _ vJ (.inr rfl)
  rw[←hex,h1];refine hC.mono ?_;rintro e w' ⟨rfl,rfl⟩;exact rT _ _ vJ (.inr rfl)
def CR (P:Program) (md:Region.Mode) (ops:Array Oper) (V:Nat→Value) (Wd:Nat→World) (S:List Nat) (aF:Act) (i:Nat) (o:Oper):Prop :=
 (i∉S∧∀m,m≤S.length→okM md ops S i m=true→(execOp aF.eval o).run P (Wd m)=.ok (.value (V i)) (Wd m))∨(∃k,S[k]?=some i∧(execOp aF.eval o).run P (Wd k)=.ok .skip (Wd (k+1)))
theorem Vk {Q:Exit→Act→World→Prop} {aF:Act} (hF:cW md ops S=true) (hS:vP md ops S=true) (hN:S.Nodup)
  (hW:∀i o,ops[i]?=some o→CR P md ops V Wd S aF i o) (hQ:Q .normal aF (Wd S.length)) :
  ∀(f:Nat) (done:Array Bool) (a:Act) (w:World),FInv md ops V Wd S aF done a w→left done ops.size=f→wpAny P md ops Q f done a w:=by
 unfold vP at hS;simp only[List.all_eq_true,List.mem_range] at hS;refine BI (V:=V) (Wd:=Wd) hF ?_ hN (fun i o ho=>(hW i o ho).imp id fun⟨k,hk,h⟩=>⟨k,hk,.inl ⟨?_,h⟩⟩) hQ
 ·unfold oR;simp only[List.all_eq_true,List.mem_range];intro k hk;have h:=hS k hk;simp only[Bool.and_eq_true,Bool.or_eq_true] at h⊢;exact⟨h.1.1,.inl h.1.2⟩
 have h:=hS k (List.getElem?_eq_some_iff.1 hk).1;simp only[Bool.and_eq_true] at h;have Mj:S.getD k 0=i:=by rw[yN,hk];rfl
 have h4:=h.2;rw[Mj,ho] at h4;exact Option.isNone_iff_eq_none.1 h4
theorem wn {id:Nat} {Q:Exit→Act→World→Prop} {a:Act} {w:World} {l:List Oper} (V:Nat→Value) (Wd:Nat→World) (S:List Nat) (hm:P.follows .mixedOrders=true)
  (hF:cW .any l.toArray S=true) (hS:vP .any l.toArray S=true) (hN:S.Nodup) (h0:Wd 0=w.drew)
  (h:∀aF,lx l.toArray V (Array.replicate l.toArray.size false) (List.range l.toArray.size) a=aF→(∀i o,l.toArray[i]?=some o→CR P .any l.toArray V Wd S aF i o)∧Q .normal aF (Wd S.length)):(Code.region id l.toArray true).wp P Q a w:=by
 refine wp_region_any hm ?_;obtain⟨h1,h2⟩:=h _ rfl;refine Vk (V:=V) (Wd:=Wd) (S:=S) hF hS hN h1 h2 _ _ _ _ ⟨by simp,rfl,fun j hj=>?_,0,yI _,h0.symm,fun k hk=>?_⟩ ?_
 ·rw[getD_replicate_false] at hj;cases hj
 ·rw[getD_replicate_false];simp
 unfold left;rw[List.filter_eq_self.2 (fun i hi=>by rw[getD_in (by simpa using List.mem_range.1 hi) (getD_replicate_false _ _)];rfl),List.length_range]
def bD:List Oper→List Value→Act→Act
 | o::r,v::vs,a=>bD r vs (a.put o.dst v)
 | _,_,a=>a
def My (P:Program) (ops:Array Oper) (Wd:Nat→World) (S:List Nat) (aF:Act) (i:Nat) (o:Oper) (v:Value):Prop :=
 (i∉S∧∀m,m≤S.length→okM .any ops S i m=true→(execOp aF.eval o).run P (Wd m)=.ok (.value v) (Wd m))∨(∃k,S[k]?=some i∧(execOp aF.eval o).run P (Wd k)=.ok .skip (Wd (k+1)))
def sh (P:Program) (ops:Array Oper) (Wd:Nat→World) (S:List Nat) (aF:Act):Nat→List Oper→List Value→Prop
 | i,o::r,v::vs=>My P ops Wd S aF i o v∧sh P ops Wd S aF (i+1) r vs
 | _,_,_=>True
theorem rJ {l:List Oper} {Vs:List Value}:∀(r:List Oper) (vs:List Value) (k:Nat) (a:Act),r.length=vs.length→(∀j,r[j]?=l[k+j]?)→(∀j,vs[j]?=Vs[k+j]?)→k+r.length=l.length →
  lx l.toArray (fun i=>Vs.getD i undef) (Array.replicate l.toArray.size false) (List.range' k r.length) a=bD r vs a
 | [],[],_,_,_,_,_,_=>rfl
 | [],_::_,_,_,h,_,_,_=>by cases h
 | _::_,[],_,_,h,_,_,_=>by cases h
 | o::r,v::vs,k,a,h,h1,h2,h3=>by
  have ho:l[k]?=some o:=by simpa using (h1 0).symm
  have hv:Vs[k]?=some v:=by simpa using (h2 0).symm
  have ay:k<l.length:=(List.getElem?_eq_some_iff.1 ho).1;rw[List.length_cons,List.range'_succ];unfold lx bD;rw[if_pos (getD_in (by simpa using ay) (getD_replicate_false _ _))];have hd:fk l.toArray k=o.dst:=by unfold fk;rw[List.getElem?_toArray,ho];rfl
  have hV:Vs.getD k undef=v:=by rw[yN,hv];rfl
  rw[hd,hV];refine rJ r vs (k+1) _ (by simpa using h) (fun j=>?_) (fun j=>?_) (by rw[List.length_cons] at h3;omega)
  ·have:=h1 (j+1);rw[List.getElem?_cons_succ] at this;rw[this,show k+(j+1)=k+1+j by omega]
  have:=h2 (j+1);rw[List.getElem?_cons_succ] at this;rw[this,show k+(j+1)=k+1+j by omega]
theorem Gb {P:Program} {l:List Oper} {Vs:List Value} {Wd:Nat→World} {S:List Nat} {aF:Act}:∀(r:List Oper) (vs:List Value) (k:Nat),r.length=vs.length→(∀j,r[j]?=l[k+j]?)→(∀j,vs[j]?=Vs[k+j]?)→sh P l.toArray Wd S aF k r vs →
  ∀j o,r[j]?=some o→CR P .any l.toArray (fun i=>Vs.getD i undef) Wd S aF (k+j) o
 | [],_,_,_,_,_,_,_,_,h=>by simp at h
 | _::_,[],_,h,_,_,_,_,_,_=>by cases h
 | o::r,v::vs,k,h,h1,h2,hF,j,o',ho'=>by
  unfold sh at hF
  cases j with
  | zero=>
   obtain rfl:o=o':=by simpa using ho'
   have hv:Vs[k]?=some v:=by simpa using (h2 0).symm
   have hV:Vs.getD k undef=v:=by rw[yN,hv];rfl
   have h4:=hF.1;unfold My at h4;unfold CR;rw[Nat.add_zero];dsimp only
   rw[hV];exact h4
  | succ j=>
   rw[List.getElem?_cons_succ] at ho';rw[show k+(j+1)=k+1+j by omega];refine Gb r vs (k+1) (by simpa using h) (fun j=>?_) (fun j=>?_) hF.2 j o' ho'
   ·have:=h1 (j+1);rw[List.getElem?_cons_succ] at this;rw[this,show k+(j+1)=k+1+j by omega]
   have:=h2 (j+1);rw[List.getElem?_cons_succ] at this;rw[this,show k+(j+1)=k+1+j by omega]
theorem uV {P:Program} {id:Nat} {Q:Exit→Act→World→Prop} {a:Act} {w:World} {l:List Oper} (Vs:List Value) (Wd:Nat→World) (S:List Nat) (hm:P.follows .mixedOrders=true)
  (hF:cW .any l.toArray S=true) (hS:vP .any l.toArray S=true) (hN:S.Nodup) (hl:l.length=Vs.length) (h0:Wd 0=w.drew)
  (h1:sh P l.toArray Wd S (bD l Vs a) 0 l Vs) (h2:Q .normal (bD l Vs a) (Wd S.length)):(Code.region id l.toArray true).wp P Q a w:=by
 refine wn (fun i=>Vs.getD i undef) Wd S hm hF hS hN h0 ?_;rintro aF rfl;have e:lx l.toArray (fun i=>Vs.getD i undef) (Array.replicate l.toArray.size false) (List.range l.toArray.size) a=bD l Vs a:=by
  rw[List.size_toArray,List.range_eq_range'];exact rJ l Vs 0 a hl (fun j=>by rw[yR]) (fun j=>by rw[yR]) (by omega)
 rw[e];refine⟨fun i o ho=>?_,h2⟩;rw[List.getElem?_toArray] at ho
 have:=Gb (P:=P) l Vs 0 hl (fun j=>by rw[yR]) (fun j=>by rw[yR]) h1 i o ho;rwa [yR] at this
end
section
variable {P:Program} {ops:Array Oper} {md:Region.Mode} {V:Nat→Value} {Wd:Nat→World} {S:List Nat}
theorem uX {id:Nat} {Q:Exit→Act→World→Prop} {a:Act} {w:World} {l:List Oper} (V:Nat→Value) (Wd:Nat→World) (S:List Nat) (hm:P.follows .mixedOrders=true)
  (hF:cW .any l.toArray S=true) (hS:oR .any l.toArray S=true) (hN:S.Nodup) (h0:Wd 0=w.drew)
  (h:∀aF,lx l.toArray V (Array.replicate l.toArray.size false) (List.range l.toArray.size) a=aF→(∀i o,l.toArray[i]?=some o→vV P .any l.toArray V Wd S aF i o)∧Q .normal aF (Wd S.length)):(Code.region id l.toArray true).wp P Q a w:=by
 refine wp_region_any hm ?_;obtain⟨h1,h2⟩:=h _ rfl;refine BI (V:=V) (Wd:=Wd) (S:=S) hF hS hN h1 h2 _ _ _ _ ⟨by simp,rfl,fun j hj=>?_,0,yI _,h0.symm,fun k hk=>?_⟩ ?_
 ·rw[getD_replicate_false] at hj;cases hj
 ·rw[getD_replicate_false];simp
 unfold left;rw[List.filter_eq_self.2 (fun i hi=>by rw[getD_in (by simpa using List.mem_range.1 hi) (getD_replicate_false _ _)];rfl),List.length_range]
def Gw (P:Program) (ops:Array Oper) (Wd:Nat→World) (S:List Nat) (aF:Act) (i:Nat) (o:Oper) (v:Value):Prop :=
 (i∉S∧∀m,m≤S.length→okM .any ops S i m=true→(execOp aF.eval o).run P (Wd m)=.ok (.value v) (Wd m))∨(∃k,S[k]?=some i∧((o.dst=none∧(execOp aF.eval o).run P (Wd k)=.ok .skip (Wd (k+1)))∨(execOp aF.eval o).run P (Wd k)=.ok (.value v) (Wd (k+1))∨∃f args,(execOp aF.eval o).run P (Wd k)=.ok (.enter f args) (Wd k)∧Calls P f args (Wd k) fun e w'=>e=.returned v∧w'=Wd (k+1)))
def mq (P:Program) (ops:Array Oper) (Wd:Nat→World) (S:List Nat) (aF:Act):Nat→List Oper→List Value→Prop
 | i,o::r,v::vs=>Gw P ops Wd S aF i o v∧mq P ops Wd S aF (i+1) r vs
 | _,_,_=>True
theorem BJ {P:Program} {l:List Oper} {Vs:List Value} {Wd:Nat→World} {S:List Nat} {aF:Act}:∀(r:List Oper) (vs:List Value) (k:Nat),r.length=vs.length→(∀j,r[j]?=l[k+j]?)→(∀j,vs[j]?=Vs[k+j]?)→mq P l.toArray Wd S aF k r vs →
  ∀j o,r[j]?=some o→vV P .any l.toArray (fun i=>Vs.getD i undef) Wd S aF (k+j) o
 | [],_,_,_,_,_,_,_,_,h=>by simp at h
 | _::_,[],_,h,_,_,_,_,_,_=>by cases h
 | o::r,v::vs,k,h,h1,h2,hF,j,o',ho'=>by
  unfold mq at hF
  cases j with
  | zero=>
   obtain rfl:o=o':=by simpa using ho'
   have hv:Vs[k]?=some v:=by simpa using (h2 0).symm
   have hV:Vs.getD k undef=v:=by rw[yN,hv];rfl
   have h4:=hF.1;unfold Gw at h4;unfold vV;rw[Nat.add_zero];dsimp only
   rw[hV];exact h4
  | succ j=>
   rw[List.getElem?_cons_succ] at ho';rw[show k+(j+1)=k+1+j by omega];refine BJ r vs (k+1) (by simpa using h) (fun j=>?_) (fun j=>?_) hF.2 j o' ho'
   ·have:=h1 (j+1);rw[List.getElem?_cons_succ] at this;rw[this,show k+(j+1)=k+1+j by omega]
   have:=h2 (j+1);rw[List.getElem?_cons_succ] at this;rw[this,show k+(j+1)=k+1+j by omega]
theorem lI {P:Program} {id:Nat} {Q:Exit→Act→World→Prop} {a:Act} {w:World} {l:List Oper} (Vs:List Value) (Wd:Nat→World) (S:List Nat) (hm:P.follows .mixedOrders=true)
  (hF:cW .any l.toArray S=true) (hS:oR .any l.toArray S=true) (hN:S.Nodup) (hl:l.length=Vs.length) (h0:Wd 0=w.drew)
  (h1:mq P l.toArray Wd S (bD l Vs a) 0 l Vs) (h2:Q .normal (bD l Vs a) (Wd S.length)):(Code.region id l.toArray true).wp P Q a w:=by
 refine uX (fun i=>Vs.getD i undef) Wd S hm hF hS hN h0 ?_;rintro aF rfl;have e:lx l.toArray (fun i=>Vs.getD i undef) (Array.replicate l.toArray.size false) (List.range l.toArray.size) a=bD l Vs a:=by
  rw[List.size_toArray,List.range_eq_range'];exact rJ l Vs 0 a hl (fun j=>by rw[yR]) (fun j=>by rw[yR]) (by omega)
 rw[e];refine⟨fun i o ho=>?_,h2⟩;rw[List.getElem?_toArray] at ho
 have:=BJ (P:=P) l Vs 0 hl (fun j=>by rw[yR]) (fun j=>by rw[yR]) h1 i o ho;rwa [yR] at this
end
theorem ng {P:Program} {o:Oper} {ρ:Operand→Value} {w w':World} {s x:Operand} {t:TypeId} {v u r:Value} (ho:o.op=.call { callee := .builtin .append,args := #[s,x],argTypes := #[t,t] }) (hs:ρ s=v) (hx:ρ x=u)
  (hr:(Builtin.append_ #[t,t] o.type #[v,u]).run P w=.ok r w'):(execOp ρ o).run P w=.ok (.value r) w':=by
 unfold execOp;simp only[ho,resolve,invoke,builtin,Sem.run_bind,Sem.run_pure,Result.andThen_ok,List.map_toArray,List.map_cons,List.map_nil,hs,hx,hr]
