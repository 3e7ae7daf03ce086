/- Lemmas. -/
import Derived.Test.YtfhmbechennkbaaGreatDoorC1
namespace Go.Proofs.YtfhmbechennkbaaGreatDoor
open Go.RowKit Go.Shelf
section
variable {P:Program} {ops:Array Oper} {W:World} {Φ:Nat→Option GPost}
theorem aR {K:Act→aV→Prop} {k:Nat} {o:Oper} {r:List Oper} {a:Act} {F:aV} (hw:Region.wanted o (yielded ops a.tmps)=true) (hs:vY o=true) (hΦ:Φ k=none)
  (h:wpQuiet P ops (fun w'=>∃ x:HeldB W,w'=x.w) (fun a'=>vU P ops W Φ K (k+1) r a' (jc F o.dst (known ops o F))) [o] a):vU P ops W Φ K k (o::r) a F:=by
 simp only[wpQuiet] at h
 rw[if_pos hw] at h
 obtain⟨v,hq,h⟩:=h
 show bU P ops W o (Φ k) _ a F
 unfold bU
 rw[if_pos hw,hΦ]
 exact⟨v,Dc (fun w hw=>⟨⟨w,hw⟩,rfl⟩) hs hq,h⟩
theorem Cs {o:Oper} {c x y:Operand} (ho:o.op = .pick c x y) {ρ:Operand→Value} {w w':World} {f:FuncId} {args:Array Value}:(execOp ρ o).run P w ≠ .ok (.enter f args) w':=by
 intro h
 unfold execOp at h
 rw[ho] at h
 dsimp only at h
 rw[Sem.run_bind] at h
 cases hs:(asBool (ρ c)).run P w with
 | ok b w2=>
  rw[hs] at h
  simp only[Result.andThen,Sem.run_pure] at h
  injection h with h1 _
  cases h1
 | halt x w2=>
  rw[hs] at h
  simp only[Result.andThen] at h
  cases h
theorem bk {K:Act→aV→Prop} {k:Nat} {o:Oper} {c x y:Operand} {r:List Oper} {a:Act} {F:aV} (ho:o.op = .pick c x y) (hw:Region.wanted o (yielded ops a.tmps)=true) (hΦ:Φ k=none)
  (h:wpQuiet P ops (fun w'=>∃ x:HeldB W,w'=x.w) (fun a'=>vU P ops W Φ K (k+1) r a' (jc F o.dst (known ops o F))) [o] a):vU P ops W Φ K k (o::r) a F:=by
 simp only[wpQuiet] at h
 rw[if_pos hw] at h
 obtain⟨v,hq,h⟩:=h
 show bU P ops W o (Φ k) _ a F
 unfold bU
 rw[if_pos hw,hΦ]
 refine⟨v,fun w hb=>?_,h⟩
 have h1:=hq w ⟨⟨w,hb⟩,rfl⟩
 have h2:=fun f args w'=>Cs (P:=P) ho (ρ:=a.eval) (w:=w) (w':=w') (f:=f) (args:=args)
 unfold Oper.quietAt at h1
 generalize (execOp a.eval o).run P w=q at *
 cases q with
 | ok n w'=>
  cases n <;> simp only[Oper.quietUpon] at h1
  case value u=>exact h1
  case skip=>exact h1
  case enter f args=>exact absurd rfl (h2 f args w')
 | halt x w'=>simp only[Oper.quietUpon] at h1
theorem jh {K:Act→aV→Prop} {k:Nat} {o:Oper} {r:List Oper} {a:Act} {F:aV} {φ:GPost} (hw:Region.wanted o (yielded ops a.tmps)=true) (hφ:Φ k=some φ)
  (h:∀ w,Below W.heap.size W w→known ops o F w→vK P o a φ w) (hK:∀ v,φ.σ v→vU P ops W Φ K (k+1) r (a.put o.dst v) (jc F o.dst (φ.φ v))) (hfr:φ.fr=false:=by rfl):vU P ops W Φ K k (o::r) a F:=by
 show bU P ops W o (Φ k) _ a F
 unfold bU
 rw[if_pos hw,hφ]
 exact⟨fun w h1 h2=>.inl ⟨hfr,h w h1 h2⟩,hK⟩
end
def cG (md:Region.Mode) (ops:Array Oper) (i j:Nat):Bool :=
 match ops[i]? with
 | some o=>o.after.any fun e=>Region.binds md e&&e.on==j
 | none=>false
def V0 (md:Region.Mode) (ops:Array Oper) (S:List Nat) (i m:Nat):Bool :=
 (List.range S.length).all fun k=>(!cG md ops i (S.getD k 0)||decide (k<m))&&(!cG md ops (S.getD k 0) i||decide (m≤k))
def fj (md:Region.Mode) (ops:Array Oper) (_S:List Nat):Bool :=
 Region.noSelect ops&&ops.all (fun o=>o.guard.isNone) &&
 (List.range ops.size).all fun i=>match ops[i]? with
  | none=>false
  | some o=>(o.after.all fun e=>!Region.binds md e||decide (e.on < i)) &&
   (List.range ops.size).all fun j=>match ops[j]? with
    | none=>false
    | some p=>match p.dst with
     | none=>true
     | some d=>(!(o.looksAt ops).contains d||cG md ops i j)&&(decide (i=j) || !(o.dst==some d))
def vF (md:Region.Mode) (ops:Array Oper) (S:List Nat):Bool :=
 (List.range S.length).all fun k=>decide (S.getD k 0<ops.size)&&(decide (k=0)||cG md ops (S.getD k 0) (S.getD (k-1) 0))&&(match ops[S.getD k 0]? with | some o=>o.dst.isNone | none=>false)
section
variable {P:Program} {ops:Array Oper} {md:Region.Mode} {V:Nat→Value} {Wd:Nat→World} {S:List Nat}
theorem gi {i j:Nat} {o:Oper} (ho:ops[i]? = some o):cG md ops i j=true ↔ ∃ e∈o.after,Region.binds md e=true∧e.on=j:=by
 unfold cG
 rw[ho]
 dsimp only
 rw[← Array.any_toList,List.any_eq_true]
 simp only[Bool.and_eq_true,beq_iff_eq,Array.mem_toList_iff]
def dn (ops:Array Oper) (i:Nat):Option Tmp:=(ops[i]?).bind (·.dst)
def jY (ops:Array Oper) (V:Nat→Value) (done:Array Bool):List Nat→Act→Act
 | [],a=>a
 | i::r,a=>jY ops V done r (if done.getD i true=false then a.put (dn ops i) (V i) else a)
theorem rK {done:Array Bool} {i:Nat}:∀ (L:List Nat) (a:Act),i∉L→jY ops V (done.setIfInBounds i true) L a=jY ops V done L a
 | [],_,_=>rfl
 | j::r,a,h=>by
  have N8:i≠j:=fun e=>h (by rw[e];simp)
  unfold jY
  rw[getD_set_ne true N8,rK r _ (fun hh=>h (by simp[hh]))]
theorem lX {done:Array Bool} {i:Nat} (hi:done.getD i true=false) (aw:i<done.size) (hd:∀ j,j≠i→∀ d,dn ops i=some d→dn ops j≠some d):∀ (L:List Nat) (a:Act),L.Nodup→i∈L →
  jY ops V (done.setIfInBounds i true) L (a.put (dn ops i) (V i))=jY ops V done L a
 | [],_,_,h=>by cases h
 | j::r,a,hn,hm=>by
  rw[List.nodup_cons] at hn
  unfold jY
  by_cases e:j=i
  ·subst e
   have h1:(done.setIfInBounds j true).getD j true=true:=by
    simp[Array.getD,aw]
   rw[if_neg (by rw[h1];simp),if_pos hi,rK r _ hn.1]
  rw[getD_set_ne true (Ne.symm e)]
  have YV:i∈r:=by
   rcases List.mem_cons.1 hm with h | h
   ·exact absurd h.symm e
   exact h
  by_cases hj:done.getD j true=false
  ·rw[if_pos hj,if_pos hj,Act.put_comm a (V i) (V j) (hd j e),lX hi aw hd r _ hn.2 YV]
  rw[if_neg hj,if_neg hj,lX hi aw hd r _ hn.2 YV]
theorem mm {done:Array Bool} {o:Oper} (hs:∀ cs b,o.op ≠ .select cs b):∀ (L:List Nat) (a:Act),(∀ j∈L,done.getD j true=false→∀ d,dn ops j=some d→d∉o.looksAt ops)→execOp (jY ops V done L a).eval o=execOp a.eval o
 | [],_,_=>rfl
 | j::r,a,h=>by
  unfold jY
  by_cases hj:done.getD j true=false
  ·rw[if_pos hj,mm hs r _ (fun j hj=>h j (by simp[hj])),execOp_put (ops:=ops) o hs a _ _ (h j (by simp) hj)]
  rw[if_neg hj,mm hs r _ (fun j hj=>h j (by simp[hj]))]
def left (done:Array Bool) (n:Nat):Nat:=((List.range n).filter fun i=>!done.getD i true).length
theorem rT {done:Array Bool} {i:Nat} (hi:done.getD i true=false) (aw:i < done.size):∀ L:List Nat,L.Nodup→i∈L→(L.filter fun i=>!done.getD i true).length=(L.filter fun j=>!(done.setIfInBounds i true).getD j true).length + 1
 | [],_,h=>by cases h
 | j::r,hn,hm=>by
  rw[List.nodup_cons] at hn
  have qkF:∀ r:List Nat,i∉r→(r.filter fun j=>!(done.setIfInBounds i true).getD j true)=r.filter fun j=>!done.getD j true:=fun r hr=>
   List.filter_congr fun x hx=>by rw[getD_set_ne true (fun e=>hr (by rw[e];exact hx))]
  by_cases e:j=i
  ·subst e
   have h1:(done.setIfInBounds j true).getD j true=true:=by
    simp[Array.getD,aw]
   rw[List.filter_cons_of_pos (by rw[hi];rfl),List.filter_cons_of_neg (by rw[h1];simp),qkF r hn.1]
   rfl
  have YV:i∈r:=by
   rcases List.mem_cons.1 hm with h | h
   ·exact absurd h.symm e
   exact h
  have ih:=rT hi aw r hn.2 YV
  have h2:=getD_set_ne (listed:=done) true (Ne.symm e)
  cases hj:done.getD j true
  ·rw[List.filter_cons_of_pos (by rw[hj];rfl),List.filter_cons_of_pos (by rw[h2,hj];rfl),List.length_cons,List.length_cons,ih]
  rw[List.filter_cons_of_neg (by rw[hj];simp),List.filter_cons_of_neg (by rw[h2,hj];simp),ih]
structure FInv (md:Region.Mode) (ops:Array Oper) (V:Nat→Value) (Wd:Nat→World) (S:List Nat) (aF:Act) (done:Array Bool) (a:Act) (w:World):Prop where
 size:done.size=ops.size
 act:jY ops V done (List.range ops.size) a=aF
 closed:∀ j,done.getD j false=true→∀ i,cG md ops j i=true→done.getD i false=true
 world:∃ m,m≤S.length∧w=Wd m∧∀ k,k<S.length→done.getD (S.getD k 0) false=decide (k<m)
theorem cU {done:Array Bool} {i:Nat} (h:i<done.size):done.getD i true=done.getD i false:=by
 simp[Array.getD,h]
def EY (P:Program) (md:Region.Mode) (ops:Array Oper) (V:Nat→Value) (Wd:Nat→World) (S:List Nat) (aF:Act) (i:Nat) (o:Oper):Prop :=
 (i∉S∧∀ m,m≤S.length→V0 md ops S i m=true→(execOp aF.eval o).run P (Wd m) = .ok (.value (V i)) (Wd m))∨(∃ k,S[k]? = some i∧(execOp aF.eval o).run P (Wd k) = .ok .skip (Wd (k+1)))
theorem Xh {Q:Exit→Act→World→Prop} {aF:Act} (hF:fj md ops S=true) (hS:vF md ops S=true) (hN:S.Nodup)
  (hW:∀ i o,ops[i]? = some o→EY P md ops V Wd S aF i o) (hQ:Q .normal aF (Wd S.length)) :
  ∀ (f:Nat) (done:Array Bool) (a:Act) (w:World),FInv md ops V Wd S aF done a w→left done ops.size=f→wpAny P md ops Q f done a w:=by
 unfold fj at hF
 simp only[Bool.and_eq_true,List.all_eq_true,List.mem_range] at hF
 obtain⟨⟨kW,EO⟩,hF⟩:=hF
 unfold vF at hS
 simp only[Bool.and_eq_true,List.all_eq_true,List.mem_range,decide_eq_true_eq,Bool.or_eq_true] at hS
 have IV:∀ i j,cG md ops i j=true→j<i:=fun i j h=>by
  unfold cG at h
  cases ho:ops[i]? with
  | none=>rw[ho] at h;cases h
  | some o=>
   obtain⟨e,he,h1,h2⟩:=(gi ho).1 (by unfold cG;exact h)
   have hi:=hF i (Array.getElem?_eq_some_iff.1 ho).1
   rw[ho] at hi
   simp only[Bool.and_eq_true] at hi
   have h3:=Array.all_eq_true_iff_forall_mem.1 hi.1 e he
   simp only[Bool.or_eq_true,Bool.not_eq_true',decide_eq_true_eq] at h3
   rcases h3 with h3 | h3
   ·rw[h1] at h3;cases h3
   omega
 have kX:∀ done:Array Bool,done.size=ops.size→∀ i,i∈Region.ready md ops done↔(i<ops.size∧done.getD i false=false∧∀ j,cG md ops i j=true→done.getD j false=true):=fun done dK i=>by
  rw[mem_ready]
  constructor
  ·rintro⟨h1,o,ho,h2⟩
   have hi:=(Array.getElem?_eq_some_iff.1 ho).1
   refine⟨hi,by rw[← cU (by omega)];exact h1,fun j hj=>?_⟩
   obtain⟨e,he,h3,rfl⟩:=(gi ho).1 hj
   exact h2 e he h3
  rintro⟨hi,h1,h2⟩
  refine⟨by rw[cU (by omega)];exact h1,ops[i],Array.getElem?_eq_getElem hi,fun e he hb=>h2 _ ((gi (Array.getElem?_eq_getElem hi)).2 ⟨e,he,hb,rfl⟩)⟩
 have uV:∀ (done:Array Bool) (a:Act) (w:World),FInv md ops V Wd S aF done a w→Region.ready md ops done=[]→Q .normal a w:=fun done a w inv hr=>by
  have uX:∀ i,i<ops.size→done.getD i false=true:=fun i=>by
   induction i using Nat.strongRecOn with
   | _ i ih=>
    intro hi
    cases h:done.getD i false
    case true=>rfl
    have:i∈Region.ready md ops done:=(kX done inv.size i).2 ⟨hi,h,fun j hj=>ih j (IV i j hj) (by have:=IV i j hj;omega)⟩
    rw[hr] at this
    cases this
  have hp:∀ L:List Nat,(∀ i∈L,i<ops.size)→∀ b,jY ops V done L b=b:=fun L=>by
   induction L with
   | nil=>intro _ _;rfl
   | cons i r ih=>
    intro h b
    unfold jY
    have h1:done.getD i true=true:=by rw[cU (by rw[inv.size];exact h i (by simp))];exact uX i (h i (by simp))
    rw[if_neg (by rw[h1];simp)]
    exact ih (fun j hj=>h j (by simp[hj])) b
  have ha:=inv.act
  rw[hp _ (fun i hi=>List.mem_range.1 hi)] at ha
  obtain⟨m,hm,rfl,hd⟩:=inv.world
  have hmS:m=S.length:=by
   rcases Nat.lt_or_ge m S.length with h | h
   ·have h1:=hd m h
    rw[uX _ (hS m h).1.1] at h1
    exact absurd (yG h1.symm) (Nat.lt_irrefl _)
   omega
  rw[ha,hmS]
  exact hQ
 intro f
 induction f with
 | zero=>
  intro done a w inv hl
  have hr:Region.ready md ops done=[]:=by
   rw[List.eq_nil_iff_forall_not_mem]
   intro i hi
   obtain⟨h1,h2,-⟩:=(kX done inv.size i).1 hi
   have h3:i∈(List.range ops.size).filter fun i=>!done.getD i true:=List.mem_filter.2 ⟨List.mem_range.2 h1,by rw[cU (by rw[inv.size];exact h1),h2];rfl⟩
   unfold left at hl
   rw[List.length_eq_zero_iff] at hl
   rw[hl] at h3
   cases h3
  exact⟨hr,uV done a w inv hr⟩
 | succ f ih=>
  intro done a w inv hl
  refine⟨uV done a w inv,fun i hi=>?_⟩
  obtain⟨iO,Ws,JY⟩:=(kX done inv.size i).1 hi
  have hit:done.getD i true=false:=by rw[cU (by rw[inv.size];exact iO)];exact Ws
  have ho:=Array.getElem?_eq_getElem iO
  generalize hoo:ops[i]=o at ho
  unfold wpOp
  rw[ho]
  dsimp only
  have hg:=Array.all_eq_true_iff_forall_mem.1 EO o (by rw[← hoo];exact Array.getElem_mem iO)
  have hw:Region.wanted o (yielded ops a.tmps)=true:=by
   unfold Region.wanted
   rw[Option.isNone_iff_eq_none.1 hg]
  rw[if_pos hw]
  refine .inl ?_
  have NH:=hF i iO
  rw[ho] at NH
  simp only[Bool.and_eq_true] at NH
  have WJ:=Region.noSelect_spec kW
  have hex:execOp aF.eval o=execOp a.eval o:=by
   rw[← inv.act]
   refine mm (ops:=ops) (fun cs b=>WJ i o cs b ho) _ _ fun j hj N6 d hd Wm=>?_
   have nB:=List.mem_range.1 hj
   have h1:=List.all_eq_true.1 NH.2 j (List.mem_range.2 nB)
   rw[Array.getElem?_eq_getElem nB] at h1
   unfold dn at hd
   rw[Array.getElem?_eq_getElem nB] at hd
   simp only[Option.bind_some] at hd
   dsimp only at h1
   rw[hd] at h1
   simp only[Bool.and_eq_true,Bool.or_eq_true,Bool.not_eq_true',List.contains_eq_mem,decide_eq_false_iff_not] at h1
   rcases h1.1 with h2 | h2
   ·exact h2 Wm
   have h3:=JY j h2
   rw[cU (by rw[inv.size];exact nB),h3] at N6
   cases N6
  have IY:∀ j,j≠i→∀ d,dn ops i=some d→dn ops j≠some d:=fun j N8 d hd Dz=>by
   unfold dn at Dz
   cases N7:ops[j]? with
   | none=>rw[N7] at Dz;cases Dz
   | some p=>
    have nB:=(Array.getElem?_eq_some_iff.1 N7).1
    rw[N7] at Dz
    simp only[Option.bind_some] at Dz
    have h1:=List.all_eq_true.1 NH.2 j (List.mem_range.2 nB)
    rw[N7] at h1
    dsimp only at h1
    rw[Dz] at h1
    unfold dn at hd
    rw[ho] at hd
    simp only[Option.bind_some] at hd
    simp only[Bool.and_eq_true,Bool.or_eq_true,Bool.not_eq_true',decide_eq_true_eq,beq_eq_false_iff_ne] at h1
    rcases h1.2 with h2 | h2
    ·exact N8 h2.symm
    exact h2 hd
  have mZ:∀ u w',(∃ m,m≤S.length∧w'=Wd m∧∀ k,k<S.length→(done.setIfInBounds i true).getD (S.getD k 0) false=decide (k<m))→(dn ops i=none∨u=V i)→wpAny P md ops Q f (done.setIfInBounds i true) (a.put o.dst u) w':=fun u w' IL hu=>by
   refine ih _ _ _ ⟨by rw[Array.size_setIfInBounds];exact inv.size,?_,fun j hj k hk=>?_,IL⟩ ?_
   ·have hdo:o.dst=dn ops i:=by unfold dn;rw[ho];rfl
    have h2:=lX (V:=V) hit (by rw[inv.size];exact iO) IY (List.range ops.size) a List.nodup_range (List.mem_range.2 iO)
    rw[hdo]
    rcases hu with hu | hu
    ·rw[hu] at h2 ⊢
     exact h2.trans inv.act
    rw[hu]
    exact h2.trans inv.act
   ·by_cases e:i=j
    ·subst e
     exact getD_set_true (JY k hk)
    rw[getD_set_ne false e] at hj
    exact getD_set_true (inv.closed j hj k hk)
   unfold left at hl ⊢
   have:=rT hit (by rw[inv.size];exact iO) (List.range ops.size) List.nodup_range (List.mem_range.2 iO)
   omega
  obtain⟨m,hm,rfl,hd⟩:=inv.world
  unfold Oper.wp
  rcases hW i o ho with⟨hns,h1⟩ | ⟨k,hk,h1⟩
  ·have fh:=h1 m hm (by
    unfold V0
    rw[List.all_eq_true]
    intro k hk
    have aB:=List.mem_range.1 hk
    simp only[Bool.and_eq_true,Bool.or_eq_true,Bool.not_eq_true',decide_eq_true_eq]
    constructor
    ·cases VY:cG md ops i (S.getD k 0) with
     | false=>exact .inl rfl
     | true=>
      have h2:=hd k aB
      rw[JY _ VY] at h2
      exact .inr (yG h2.symm)
    cases VY:cG md ops (S.getD k 0) i
    ·exact .inl rfl
    refine .inr (Nat.le_of_not_lt fun aw=>?_)
    have h2:=hd k aB
    rw[yD aw] at h2
    have h3:=inv.closed _ h2 i VY
    rw[Ws] at h3
    cases h3)
   rw[← hex,fh]
   exact mZ _ _ ⟨m,hm,rfl,fun k hk=>by
    have fB:i≠S.getD k 0:=fun e=>hns (by rw[e,yN,yM hk];exact yV hk)
    rw[getD_set_ne false fB]
    exact hd k hk⟩ (.inr rfl)
  have aB:=(List.getElem?_eq_some_iff.1 hk).1
  have vz:S.getD k 0=i:=by rw[yN,hk];rfl
  have hmk:m=k:=by
   have h2:=hd k aB
   rw[vz,Ws] at h2
   have h3:=of_decide_eq_false h2.symm
   rcases Nat.eq_zero_or_pos k with h0 | h0
   ·omega
   rcases (hS k aB).1.2 with h4 | h4
   ·omega
   rw[vz] at h4
   have h5:=hd (k-1) (by omega)
   rw[JY _ h4] at h5
   have:=yG h5.symm
   omega
  subst hmk
  have hdn:dn ops i=none:=by
   have h4:=(hS m aB).2
   rw[vz,ho] at h4
   unfold dn
   rw[ho]
   exact Option.isNone_iff_eq_none.1 h4
  rw[← hex,h1]
  exact mZ _ _ ⟨m+1,aB,rfl,fun k2 LO=>by
   by_cases e:i=S.getD k2 0
   ·have hkk:k2=m:=by
     have e1:S[k2]=S[m]:=by
      rw[yN,yM LO] at e
      rw[yN,yM aB] at vz
      exact (e.symm.trans vz.symm)
     exact (List.getElem_inj hN).1 e1
    subst hkk
    rw[← e]
    have h9:i<done.size:=by rw[inv.size];exact iO
    simp[Array.getD,h9]
   rw[getD_set_ne false e,hd k2 LO]
   have fB:k2≠m:=fun e2=>e (by rw[e2];exact vz.symm)
   rw[decide_eq_decide]
   omega⟩ (.inl hdn)
theorem vT {id:Nat} {Q:Exit→Act→World→Prop} {a:Act} {w:World} {l:List Oper} (V:Nat→Value) (Wd:Nat→World) (S:List Nat) (hm:P.follows .mixedOrders=true)
  (hF:fj .any l.toArray S=true) (hS:vF .any l.toArray S=true) (hN:S.Nodup) (h0:Wd 0=w.drew)
  (h:∀ aF,jY l.toArray V (Array.replicate l.toArray.size false) (List.range l.toArray.size) a=aF→(∀ i o,l.toArray[i]? = some o→EY P .any l.toArray V Wd S aF i o)∧Q .normal aF (Wd S.length)):(Code.region id l.toArray true).wp P Q a w:=by
 refine wp_region_any hm ?_
 obtain⟨h1,h2⟩:=h _ rfl
 refine Xh (V:=V) (Wd:=Wd) (S:=S) hF hS hN h1 h2 _ _ _ _ ⟨by simp,rfl,fun j hj=>?_,0,yI _,h0.symm,fun k hk=>?_⟩ ?_
 ·rw[getD_replicate_false] at hj
  cases hj
 ·rw[getD_replicate_false]
  simp
 unfold left
 rw[List.filter_eq_self.2 (fun i hi=>by rw[getD_in (by simpa using List.mem_range.1 hi) (getD_replicate_false _ _)];rfl),List.length_range]
def cj:List Oper→List Value→Act→Act
 | o::r,v::vs,a=>cj r vs (a.put o.dst v)
 | _,_,a=>a
def NK (P:Program) (ops:Array Oper) (Wd:Nat→World) (S:List Nat) (aF:Act) (i:Nat) (o:Oper) (v:Value):Prop :=
 (i∉S∧∀ m,m≤S.length→V0 .any ops S i m=true→(execOp aF.eval o).run P (Wd m) = .ok (.value v) (Wd m))∨(∃ k,S[k]? = some i∧(execOp aF.eval o).run P (Wd k) = .ok .skip (Wd (k+1)))
def sh (P:Program) (ops:Array Oper) (Wd:Nat→World) (S:List Nat) (aF:Act):Nat→List Oper→List Value→Prop
 | i,o::r,v::vs=>NK P ops Wd S aF i o v∧sh P ops Wd S aF (i+1) r vs
 | _,_,_=>True
theorem rL {l:List Oper} {Vs:List Value}:∀ (r:List Oper) (vs:List Value) (k:Nat) (a:Act),r.length=vs.length→(∀ j,r[j]? = l[k+j]?)→(∀ j,vs[j]? = Vs[k+j]?)→k+r.length=l.length →
  jY l.toArray (fun i=>Vs.getD i undef) (Array.replicate l.toArray.size false) (List.range' k r.length) a=cj r vs a
 | [],[],_,_,_,_,_,_=>rfl
 | [],_::_,_,_,h,_,_,_=>by cases h
 | _::_,[],_,_,h,_,_,_=>by cases h
 | o::r,v::vs,k,a,h,h1,h2,h3=>by
  have ho:l[k]? = some o:=by simpa using (h1 0).symm
  have hv:Vs[k]? = some v:=by simpa using (h2 0).symm
  have aB:k<l.length:=(List.getElem?_eq_some_iff.1 ho).1
  rw[List.length_cons,List.range'_succ]
  unfold jY cj
  rw[if_pos (getD_in (by simpa using aB) (getD_replicate_false _ _))]
  have hd:dn l.toArray k=o.dst:=by unfold dn;rw[List.getElem?_toArray,ho];rfl
  have hV:Vs.getD k undef=v:=by rw[yN,hv];rfl
  rw[hd,hV]
  refine rL r vs (k+1) _ (by simpa using h) (fun j=>?_) (fun j=>?_) (by rw[List.length_cons] at h3;omega)
  ·have:=h1 (j+1)
   rw[List.getElem?_cons_succ] at this
   rw[this,show k+(j+1)=k+1+j by omega]
  have:=h2 (j+1)
  rw[List.getElem?_cons_succ] at this
  rw[this,show k+(j+1)=k+1+j by omega]
theorem Jm {P:Program} {l:List Oper} {Vs:List Value} {Wd:Nat→World} {S:List Nat} {aF:Act}:∀ (r:List Oper) (vs:List Value) (k:Nat),r.length=vs.length→(∀ j,r[j]? = l[k+j]?)→(∀ j,vs[j]? = Vs[k+j]?)→sh P l.toArray Wd S aF k r vs →
  ∀ j o,r[j]? = some o→EY P .any l.toArray (fun i=>Vs.getD i undef) Wd S aF (k+j) o
 | [],_,_,_,_,_,_,_,_,h=>by simp at h
 | _::_,[],_,h,_,_,_,_,_,_=>by cases h
 | o::r,v::vs,k,h,h1,h2,hF,j,o',ho'=>by
  unfold sh at hF
  cases j with
  | zero=>
   obtain rfl:o=o':=by simpa using ho'
   have hv:Vs[k]? = some v:=by simpa using (h2 0).symm
   have hV:Vs.getD k undef=v:=by rw[yN,hv];rfl
   have h4:=hF.1
   unfold NK at h4
   unfold EY
   rw[Nat.add_zero]
   dsimp only
   rw[hV]
   exact h4
  | succ j=>
   rw[List.getElem?_cons_succ] at ho'
   rw[show k+(j+1)=k+1+j by omega]
   refine Jm r vs (k+1) (by simpa using h) (fun j=>?_) (fun j=>?_) hF.2 j o' ho'
   ·have:=h1 (j+1)
    rw[List.getElem?_cons_succ] at this
    rw[this,show k+(j+1)=k+1+j by omega]
   have:=h2 (j+1)
   rw[List.getElem?_cons_succ] at this
   rw[this,show k+(j+1)=k+1+j by omega]
theorem uQ {P:Program} {id:Nat} {Q:Exit→Act→World→Prop} {a:Act} {w:World} {l:List Oper} (Vs:List Value) (Wd:Nat→World) (S:List Nat) (hm:P.follows .mixedOrders=true)
  (hF:fj .any l.toArray S=true) (hS:vF .any l.toArray S=true) (hN:S.Nodup) (hl:l.length=Vs.length) (h0:Wd 0=w.drew)
  (h1:sh P l.toArray Wd S (cj l Vs a) 0 l Vs) (h2:Q .normal (cj l Vs a) (Wd S.length)):(Code.region id l.toArray true).wp P Q a w:=by
 refine vT (fun i=>Vs.getD i undef) Wd S hm hF hS hN h0 ?_
 rintro aF rfl
 have e:jY l.toArray (fun i=>Vs.getD i undef) (Array.replicate l.toArray.size false) (List.range l.toArray.size) a=cj l Vs a:=by
  rw[List.size_toArray,List.range_eq_range']
  exact rL l Vs 0 a hl (fun j=>by rw[yR]) (fun j=>by rw[yR]) (by omega)
 rw[e]
 refine⟨fun i o ho=>?_,h2⟩
 rw[List.getElem?_toArray] at ho
 have:=Jm (P:=P) l Vs 0 hl (fun j=>by rw[yR]) (fun j=>by rw[yR]) h1 i o ho
 rwa [yR] at this
end
def jP (md:Region.Mode) (ops:Array Oper) (S:List Nat):Bool :=
 (List.range S.length).all fun k=>decide (S.getD k 0<ops.size)&&(decide (k=0)||cG md ops (S.getD k 0) (S.getD (k-1) 0)||(List.range ops.size).any fun j=>cG md ops (S.getD k 0) j&&cG md ops j (S.getD (k-1) 0))
section
variable {P:Program} {ops:Array Oper} {md:Region.Mode} {V:Nat→Value} {Wd:Nat→World} {S:List Nat}
def vI (P:Program) (md:Region.Mode) (ops:Array Oper) (V:Nat→Value) (Wd:Nat→World) (S:List Nat) (aF:Act) (i:Nat) (o:Oper):Prop :=
 (i∉S∧∀ m,m≤S.length→V0 md ops S i m=true→(execOp aF.eval o).run P (Wd m) = .ok (.value (V i)) (Wd m))∨(∃ k,S[k]? = some i∧((o.dst=none∧(execOp aF.eval o).run P (Wd k) = .ok .skip (Wd (k+1)))∨(execOp aF.eval o).run P (Wd k) = .ok (.value (V i)) (Wd (k+1))∨∃ f args,(execOp aF.eval o).run P (Wd k) = .ok (.enter f args) (Wd k)∧Calls P f args (Wd k) fun e w'=>e = .returned (V i)∧w'=Wd (k+1)))
theorem Qf {Q:Exit→Act→World→Prop} {aF:Act} (hF:fj md ops S=true) (hS:jP md ops S=true) (hN:S.Nodup)
  (hW:∀ i o,ops[i]? = some o→vI P md ops V Wd S aF i o) (hQ:Q .normal aF (Wd S.length)) :
  ∀ (f:Nat) (done:Array Bool) (a:Act) (w:World),FInv md ops V Wd S aF done a w→left done ops.size=f→wpAny P md ops Q f done a w:=by
 unfold fj at hF
 simp only[Bool.and_eq_true,List.all_eq_true,List.mem_range] at hF
 obtain⟨⟨kW,EO⟩,hF⟩:=hF
 unfold jP at hS
 simp only[Bool.and_eq_true,List.all_eq_true,List.mem_range,decide_eq_true_eq,Bool.or_eq_true] at hS
 have IV:∀ i j,cG md ops i j=true→j<i:=fun i j h=>by
  unfold cG at h
  cases ho:ops[i]? with
  | none=>rw[ho] at h;cases h
  | some o=>
   obtain⟨e,he,h1,h2⟩:=(gi ho).1 (by unfold cG;exact h)
   have hi:=hF i (Array.getElem?_eq_some_iff.1 ho).1
   rw[ho] at hi
   simp only[Bool.and_eq_true] at hi
   have h3:=Array.all_eq_true_iff_forall_mem.1 hi.1 e he
   simp only[Bool.or_eq_true,Bool.not_eq_true',decide_eq_true_eq] at h3
   rcases h3 with h3 | h3
   ·rw[h1] at h3;cases h3
   omega
 have kX:∀ done:Array Bool,done.size=ops.size→∀ i,i∈Region.ready md ops done↔(i<ops.size∧done.getD i false=false∧∀ j,cG md ops i j=true→done.getD j false=true):=fun done dK i=>by
  rw[mem_ready]
  constructor
  ·rintro⟨h1,o,ho,h2⟩
   have hi:=(Array.getElem?_eq_some_iff.1 ho).1
   refine⟨hi,by rw[← cU (by omega)];exact h1,fun j hj=>?_⟩
   obtain⟨e,he,h3,rfl⟩:=(gi ho).1 hj
   exact h2 e he h3
  rintro⟨hi,h1,h2⟩
  refine⟨by rw[cU (by omega)];exact h1,ops[i],Array.getElem?_eq_getElem hi,fun e he hb=>h2 _ ((gi (Array.getElem?_eq_getElem hi)).2 ⟨e,he,hb,rfl⟩)⟩
 have uV:∀ (done:Array Bool) (a:Act) (w:World),FInv md ops V Wd S aF done a w→Region.ready md ops done=[]→Q .normal a w:=fun done a w inv hr=>by
  have uX:∀ i,i<ops.size→done.getD i false=true:=fun i=>by
   induction i using Nat.strongRecOn with
   | _ i ih=>
    intro hi
    cases h:done.getD i false
    case true=>rfl
    have:i∈Region.ready md ops done:=(kX done inv.size i).2 ⟨hi,h,fun j hj=>ih j (IV i j hj) (by have:=IV i j hj;omega)⟩
    rw[hr] at this
    cases this
  have hp:∀ L:List Nat,(∀ i∈L,i<ops.size)→∀ b,jY ops V done L b=b:=fun L=>by
   induction L with
   | nil=>intro _ _;rfl
   | cons i r ih=>
    intro h b
    unfold jY
    have h1:done.getD i true=true:=by rw[cU (by rw[inv.size];exact h i (by simp))];exact uX i (h i (by simp))
    rw[if_neg (by rw[h1];simp)]
    exact ih (fun j hj=>h j (by simp[hj])) b
  have ha:=inv.act
  rw[hp _ (fun i hi=>List.mem_range.1 hi)] at ha
  obtain⟨m,hm,rfl,hd⟩:=inv.world
  have hmS:m=S.length:=by
   rcases Nat.lt_or_ge m S.length with h | h
   ·have h1:=hd m h
    rw[uX _ (hS m h).1] at h1
    exact absurd (yG h1.symm) (Nat.lt_irrefl _)
   omega
  rw[ha,hmS]
  exact hQ
 intro f
 induction f with
 | zero=>
  intro done a w inv hl
  have hr:Region.ready md ops done=[]:=by
   rw[List.eq_nil_iff_forall_not_mem]
   intro i hi
   obtain⟨h1,h2,-⟩:=(kX done inv.size i).1 hi
   have h3:i∈(List.range ops.size).filter fun i=>!done.getD i true:=List.mem_filter.2 ⟨List.mem_range.2 h1,by rw[cU (by rw[inv.size];exact h1),h2];rfl⟩
   unfold left at hl
   rw[List.length_eq_zero_iff] at hl
   rw[hl] at h3
   cases h3
  exact⟨hr,uV done a w inv hr⟩
 | succ f ih=>
  intro done a w inv hl
  refine⟨uV done a w inv,fun i hi=>?_⟩
  obtain⟨iO,Ws,JY⟩:=(kX done inv.size i).1 hi
  have hit:done.getD i true=false:=by rw[cU (by rw[inv.size];exact iO)];exact Ws
  have ho:=Array.getElem?_eq_getElem iO
  generalize hoo:ops[i]=o at ho
  unfold wpOp
  rw[ho]
  dsimp only
  have hg:=Array.all_eq_true_iff_forall_mem.1 EO o (by rw[← hoo];exact Array.getElem_mem iO)
  have hw:Region.wanted o (yielded ops a.tmps)=true:=by
   unfold Region.wanted
   rw[Option.isNone_iff_eq_none.1 hg]
  rw[if_pos hw]
  refine .inl ?_
  have NH:=hF i iO
  rw[ho] at NH
  simp only[Bool.and_eq_true] at NH
  have WJ:=Region.noSelect_spec kW
  have hex:execOp aF.eval o=execOp a.eval o:=by
   rw[← inv.act]
   refine mm (ops:=ops) (fun cs b=>WJ i o cs b ho) _ _ fun j hj N6 d hd Wm=>?_
   have nB:=List.mem_range.1 hj
   have h1:=List.all_eq_true.1 NH.2 j (List.mem_range.2 nB)
   rw[Array.getElem?_eq_getElem nB] at h1
   unfold dn at hd
   rw[Array.getElem?_eq_getElem nB] at hd
   simp only[Option.bind_some] at hd
   dsimp only at h1
   rw[hd] at h1
   simp only[Bool.and_eq_true,Bool.or_eq_true,Bool.not_eq_true',List.contains_eq_mem,decide_eq_false_iff_not] at h1
   rcases h1.1 with h2 | h2
   ·exact h2 Wm
   have h3:=JY j h2
   rw[cU (by rw[inv.size];exact nB),h3] at N6
   cases N6
  have IY:∀ j,j≠i→∀ d,dn ops i=some d→dn ops j≠some d:=fun j N8 d hd Dz=>by
   unfold dn at Dz
   cases N7:ops[j]? with
   | none=>rw[N7] at Dz;cases Dz
   | some p=>
    have nB:=(Array.getElem?_eq_some_iff.1 N7).1
    rw[N7] at Dz
    simp only[Option.bind_some] at Dz
    have h1:=List.all_eq_true.1 NH.2 j (List.mem_range.2 nB)
    rw[N7] at h1
    dsimp only at h1
    rw[Dz] at h1
    unfold dn at hd
    rw[ho] at hd
    simp only[Option.bind_some] at hd
    simp only[Bool.and_eq_true,Bool.or_eq_true,Bool.not_eq_true',decide_eq_true_eq,beq_eq_false_iff_ne] at h1
    rcases h1.2 with h2 | h2
    ·exact N8 h2.symm
    exact h2 hd
  have mZ:∀ u w',(∃ m,m≤S.length∧w'=Wd m∧∀ k,k<S.length→(done.setIfInBounds i true).getD (S.getD k 0) false=decide (k<m))→(dn ops i=none∨u=V i)→wpAny P md ops Q f (done.setIfInBounds i true) (a.put o.dst u) w':=fun u w' IL hu=>by
   refine ih _ _ _ ⟨by rw[Array.size_setIfInBounds];exact inv.size,?_,fun j hj k hk=>?_,IL⟩ ?_
   ·have hdo:o.dst=dn ops i:=by unfold dn;rw[ho];rfl
    have h2:=lX (V:=V) hit (by rw[inv.size];exact iO) IY (List.range ops.size) a List.nodup_range (List.mem_range.2 iO)
    rw[hdo]
    rcases hu with hu | hu
    ·rw[hu] at h2 ⊢
     exact h2.trans inv.act
    rw[hu]
    exact h2.trans inv.act
   ·by_cases e:i=j
    ·subst e
     exact getD_set_true (JY k hk)
    rw[getD_set_ne false e] at hj
    exact getD_set_true (inv.closed j hj k hk)
   unfold left at hl ⊢
   have:=rT hit (by rw[inv.size];exact iO) (List.range ops.size) List.nodup_range (List.mem_range.2 iO)
   omega
  obtain⟨m,hm,rfl,hd⟩:=inv.world
  unfold Oper.wp
  rcases hW i o ho with⟨hns,h1⟩ | ⟨k,hk,h1⟩
  ·have fh:=h1 m hm (by
    unfold V0
    rw[List.all_eq_true]
    intro k hk
    have aB:=List.mem_range.1 hk
    simp only[Bool.and_eq_true,Bool.or_eq_true,Bool.not_eq_true',decide_eq_true_eq]
    constructor
    ·cases VY:cG md ops i (S.getD k 0) with
     | false=>exact .inl rfl
     | true=>
      have h2:=hd k aB
      rw[JY _ VY] at h2
      exact .inr (yG h2.symm)
    cases VY:cG md ops (S.getD k 0) i
    ·exact .inl rfl
    refine .inr (Nat.le_of_not_lt fun aw=>?_)
    have h2:=hd k aB
    rw[yD aw] at h2
    have h3:=inv.closed _ h2 i VY
    rw[Ws] at h3
    cases h3)
   rw[← hex,fh]
   exact mZ _ _ ⟨m,hm,rfl,fun k hk=>by
    have fB:i≠S.getD k 0:=fun e=>hns (by rw[e,yN,yM hk];exact yV hk)
    rw[getD_set_ne false fB]
    exact hd k hk⟩ (.inr rfl)
  have aB:=(List.getElem?_eq_some_iff.1 hk).1
  have vz:S.getD k 0=i:=by rw[yN,hk];rfl
  have hmk:m=k:=by
   have h2:=hd k aB
   rw[vz,Ws] at h2
   have h3:=of_decide_eq_false h2.symm
   rcases Nat.eq_zero_or_pos k with h0 | h0
   ·omega
   rcases (hS k aB).2 with (h4 | h4) | h4
   ·omega
   ·rw[vz] at h4
    have h5:=hd (k-1) (by omega)
    rw[JY _ h4] at h5
    have:=yG h5.symm
    omega
   obtain⟨j,-,h6⟩:=List.any_eq_true.1 h4
   rw[Bool.and_eq_true,vz] at h6
   have h5:=hd (k-1) (by omega)
   rw[inv.closed j (JY _ h6.1) _ h6.2] at h5
   have:=yG h5.symm
   omega
  subst hmk
  have kt:∃ m',m'≤S.length∧Wd (m+1)=Wd m'∧∀ k,k<S.length→(done.setIfInBounds i true).getD (S.getD k 0) false=decide (k<m'):=⟨m+1,aB,rfl,fun k2 LO=>by
   by_cases e:i=S.getD k2 0
   ·have hkk:k2=m:=by
     have e1:S[k2]=S[m]:=by
      rw[yN,yM LO] at e
      rw[yN,yM aB] at vz
      exact (e.symm.trans vz.symm)
     exact (List.getElem_inj hN).1 e1
    subst hkk
    rw[← e]
    have h9:i<done.size:=by rw[inv.size];exact iO
    simp[Array.getD,h9]
   rw[getD_set_ne false e,hd k2 LO]
   have fB:k2≠m:=fun e2=>e (by rw[e2];exact vz.symm)
   rw[decide_eq_decide]
   omega⟩
  rcases h1 with⟨hdn,h1⟩ | h1 | ⟨f,args,h1,hC⟩
  ·rw[← hex,h1]
   exact mZ _ _ kt (.inl (by unfold dn;rw[ho];exact hdn))
  ·rw[← hex,h1]
   exact mZ _ _ kt (.inr rfl)
  rw[← hex,h1]
  refine hC.mono ?_
  rintro e w' ⟨rfl,rfl⟩
  exact mZ _ _ kt (.inr rfl)
theorem uR {id:Nat} {Q:Exit→Act→World→Prop} {a:Act} {w:World} {l:List Oper} (V:Nat→Value) (Wd:Nat→World) (S:List Nat) (hm:P.follows .mixedOrders=true)
  (hF:fj .any l.toArray S=true) (hS:jP .any l.toArray S=true) (hN:S.Nodup) (h0:Wd 0=w.drew)
  (h:∀ aF,jY l.toArray V (Array.replicate l.toArray.size false) (List.range l.toArray.size) a=aF→(∀ i o,l.toArray[i]? = some o→vI P .any l.toArray V Wd S aF i o)∧Q .normal aF (Wd S.length)):(Code.region id l.toArray true).wp P Q a w:=by
 refine wp_region_any hm ?_
 obtain⟨h1,h2⟩:=h _ rfl
 refine Qf (V:=V) (Wd:=Wd) (S:=S) hF hS hN h1 h2 _ _ _ _ ⟨by simp,rfl,fun j hj=>?_,0,yI _,h0.symm,fun k hk=>?_⟩ ?_
 ·rw[getD_replicate_false] at hj
  cases hj
 ·rw[getD_replicate_false]
  simp
 unfold left
 rw[List.filter_eq_self.2 (fun i hi=>by rw[getD_in (by simpa using List.mem_range.1 hi) (getD_replicate_false _ _)];rfl),List.length_range]
def J5 (P:Program) (ops:Array Oper) (Wd:Nat→World) (S:List Nat) (aF:Act) (i:Nat) (o:Oper) (v:Value):Prop :=
 (i∉S∧∀ m,m≤S.length→V0 .any ops S i m=true→(execOp aF.eval o).run P (Wd m) = .ok (.value v) (Wd m))∨(∃ k,S[k]? = some i∧((o.dst=none∧(execOp aF.eval o).run P (Wd k) = .ok .skip (Wd (k+1)))∨(execOp aF.eval o).run P (Wd k) = .ok (.value v) (Wd (k+1))∨∃ f args,(execOp aF.eval o).run P (Wd k) = .ok (.enter f args) (Wd k)∧Calls P f args (Wd k) fun e w'=>e = .returned v∧w'=Wd (k+1)))
def fY (P:Program) (ops:Array Oper) (Wd:Nat→World) (S:List Nat) (aF:Act):Nat→List Oper→List Value→Prop
 | i,o::r,v::vs=>J5 P ops Wd S aF i o v∧fY P ops Wd S aF (i+1) r vs
 | _,_,_=>True
theorem DJ {P:Program} {l:List Oper} {Vs:List Value} {Wd:Nat→World} {S:List Nat} {aF:Act}:∀ (r:List Oper) (vs:List Value) (k:Nat),r.length=vs.length→(∀ j,r[j]? = l[k+j]?)→(∀ j,vs[j]? = Vs[k+j]?)→fY P l.toArray Wd S aF k r vs →
  ∀ j o,r[j]? = some o→vI P .any l.toArray (fun i=>Vs.getD i undef) Wd S aF (k+j) o
 | [],_,_,_,_,_,_,_,_,h=>by simp at h
 | _::_,[],_,h,_,_,_,_,_,_=>by cases h
 | o::r,v::vs,k,h,h1,h2,hF,j,o',ho'=>by
  unfold fY at hF
  cases j with
  | zero=>
   obtain rfl:o=o':=by simpa using ho'
   have hv:Vs[k]? = some v:=by simpa using (h2 0).symm
   have hV:Vs.getD k undef=v:=by rw[yN,hv];rfl
   have h4:=hF.1
   unfold J5 at h4
   unfold vI
   rw[Nat.add_zero]
   dsimp only
   rw[hV]
   exact h4
  | succ j=>
   rw[List.getElem?_cons_succ] at ho'
   rw[show k+(j+1)=k+1+j by omega]
   refine DJ r vs (k+1) (by simpa using h) (fun j=>?_) (fun j=>?_) hF.2 j o' ho'
   ·have:=h1 (j+1)
    rw[List.getElem?_cons_succ] at this
    rw[this,show k+(j+1)=k+1+j by omega]
   have:=h2 (j+1)
   rw[List.getElem?_cons_succ] at this
   rw[this,show k+(j+1)=k+1+j by omega]
theorem cX {P:Program} {id:Nat} {Q:Exit→Act→World→Prop} {a:Act} {w:World} {l:List Oper} (Vs:List Value) (Wd:Nat→World) (S:List Nat) (hm:P.follows .mixedOrders=true)
  (hF:fj .any l.toArray S=true) (hS:jP .any l.toArray S=true) (hN:S.Nodup) (hl:l.length=Vs.length) (h0:Wd 0=w.drew)
  (h1:fY P l.toArray Wd S (cj l Vs a) 0 l Vs) (h2:Q .normal (cj l Vs a) (Wd S.length)):(Code.region id l.toArray true).wp P Q a w:=by
 refine uR (fun i=>Vs.getD i undef) Wd S hm hF hS hN h0 ?_
 rintro aF rfl
 have e:jY l.toArray (fun i=>Vs.getD i undef) (Array.replicate l.toArray.size false) (List.range l.toArray.size) a=cj l Vs a:=by
  rw[List.size_toArray,List.range_eq_range']
  exact rL l Vs 0 a hl (fun j=>by rw[yR]) (fun j=>by rw[yR]) (by omega)
 rw[e]
 refine⟨fun i o ho=>?_,h2⟩
 rw[List.getElem?_toArray] at ho
 have:=DJ (P:=P) l Vs 0 hl (fun j=>by rw[yR]) (fun j=>by rw[yR]) h1 i o ho
 rwa [yR] at this
end
theorem dA {P:Program} {o:Oper} {ρ:Operand→Value} {w w':World} {s x:Operand} {t:TypeId} {v u r:Value} (ho:o.op = .call { callee := .builtin .append,args := #[s,x],argTypes := #[t,t] }) (hs:ρ s=v) (hx:ρ x=u)
  (hr:(Builtin.append_ #[t,t] o.type #[v,u]).run P w = .ok r w'):(execOp ρ o).run P w = .ok (.value r) w':=by
 unfold execOp
 simp only[ho,resolve,invoke,builtin,Sem.run_bind,Sem.run_pure,Result.andThen_ok,List.map_toArray,List.map_cons,List.map_nil,hs,hx,hr]
def cY (f:Nat→Nat):Nat→Nat
 | 0=>0
 | k+1=>cY f k+16777216 ^ k*f k
def dw (L:List Nat) (i:Nat):Nat:=L.getD i 0
def gv (L:List Nat):Nat:=cY (dw L) L.length
def Gok (L:List Nat):Prop:=∀ x∈L,x<16777216
def qjs (L:List Nat):Prop:=L≠[]→dw L (L.length-1)≠0
theorem fi (k:Nat):0<16777216 ^ k:=Nat.pow_pos (by decide)
theorem oU {L:List Nat} {i:Nat} (h:i<L.length):dw L i=L[i]:=by unfold dw;rw[List.getD_eq_getElem?_getD,List.getElem?_eq_getElem h];rfl
theorem tJ {L:List Nat} {i:Nat} (h:L.length≤i):dw L i=0:=by unfold dw;rw[List.getD_eq_getElem?_getD,List.getElem?_eq_none h];rfl
theorem NT {L:List Nat} (h:Gok L) (i:Nat):dw L i<16777216:=by
 by_cases hi:i<L.length
 ·rw[oU hi];exact h _ (yV hi)
 rw[tJ (by omega)];decide
theorem qQ {f g:Nat→Nat}:∀ {k:Nat},(∀ i,i < k→f i=g i)→cY f k=cY g k
 | 0,_=>rfl
 | k+1,h=>by
  show cY f k+_=cY g k+_
  rw[qQ (k:=k) fun i hi=>h i (by omega),h k (by omega)]
theorem vD {f:Nat→Nat} (h:∀ i,f i < 16777216):∀ k,cY f k < 16777216 ^ k
 | 0=>Nat.one_pos
 | k+1=>by
  have ih:=vD h k
  have hk:=h k
  have h1:16777216 ^ k*f k≤16777216 ^ k*16777215:=Nat.mul_le_mul_left _ (by omega)
  show cY f k+16777216 ^ k*f k<16777216 ^ (k+1)
  rw[yW]
  omega
theorem qxU:gv []=0:=rfl
theorem Gok.take {L:List Nat} (h:Gok L) (k:Nat):Gok (L.take k):=fun x hx=>h x (List.mem_of_mem_take hx)
theorem BI {L:List Nat} {i j x:Nat} (hi:i<L.length):dw (L.set i x) j=if j=i then x else dw L j:=by
 unfold dw
 rw[yN,yN,List.getElem?_set]
 by_cases e:i=j
 ·subst e;simp[hi]
 rw[if_neg e,if_neg (fun h=>e h.symm)]
theorem Jj {L:List Nat} {i x:Nat} (hi:i<L.length):∀ k,k≤i→cY (dw (L.set i x)) k=cY (dw L) k:=fun k hk=>
 qQ fun j hj=>by rw[BI hi,if_neg (by omega)]
theorem uE {L:List Nat} {i x:Nat} (hi:i < L.length):∀ k,i < k→cY (dw (L.set i x)) k + 16777216 ^ i * dw L i=cY (dw L) k + 16777216 ^ i * x
 | 0,h=>by omega
 | k+1,h=>by
  show cY (dw (L.set i x)) k+16777216 ^ k*dw (L.set i x) k+_=cY (dw L) k+16777216 ^ k*dw L k+_
  by_cases e:i=k
  ·subst e
   rw[Jj hi i (yA _),BI hi,if_pos rfl]
   omega
  have ih:=uE (x:=x) hi k (by omega)
  rw[BI hi,if_neg (by omega)]
  omega
theorem Gok.set {L:List Nat} (h:Gok L) (i:Nat) {x:Nat} (hx:x<16777216):Gok (L.set i x):=fun y hy=>by
 rcases List.mem_or_eq_of_mem_set hy with h1 | h1
 ·exact h y h1
 omega
theorem Gok.zeros (n:Nat):Gok (List.replicate n 0):=fun x hx=>by rw[List.eq_of_mem_replicate hx];decide
theorem Mj (n i:Nat):dw (List.replicate n 0) i=0:=by
 by_cases h:i<n
 ·rw[oU (by simpa using h)];simp
 exact tJ (by simpa using h)
theorem B0 (n:Nat):∀ k,cY (dw (List.replicate n 0)) k=0
 | 0=>rfl
 | k+1=>by
  show cY _ k+16777216 ^ k*dw _ k=0
  rw[Mj,B0 n k,Nat.mul_zero]
theorem WZ {O:List Nat} {n p x y cy R:Nat} (hp:p<O.length) (hn:O.length=n) (h:cY (dw O) n+16777216 ^ p*cy=R) :
  cY (dw (O.set p ((x*y+dw O p+cy) % 16777216))) n+16777216 ^ (p+1)*((x*y+dw O p+cy) / 16777216)=R+16777216 ^ p*(x*y):=by
 have h1:=uE (L:=O) (x:=(x*y+dw O p+cy) % 16777216) hp n (by omega)
 have h2:16777216 ^ p*((x*y+dw O p+cy) % 16777216)+16777216 ^ (p+1)*((x*y+dw O p+cy) / 16777216)=16777216 ^ p*(x*y+dw O p+cy):=by
  rw[yW,yY,← yX]
  congr 1
  have:=Nat.div_add_mod (x*y+dw O p+cy) 16777216
  omega
 have h3:16777216 ^ p*(x*y+dw O p+cy)=16777216 ^ p*(x*y)+16777216 ^ p*dw O p+16777216 ^ p*cy:=by rw[yX,yX]
 generalize 16777216 ^ p*((x*y+dw O p+cy) % 16777216)=u at *
 generalize 16777216 ^ (p+1)*((x*y+dw O p+cy) / 16777216)=v at *
 generalize 16777216 ^ p*(x*y)=z at *
 generalize 16777216 ^ p*dw O p=s at *
 generalize 16777216 ^ p*cy=t at *
 omega
theorem Xa {i k a x y:Nat} {Y:Nat→Nat} (hy:y=Y k):a+16777216 ^ i*(x*cY Y k)+16777216 ^ (i+k)*(x*y)=a+16777216 ^ i*(x*cY Y (k+1)):=by
 have e:cY Y (k+1)=cY Y k+16777216 ^ k*Y k:=rfl
 rw[e,hy,yX,yX,Nat.pow_add,Nat.add_assoc]
 congr 2
 rw[yY,Nat.mul_left_comm x]
theorem D9 {i b:Nat} {X:Nat→Nat}:cY X i*b+16777216 ^ i*(X i*b)=cY X (i+1)*b:=by
 show _=(cY X i+16777216 ^ i*X i)*b
 rw[Nat.add_mul,yY]
def ay (Q j:Nat):Nat:=Q / 16777216 ^ j % 16777216
theorem dO (Q j:Nat):ay Q j<16777216:=Nat.mod_lt _ (by decide)
theorem oO (Q:Nat):∀ n,cY (ay Q) n=Q % 16777216 ^ n
 | 0=>by show 0=Q % 1;omega
 | n+1=>by
  show cY (ay Q) n+16777216 ^ n*ay Q n=_
  rw[oO Q n,yW,Nat.mod_mul]
  rfl
def aj (x:Nat):Nat:=if _h:x=0 then 0 else aj (x / 16777216)+1
termination_by x
decreasing_by omega
theorem iu:aj 0=0:=by rw[aj];rfl
theorem BB {x:Nat} (h:x≠0):aj x=aj (x / 16777216)+1:=by rw[aj,dif_neg h]
theorem jD (x:Nat):x<16777216 ^ aj x:=by
 induction x using Nat.strongRecOn with
 | _ x ih=>
  by_cases h:x=0
  ·subst h;rw[iu];decide
  rw[BB h,yW]
  have:=ih (x / 16777216) (by omega)
  omega
theorem jE {x k:Nat} (h:x<16777216 ^ k):aj x≤k:=by
 induction k generalizing x with
 | zero=>
  have:x=0:=by rw[Nat.pow_zero] at h;omega
  subst this
  rw[iu]
  exact yA _
 | succ k ih=>
  by_cases hx:x=0
  ·subst hx;rw[iu];omega
  rw[BB hx]
  have:=ih (x:=x / 16777216) (by rw[yW] at h;rw[Nat.div_lt_iff_lt_mul (by decide)];exact h)
  omega
theorem dv {x k:Nat}:x<16777216 ^ k↔aj x≤k:=⟨jE,fun h=>yK (jD x) (Nat.pow_le_pow_right (by decide) h)⟩
def cd (x k:Nat):List Nat:=(List.range k).map (ay x)
def PX (x:Nat):List Nat:=cd x (aj x)
theorem bN (x k:Nat):(cd x k).length=k:=by unfold cd;rw[List.length_map,List.length_range]
theorem BE (x:Nat):(PX x).length=aj x:=bN _ _
theorem Jz (x k:Nat):cd x (k+1)=cd x k++[ay x k]:=by unfold cd;rw[List.range_succ,List.map_append];rfl
theorem DF {x k i:Nat} (h:i<k):dw (cd x k) i=ay x i:=by
 rw[oU (by rw[bN];exact h)]
 simp[cd]
theorem EX {x i:Nat} (h:aj x≤i):ay x i=0:=by
 unfold ay
 rw[Nat.div_eq_of_lt (dv.2 h)]
theorem NR (x i:Nat):dw (PX x) i=ay x i:=by
 by_cases h:i<aj x
 ·exact DF h
 rw[tJ (by rw[BE];omega),EX (by omega)]
theorem PW {x k:Nat} (h:aj x≤k):gv (cd x k)=x:=by
 unfold gv
 rw[bN,qQ (g:=ay x) (fun i hi=>DF hi),oO,Nat.mod_eq_of_lt (dv.2 h)]
theorem qql (x:Nat):gv (PX x)=x:=PW (yA _)
theorem Jk {f:Nat→Nat} (hf:∀ i,f i < 16777216) {i:Nat}:∀ k,i < k→ay (cY f k) i=f i
 | 0,h=>by omega
 | k+1,h=>by
  have e:cY f (k+1)=cY f k+16777216 ^ k*f k:=rfl
  have aw:=vD hf k
  by_cases hik:i<k
  ·have ih:=Jk hf k hik
   unfold ay at *
   have hp:16777216 ^ k=16777216 ^ i*(16777216*16777216 ^ (k-i-1)):=by
    rw[← Nat.pow_succ',← Nat.pow_add]
    congr 1
    omega
   rw[e,hp,yY,Nat.add_mul_div_left _ _ (fi i),yY,Nat.add_mul_mod_self_left,ih]
  obtain rfl:i=k:=by omega
  unfold ay
  rw[e,Nat.add_mul_div_left _ _ (fi i),Nat.div_eq_of_lt aw,yR,Nat.mod_eq_of_lt (hf i)]
theorem Pm {L:List Nat} (h:Gok L):L=cd (gv L) L.length:=by
 refine List.ext_getElem (by rw[bN]) fun i h1 h2=>?_
 have e:(cd (gv L) L.length)[i]=ay (gv L) i:=by simp[cd]
 rw[e]
 unfold gv
 rw[Jk (NT h) _ h1,oU h1]
theorem Jy {x:Nat}:PX x=[]↔x=0:=by
 constructor
 ·intro h
  have:=qql x
  rw[h,qxU] at this
  exact this.symm
 rintro rfl
 unfold PX
 rw[iu]
 rfl
theorem PV (x:Nat):qjs (PX x):=fun fB=>by
 rw[BE,NR]
 have hx:x≠0:=fun e=>fB (Jy.2 e)
 obtain⟨k,hk⟩:∃ k,aj x=k+1:=⟨aj (x / 16777216),BB hx⟩
 rw[hk,Nat.add_sub_cancel]
 intro h0
 have h1:=oO x (k+1)
 rw[Nat.mod_eq_of_lt (dv.2 (by omega))] at h1
 have h2:cY (ay x) (k+1)=cY (ay x) k+16777216 ^ k*ay x k:=rfl
 rw[h0,Nat.mul_zero,Nat.add_zero] at h2
 have h3:=vD (dO x) k
 have:aj x≤k:=jE (by omega)
 omega
theorem cC {x y:Nat} (h:x≤y):aj x≤aj y:=jE (Nat.lt_of_le_of_lt h (jD y))
def cP (m n i:Nat):Nat:=(m % 16777216 ^ i+n % 16777216 ^ i) / 16777216 ^ i
theorem BK (m n:Nat):cP m n 0=0:=by unfold cP;rw[Nat.pow_zero,Nat.mod_one,Nat.mod_one]
theorem sD (m n i:Nat):cP m n i≤1:=by
 unfold cP
 have h1:=Nat.mod_lt m (fi i)
 have h2:=Nat.mod_lt n (fi i)
 have:(m % 16777216 ^ i+n % 16777216 ^ i) / 16777216 ^ i<2:=by
  rw[Nat.div_lt_iff_lt_mul (fi i)]
  omega
 omega
theorem rR (m i:Nat):m % 16777216 ^ (i+1)=m % 16777216 ^ i+16777216 ^ i*ay m i:=by
 rw[yW,Nat.mod_mul]
 rfl
theorem O6 (P m n:Nat) (hP:0<P):(m+n) / P=m / P+n / P+(m % P+n % P) / P:=by
 have e:m+n=(m % P+n % P)+P*(m / P+n / P):=by
  have e1:=Nat.div_add_mod m P
  have e2:=Nat.div_add_mod n P
  rw[yX]
  omega
 rw[e,Nat.add_mul_div_left _ _ hP]
 omega
theorem I4 (m n i:Nat):(ay m i+ay n i+cP m n i) % 16777216=ay (m+n) i:=by
 unfold ay cP
 rw[O6 _ m n (fi i)]
 omega
theorem AE (m n i:Nat):(ay m i+ay n i+cP m n i) / 16777216=cP m n (i+1):=by
 have e:cP m n (i+1)=(m % 16777216 ^ i+n % 16777216 ^ i+16777216 ^ i*(ay m i+ay n i)) / (16777216 ^ i*16777216):=by
  unfold cP
  rw[rR,rR,yW,yX]
  congr 1
  omega
 rw[e,← YB,Nat.add_mul_div_left _ _ (fi i)]
 unfold cP
 congr 1
 omega
theorem Nl (m n i:Nat):(i<aj m∨i<aj n∨0<cP m n i)↔i<aj (m+n):=by
 have h1:=cC (Nat.le_add_right m n)
 have h2:=cC (Nat.le_add_left n m)
 constructor
 ·rintro (h | h | h)
  ·omega
  ·omega
  rcases Nat.lt_or_ge i (aj (m+n)) with h3 | h3
  ·exact h3
  exfalso
  have h4:=dv.2 h3
  unfold cP at h
  rw[Nat.mod_eq_of_lt (by omega),Nat.mod_eq_of_lt (by omega),Nat.div_eq_of_lt h4] at h
  exact absurd h (by decide)
 intro h
 by_cases h3:i<aj m
 ·exact .inl h3
 by_cases h4:i<aj n
 ·exact .inr (.inl h4)
 refine .inr (.inr ?_)
 have h5:=dv.2 (show aj m≤i by omega)
 have h6:=dv.2 (show aj n≤i by omega)
 unfold cP
 rw[Nat.mod_eq_of_lt h5,Nat.mod_eq_of_lt h6]
 rcases Nat.lt_or_ge (m+n) (16777216 ^ i) with h7 | h7
 ·have:=dv.1 h7;omega
 exact Nat.div_pos h7 (fi i)
def gp (m n i:Nat):Nat:=if m % 16777216 ^ i<n % 16777216 ^ i then 1 else 0
theorem J8 (m n:Nat):gp m n 0=0:=by unfold gp;rw[Nat.pow_zero,Nat.mod_one,Nat.mod_one];rfl
theorem DL (m n i:Nat):gp m n i≤1:=by unfold gp;split <;> omega
theorem O5 (P m n:Nat) (hP:0<P) (h:n≤m):(m-n) / P+n / P+(if m % P<n % P then 1 else 0)=m / P:=by
 have e1:=Nat.div_add_mod m P
 have e2:=Nat.div_add_mod n P
 have e3:=Nat.mod_lt m hP
 have e4:=Nat.mod_lt n hP
 have e5:=Nat.div_le_div_right (c:=P) h
 split
 ·rename_i hb
  have aw:n / P<m / P:=by
   rcases Nat.lt_or_ge (n / P) (m / P) with h1 | h1
   ·exact h1
   exfalso
   have:P*(n / P)=P*(m / P):=by rw[show n / P=m / P by omega]
   omega
  obtain⟨k,hk⟩:∃ k,m / P=n / P+k+1:=⟨m / P-n / P-1,by omega⟩
  have e6:P*(m / P)=P*(n / P)+P*k+P:=by rw[hk,yX,yX,Nat.mul_one]
  have e7:m-n=(P+m % P-n % P)+P*k:=by omega
  rw[e7,Nat.add_mul_div_left _ _ hP,Nat.div_eq_of_lt (by omega)]
  omega
 rename_i hb
 obtain⟨k,hk⟩:∃ k,m / P=n / P+k:=⟨m / P-n / P,by omega⟩
 have e6:P*(m / P)=P*(n / P)+P*k:=by rw[hk,yX]
 have e7:m-n=(m % P-n % P)+P*k:=by omega
 rw[e7,Nat.add_mul_div_left _ _ hP,Nat.div_eq_of_lt (by omega)]
 omega
theorem Ph {m n:Nat} (h:n≤m) (i:Nat) :
  (ay m i:Int)-ay n i-gp m n i=(ay (m-n) i:Int)-(if (ay m i:Int)-ay n i-gp m n i<0 then 16777216 else 0):=by
 have e:=O5 _ m n (fi i) h
 have pK:=DL m n i
 unfold ay gp at *
 generalize (m-n) / 16777216 ^ i=u at *
 generalize n / 16777216 ^ i=v at *
 generalize m / 16777216 ^ i=z at *
 generalize (if m % 16777216 ^ i<n % 16777216 ^ i then 1 else 0)=b at *
 split <;> omega
theorem EF {m n:Nat} (i:Nat):gp m n (i+1)=if (ay m i:Int)-ay n i-gp m n i<0 then 1 else 0:=by
 have e1:=Nat.mod_lt m (fi i)
 have e2:=Nat.mod_lt n (fi i)
 unfold gp
 rw[rR,rR]
 generalize 16777216 ^ i=P at *
 generalize m % P=m0 at *
 generalize n % P=n0 at *
 rcases Nat.lt_trichotomy (ay m i) (ay n i) with h | h | h
 ·obtain⟨k,hk⟩:∃ k,ay n i=ay m i+k+1:=⟨ay n i-ay m i-1,by omega⟩
  have e:P*ay n i=P*ay m i+P*k+P:=by rw[hk,yX,yX,Nat.mul_one]
  rw[if_pos (by omega),if_pos (by split <;> omega)]
 ·rw[h]
  by_cases hb:m0<n0
  ·rw[if_pos (by omega),if_pos hb,if_pos (by omega)]
  rw[if_neg (by omega),if_neg hb,if_neg (by omega)]
 obtain⟨k,hk⟩:∃ k,ay m i=ay n i+k+1:=⟨ay m i-ay n i-1,by omega⟩
 have e:P*ay m i=P*ay n i+P*k+P:=by rw[hk,yX,yX,Nat.mul_one]
 rw[if_neg (by omega),if_neg (by split <;> omega)]
theorem WH (m i:Nat):(ay m i+m / 16777216 ^ (i+1) % 2*16777216) / 2=ay (m / 2) i:=by
 unfold ay
 rw[YB,Nat.mul_comm 2,← YB,yW,← YB]
 generalize m / 16777216 ^ i=z
 omega
theorem PG (m i:Nat):(ay m i+m / 16777216 ^ (i+1) % 2*16777216) % 2=m / 16777216 ^ i % 2:=by
 unfold ay
 rw[yW,← YB]
 generalize m / 16777216 ^ i=z
 omega
theorem qxZ {m n i:Nat} (h:m / 16777216 ^ (i+1)=n / 16777216 ^ (i+1)) (hd:ay m i=ay n i):m / 16777216 ^ i=n / 16777216 ^ i:=by
 rw[yW,← YB,← YB] at h
 unfold ay at hd
 omega
theorem X6 {m n i:Nat} (h:m / 16777216 ^ (i+1)=n / 16777216 ^ (i+1)) (hd:ay m i<ay n i):m<n:=by
 rw[yW,← YB,← YB] at h
 unfold ay at hd
 rcases Nat.lt_or_ge m n with h1 | h1
 ·exact h1
 have:=Nat.div_le_div_right (c:=16777216 ^ i) h1
 omega
theorem qqq {m n:Nat} (h:aj m<aj n):m<n:=by
 rcases Nat.lt_or_ge m n with h1 | h1
 ·exact h1
 have:=cC h1
 omega
theorem Xn (m:Nat):ay m 0 % 2=m % 2:=by unfold ay;rw[Nat.pow_zero,Nat.div_one];omega
open Go.RowKit Go.Shelf
def qc (d:Nat):Value:=.int .i64 d
def TyD (w:World) (v:Value):Prop:=∀ g,v.ownBlock=some g→∃ cs r,w.heap[g]? = some (.cells cs 3 r)
def DgTo (w:World) (B:Nat) (v:Value) (x k:Nat):Prop:=RowAt qc w B v (cd x k)∧(0<k→TyD w v)
def dI (w:World) (B:Nat) (v:Value) (x:Nat):Prop:=DgTo w B v x (aj x)
theorem DgTo.below {w w':World} {B B':Nat} {v:Value} {x k:Nat} (h:DgTo w B v x k) (hb:Below B' w w') (hB:B≤B'):DgTo w' B v x k:=⟨Flat.below h.1 hb hB,fun hk g hg=>by
 obtain⟨cs,r,e⟩:=h.2 hk g hg
 obtain⟨A,c,h1,-,-,h4⟩:=h.1
 rw[bN] at h4
 obtain⟨b,off,eA,aw,-⟩:=h4 hk
 rw[h1,eA] at hg
 obtain rfl:b=g:=by simpa[Value.ownBlock] using hg
 exact⟨cs,r,(hb.block b (yK aw hB)).trans e⟩⟩
theorem DgTo.mono {w:World} {B B':Nat} {v:Value} {x k:Nat} (h:DgTo w B v x k) (hB:B≤B'):DgTo w B' v x k:=⟨Flat.mono h.1 hB,h.2⟩
theorem DgTo.grow {w w':World} {v:Value} {x k:Nat} (h:DgTo w w.heap.size v x k) (hb:Below w.heap.size w w'):DgTo w' w'.heap.size v x k:=(h.below hb (yA _)).mono hb.size
theorem DgTo.open_ {w:World} {B:Nat} {v:Value} {x k:Nat} (h:DgTo w B v x k):∃ A c,v = .slice A k c∧k≤c∧c≤maxLen∧∀ i,i<k→∃ b off,A=some ⟨b,off,none⟩∧b<B∧∀ j,j<k→w.cell? ⟨b,off+j,none⟩=some (.int .i64 (ay x j:Nat)):=by
 obtain⟨A,c,h1,h2,h3,h4⟩:=h.1
 rw[bN] at h1 h2 h4
 refine⟨A,c,h1,h2,h3,fun i hi=>?_⟩
 obtain⟨b,off,e,aw,hc⟩:=h4 (by omega)
 refine⟨b,off,e,aw,fun j hj=>hc j _ ?_⟩
 rw[YD,yM (by rw[bN];exact hj)]
 simp[cd,qc]
theorem DgTo.take {w:World} {B k c:Nat} {A:Option Addr} {x m:Nat} (h:DgTo w B (.slice A k c) x k) (hm:m≤k):DgTo w B (.slice A m c) x m:=by
 refine⟨?_,fun h0 g hg=>h.2 (by omega) g (by cases A <;> exact hg)⟩
 obtain⟨A',c',h1,h2,h3,h4⟩:=h.1
 rw[bN] at h1 h2 h4
 injection h1 with e1 e2 e3
 subst e1 e3
 refine⟨A,c,by rw[bN],by rw[bN];omega,h3,fun h0=>?_⟩
 rw[bN] at h0
 obtain⟨b,off,e,aw,hc⟩:=h4 (by omega)
 refine⟨b,off,e,aw,fun j u hu=>hc j u ?_⟩
 rw[YD] at hu ⊢
 by_cases hj:j<m
 ·rw[yM (by rw[bN];exact hj)] at hu
  rw[yM (by rw[bN];omega)]
  simp[cd] at hu ⊢
  exact hu
 rw[List.getElem?_eq_none (by rw[bN];omega)] at hu
 simp at hu
theorem DgTo.kept {w w':World} {B e s n x k:Nat} {v u:Value} {xs:List Value} (h:DgTo w w.heap.size v x k) (ho:w.ownsRow B e s u n xs) (hg:w.grownBy w' u.ownBlock) (ht:e≠3):DgTo w' w'.heap.size v x k:=by
 obtain⟨A,c,h1,h2,h3,h4⟩:=h.1
 rw[bN] at h1 h2 h4
 have fB:∀ b off,0<k→A=some ⟨b,off,none⟩→some b≠u.ownBlock:=fun b off hk eA he=>by
  obtain⟨cs,r,e1⟩:=h.2 hk b (by rw[h1,eA];rfl)
  rcases ho.2 with⟨rfl,_⟩ | ⟨g',cap,cur,rfl,_,hh,_⟩
  ·simp[Value.ownBlock] at he
  have:b=g':=by simpa[Value.ownBlock] using he
  subst this
  rw[e1] at hh
  injection hh with hh
  injection hh with _ h5
  exact ht h5.symm
 refine⟨⟨A,c,by rw[bN];exact h1,by rw[bN];exact h2,h3,fun hk=>?_⟩,fun hk g hgb=>?_⟩
 ·rw[bN] at hk
  obtain⟨b,off,eA,aw,hc⟩:=h4 hk
  exact⟨b,off,eA,yK aw hg.size,fun j y hy=>(World.cell?_of_block (a:=⟨b,off+j,none⟩) (hg.block b aw (fB b off hk eA))).trans (hc j y hy)⟩
 obtain⟨b,off,eA,aw,-⟩:=h4 hk
 obtain⟨cs,r,e1⟩:=h.2 hk g hgb
 rw[h1,eA] at hgb
 obtain rfl:b=g:=by simpa[Value.ownBlock] using hgb
 exact⟨cs,r,(hg.block b aw (fB b off hk eA)).trans e1⟩
def BigAt (w:World) (B:Nat) (s:Bool) (v:Value) (n:Int):Prop:=s=decide (n<0)∧dI w B v n.natAbs
theorem BigAt.below {w w':World} {B B':Nat} {s:Bool} {v:Value} {n:Int} (h:BigAt w B s v n) (hb:Below B' w w') (hB:B≤B'):BigAt w' B s v n:=⟨h.1,DgTo.below h.2 hb hB⟩
theorem BigAt.mono {w:World} {B B':Nat} {s:Bool} {v:Value} {n:Int} (h:BigAt w B s v n) (hB:B≤B'):BigAt w B' s v n:=⟨h.1,DgTo.mono h.2 hB⟩
theorem BigAt.grow {w w':World} {s:Bool} {v:Value} {n:Int} (h:BigAt w w.heap.size s v n) (hb:Below w.heap.size w w'):BigAt w' w'.heap.size s v n:=(h.below hb (yA _)).mono hb.size
def ExqAt (w:World) (B:Nat) (x:Value) (q:Rat) (K:Nat):Prop :=
 ∃ s1 v1 s2 v2 N D,x = .agg #[.bool s1,v1,.bool s2,v2]∧BigAt w B s1 v1 N∧BigAt w B s2 v2 D∧0<D∧aj N.natAbs≤K∧aj D.natAbs≤K∧q=Rat.divInt N D
theorem ExqAt.below {w w':World} {B B':Nat} {x:Value} {q:Rat} {K:Nat} (h:ExqAt w B x q K) (hb:Below B' w w') (hB:B≤B'):ExqAt w' B x q K:=by
 obtain⟨s1,v1,s2,v2,N,D,e,h1,h2,h3⟩:=h
 exact⟨s1,v1,s2,v2,N,D,e,h1.below hb hB,h2.below hb hB,h3⟩
theorem ExqAt.mono {w:World} {B B':Nat} {x:Value} {q:Rat} {K:Nat} (h:ExqAt w B x q K) (hB:B≤B'):ExqAt w B' x q K:=by
 obtain⟨s1,v1,s2,v2,N,D,e,h1,h2,h3⟩:=h
 exact⟨s1,v1,s2,v2,N,D,e,h1.mono hB,h2.mono hB,h3⟩
theorem ExqAt.grow {w w':World} {x:Value} {q:Rat} {K:Nat} (h:ExqAt w w.heap.size x q K) (hb:Below w.heap.size w w'):ExqAt w' w'.heap.size x q K:=(h.below hb (yA _)).mono hb.size
theorem ExqAt.more {w:World} {B:Nat} {x:Value} {q:Rat} {K K':Nat} (h:ExqAt w B x q K) (hK:K≤K'):ExqAt w B x q K':=by
 obtain⟨s1,v1,s2,v2,N,D,e,h1,h2,h3,h4,h5,h6⟩:=h
 exact⟨s1,v1,s2,v2,N,D,e,h1,h2,h3,yH h4 hK,yH h5 hK,h6⟩
theorem ExqAt.kept {w w':World} {B e s n K:Nat} {x u:Value} {q:Rat} {xs:List Value} (h:ExqAt w w.heap.size x q K) (ho:w.ownsRow B e s u n xs) (hg:w.grownBy w' u.ownBlock) (ht:e≠3):ExqAt w' w'.heap.size x q K:=by
 obtain⟨s1,v1,s2,v2,N,D,e,h1,h2,h3⟩:=h
 exact⟨s1,v1,s2,v2,N,D,e,⟨h1.1,DgTo.kept h1.2 ho hg ht⟩,⟨h2.1,DgTo.kept h2.2 ho hg ht⟩,h3⟩
theorem iS {m n K M:Nat} (h1:aj m≤K) (h2:aj n≤M):aj (m*n)≤K+M:=by
 refine jE ?_
 rw[Nat.pow_add]
 exact Nat.mul_lt_mul'' (dv.2 h1) (dv.2 h2)
theorem oT {m n K:Nat} (h1:aj m≤K) (h2:aj n≤K):aj (m+n)≤K+1:=by
 refine jE ?_
 have h3:=dv.2 h1
 have h4:=dv.2 h2
 rw[yW]
 omega
theorem Xl {N D M E:Int} (hD:0<D) (hE:0<E):Rat.divInt N D+Rat.divInt M E=Rat.divInt (N*E+M*D) (D*E):=Rat.divInt_add_divInt _ _ (by omega) (by omega)
theorem PR {N D M E:Int} (_hD:0<D) (_hE:0<E):Rat.divInt N D*Rat.divInt M E=Rat.divInt (N*M) (D*E):=Rat.divInt_mul_divInt _ _
theorem Xm {N D M E:Int} (hD:0<D) (hE:0<E) (hM:0<M):Rat.divInt N D / Rat.divInt M E=Rat.divInt (N*E) (D*M):=by
 rw[Rat.divInt_eq_div,Rat.divInt_eq_div,Rat.divInt_eq_div,Rat.intCast_mul,Rat.intCast_mul]
 have h1:(D:Rat)≠0:=fun h=>by have:=Rat.intCast_eq_zero_iff.mp h;omega
 have h2:(E:Rat)≠0:=fun h=>by have:=Rat.intCast_eq_zero_iff.mp h;omega
 have h3:(M:Rat)≠0:=fun h=>by have:=Rat.intCast_eq_zero_iff.mp h;omega
 grind
theorem Js {N D:Int} (hD:0<D):(Rat.divInt N D<0↔N<0)∧(Rat.divInt N D=0↔N=0):=by
 have h4:∀ M:Int,0≤Rat.divInt M D↔0≤M:=fun M=>Rat.divInt_nonneg_iff_of_pos_right hD
 have h2:Rat.divInt N D=0↔N=0:=by
  constructor
  ·intro h
   have a1:=(h4 N).1 (by rw[h];exact Rat.le_refl)
   have a2:=(h4 (-N)).1 (by rw[← Rat.neg_divInt,h,Rat.neg_zero];exact Rat.le_refl)
   omega
  rintro rfl
  exact Rat.zero_divInt D
 refine⟨?_,h2⟩
 have h3:0≤Rat.divInt N D↔0≤N:=Rat.divInt_nonneg_iff_of_pos_right hD
 rw[← Rat.not_le,h3]
 omega
def jt (o:Option Rat):Rat:=match o with | some y=>y | none=>0
theorem kG {b:BeamT} {f:LoadT→Option Rat} {s:Rat} {k:Nat} (hk:k<b.loads.length):aD b f s (k+1)=aD b f s k+jt (f b.loads[k]):=by
 rw[Zl hk]
 cases f b.loads[k] with
 | none=>show _=_+(0:Rat);rw[Rat.add_zero]
 | some y=>rfl
theorem o6 (b:BeamT) (f:LoadT→Option Rat) (s:Rat):∀ k,k ≤ b.loads.length→aD b f s k=s + aD b f 0 k
 | 0,_=>by
  show s=s+(0:Rat)
  rw[Rat.add_zero]
 | k+1,hk=>by
  rw[kG (by omega),kG (by omega),o6 b f s k (by omega)]
  grind
def qE (b:BeamT) (q:Rat) (i:Nat):Rat:=((2*(bd b i+bd b (i+1)):Int):Rat)-((bd b i:Int):Rat)*q
def kf (b:BeamT):Nat→Rat×Rat
 | 0=>(bA b,0)
 | i+1=>((kQ b (i+1)-((bd b (i+1):Int):Rat)*(kf b i).1) / qE b (kf b i).2 (i+1),((bd b (i+2):Int):Rat) / qE b (kf b i).2 (i+1))
def qzo (b:BeamT):Nat→Rat
 | 0=>bA (au b)
 | j+1=>(kf b (b.sup.length-2-j)).1-(kf b (b.sup.length-2-j)).2*qzo b j
theorem Nj (b:BeamT) (hz:∀ i,1≤i→i+1<b.sup.length→bH b i≠0):∀ i,i+2<b.sup.length →
  qE b (kf b i).2 (i+1)=bH b (i+1)∧(kf b (i+1)).1=iz b (i+1) / bH b (i+1)∧(kf b (i+1)).2=((bd b (i+2):Int):Rat) / bH b (i+1)
 | 0,h=>by
  have e:qE b (kf b 0).2 1=bH b 1:=by
   show ((2*(bd b 1+bd b 2):Int):Rat)-((bd b 1:Int):Rat)*0=((2*(bd b 1+bd b 2):Int):Rat)
   grind
  refine⟨e,?_,?_⟩
  ·show (kQ b 1-((bd b 1:Int):Rat)*bA b) / qE b (kf b 0).2 1=(kQ b 1-bA b*((bd b 1:Int):Rat)) / bH b 1
   rw[e,Rat.mul_comm]
  show ((bd b 2:Int):Rat) / qE b (kf b 0).2 1=_
  rw[e]
 | i+1,h=>by
  obtain⟨h1,h2,h3⟩:=Nj b hz i (by omega)
  have hd:=hz (i+1) (by omega) (by omega)
  have e:qE b (kf b (i+1)).2 (i+2)=bH b (i+2):=by
   unfold qE
   rw[h3]
   show _=((2*(bd b (i+2)+bd b (i+3)):Int):Rat)-((bd b (i+2):Int):Rat) / bH b (i+1)*((bd b (i+2):Int):Rat)
   rw[Rat.mul_comm]
  refine⟨e,?_,?_⟩
  ·show (kQ b (i+2)-((bd b (i+2):Int):Rat)*(kf b (i+1)).1) / qE b (kf b (i+1)).2 (i+2)=(kQ b (i+2)-((bd b (i+2):Int):Rat) / bH b (i+1)*iz b (i+1)) / bH b (i+2)
   rw[e,h2]
   congr 1
   generalize iz b (i+1)=r at *
   generalize bH b (i+1)=d at *
   generalize ((bd b (i+2):Int):Rat)=k at *
   generalize kQ b (i+2)=z at *
   clear h1 h2 h3 e
   grind
  show ((bd b (i+3):Int):Rat) / qE b (kf b (i+1)).2 (i+2)=_
  rw[e]
theorem Ms (b:BeamT) (hz:∀ i,1 ≤ i→i + 1 < b.sup.length→bH b i ≠ 0):∀ j,j + 1 < b.sup.length→qzo b j=BR b j
 | 0,_=>rfl
 | j+1,h=>by
  have ih:=Ms b hz j (by omega)
  obtain⟨i,hi⟩:∃ i,b.sup.length-2-j=i+1:=⟨b.sup.length-3-j,by omega⟩
  obtain⟨-,h2,h3⟩:=Nj b hz i (by omega)
  have hd:=hz (i+1) (by omega) (by omega)
  rw[qzo,BR,ih,hi,h2,h3,show b.sup.length-1-j=i+2 by omega]
  generalize iz b (i+1)=r at *
  generalize bH b (i+1)=d at *
  generalize ((bd b (i+2):Int):Rat)=k at *
  generalize BR b j=z at *
  clear h2 h3 ih
  grind
def qS (b:BeamT) (i:Nat) (x:LoadT):Option Rat:=if x.pos=ak b i∨(i=0∧x.pos<ak b 0)∨(i+1=b.sup.length∧ak b i<x.pos) then some ((x.wt:Int):Rat) else none
def RG (b:BeamT) (i:Nat):Rat:=aD b (qS b i) 0 b.loads.length
def JW (b:BeamT) (i:Nat):Rat:=if i=0 then RG b i+Zu 1000 [b.even,ak b 0] else RG b i
def mH (b:BeamT) (i:Nat):Rat:=if i+1=b.sup.length then JW b i+Zu 1000 [b.even,b.len-ak b i] else JW b i
def Fl (b:BeamT) (lo hi:Int) (left:Bool) (m k:Rat) (s:Rat):Rat:=aD b (fT lo hi left) (s+Zu 2000 [b.even,hi-lo]) b.loads.length+(k-m)*Zu (hi-lo) [1]
def nt (b:BeamT) (i:Nat):Rat:=if 0<i then Fl b (ak b (i-1)) (ak b i) false (Zx b i) (Zx b (i-1)) (mH b i) else mH b i
def OL (b:BeamT) (i:Nat):Rat:=if i+1<b.sup.length then Fl b (ak b i) (ak b (i+1)) true (Zx b i) (Zx b (i+1)) (nt b i) else nt b i
theorem qqk (b:BeamT) (i:Nat) (x:LoadT):jt (qS b i x)=jt (oK (ak b i) x)+(if i=0 then jt (ez (ak b i) x) else 0)+(if i+1=b.sup.length then jt (ez (b.len-ak b i) ⟨b.len-x.pos,x.wt⟩) else 0):=by
 unfold qS oK ez
 have e:((⟨b.len-x.pos,x.wt⟩:LoadT).pos<b.len-ak b i)↔ak b i<x.pos:=by
  show b.len-x.pos<b.len-ak b i↔_
  omega
 simp only[e]
 rcases Int.lt_trichotomy x.pos (ak b i) with h | h | h
 ·rw[if_neg (show ¬ x.pos=ak b i by omega),if_pos h,if_neg (show ¬ ak b i<x.pos by omega)]
  by_cases h0:i=0
  ·subst h0
   rw[if_pos (.inr (.inl ⟨rfl,h⟩)),if_pos rfl]
   simp only[jt]
   split <;> grind
  rw[if_neg (by omega),if_neg h0]
  simp only[jt]
  split <;> grind
 ·rw[if_pos (.inl h),if_pos h,if_neg (show ¬ x.pos<ak b i by omega),if_neg (show ¬ ak b i<x.pos by omega)]
  simp only[jt]
  split <;> split <;> grind
 rw[if_neg (show ¬ x.pos=ak b i by omega),if_neg (show ¬ x.pos<ak b i by omega),if_pos h]
 by_cases h0:i+1=b.sup.length
 ·rw[if_pos (.inr (.inr ⟨h0,h⟩)),if_pos h0]
  simp only[jt]
  split <;> grind
 rw[if_neg (by
  rintro (h1 | ⟨h1,h2⟩ | ⟨h1,h2⟩)
  ·omega
  ·subst h1;omega
  exact h0 h1),if_neg h0]
 simp only[jt]
 split <;> grind
theorem NQ (b:BeamT) (i:Nat):∀ k,k ≤ b.loads.length→aD b (qS b i) 0 k=aD b (oK (ak b i)) 0 k + (if i=0 then aD b (ez (ak b i)) 0 k else 0) + (if i + 1=b.sup.length then aD (au b) (ez (b.len - ak b i)) 0 k else 0)
 | 0,_=>by
  show (0:Rat)=0+(if i=0 then (0:Rat) else 0)+(if i+1=b.sup.length then (0:Rat) else 0)
  split <;> split <;> grind
 | k+1,hk=>by
  have ih:=NQ b i k (by omega)
  have aB:k<b.loads.length:=by omega
  have hkt:k<(au b).loads.length:=by simpa[au] using aB
  have ht:(au b).loads[k]=⟨b.len-b.loads[k].pos,b.loads[k].wt⟩:=by simp[au]
  rw[kG aB,kG aB,kG aB,kG hkt,ht,ih,qqk]
  generalize aD b (oK (ak b i)) 0 k=u1 at *
  generalize aD b (ez (ak b i)) 0 k=u2 at *
  generalize aD (au b) (ez (b.len-ak b i)) 0 k=u3 at *
  generalize jt (oK (ak b i) b.loads[k])=v1 at *
  generalize jt (ez (ak b i) b.loads[k])=v2 at *
  generalize jt (ez (b.len-ak b i) _)=v3 at *
  split <;> split <;> grind
theorem XV (b:BeamT) {lo hi:Int} (left:Bool) (m k s:Rat) (h:lo<hi):Fl b lo hi left m k s=s+bP b lo hi left+(k-m) / ((hi-lo:Int):Rat):=by
 unfold Fl bP dd
 rw[o6 b _ (s+_) _ (yA _),o6 b _ (Zu 2000 _) _ (yA _)]
 have e:Zu (hi-lo) [1]=1 / ((hi-lo:Int):Rat):=by
  unfold Zu
  rw[show dD [1]=1 from rfl,Rat.divInt_eq_div,Rat.intCast_one]
 rw[e]
 have fB:((hi-lo:Int):Rat)≠0:=by
  intro h0
  have:hi-lo=0:=Rat.intCast_eq_zero_iff.mp h0
  omega
 generalize ((hi-lo:Int):Rat)=d at *
 generalize Zu 2000 [b.even,hi-lo]=z
 generalize aD b (fT lo hi left) 0 b.loads.length=y
 grind
theorem qzN (b:BeamT) (qzi:∀ i,i+1<b.sup.length→ak b i<ak b (i+1)) (i:Nat) (hi:i<b.sup.length):OL b i=kR b i:=by
 have e1:=NQ b i b.loads.length (yA _)
 have e2:eS b i=aD b (oK (ak b i)) 0 b.loads.length:=by
  unfold eS jm
  rfl
 have e3:bW b (ak b i)=Zu 1000 [b.even,ak b i]+aD b (ez (ak b i)) 0 b.loads.length:=by
  unfold bW ec
  exact o6 b _ _ _ (yA _)
 have e4:bW (au b) (b.len-ak b i)=Zu 1000 [b.even,b.len-ak b i]+aD (au b) (ez (b.len-ak b i)) 0 b.loads.length:=by
  have hl:(au b).loads.length=b.loads.length:=by simp[au]
  unfold bW ec
  rw[o6 (au b) _ _ _ (yA _),hl]
  rfl
 have a1:0<i→Fl b (ak b (i-1)) (ak b i) false (Zx b i) (Zx b (i-1)) (mH b i)=mH b i+bP b (ak b (i-1)) (ak b i) false+(Zx b (i-1)-Zx b i) / ((bd b i:Int):Rat):=fun h0=>by
  have:=qzi (i-1) (by omega)
  rw[show i-1+1=i by omega] at this
  exact XV b false _ _ _ this
 have a2:i+1<b.sup.length→Fl b (ak b i) (ak b (i+1)) true (Zx b i) (Zx b (i+1)) (nt b i)=nt b i+bP b (ak b i) (ak b (i+1)) true+(Zx b (i+1)-Zx b i) / ((bd b (i+1):Int):Rat):=fun h0=>
  XV b true _ _ _ (qzi i h0)
 unfold OL kR eQ eR dJ
 rw[e2,e3,e4]
 by_cases h0:0<i
 ·have n0:¬ i=0:=by omega
  rw[if_neg n0] at e1
  rw[if_pos h0,if_neg n0]
  by_cases hl:i+1<b.sup.length
  ·have nl:¬ i+1=b.sup.length:=by omega
   rw[if_neg nl] at e1
   rw[if_pos hl,if_neg nl,if_pos hl,a2 hl]
   unfold nt
   rw[if_pos h0,a1 h0]
   unfold mH JW RG
   rw[if_neg nl,if_neg n0,e1]
   clear a1 a2 e1 e2 e3 e4
   grind
  have pl:i+1=b.sup.length:=by omega
  rw[if_pos pl] at e1
  rw[if_neg hl,if_pos pl,if_neg hl]
  unfold nt
  rw[if_pos h0,a1 h0]
  unfold mH JW RG
  rw[if_pos pl,if_neg n0,e1]
  clear a1 a2 e1 e2 e3 e4
  grind
 have p0:i=0:=by omega
 rw[if_pos p0] at e1
 rw[if_neg h0,if_pos p0]
 by_cases hl:i+1<b.sup.length
 ·have nl:¬ i+1=b.sup.length:=by omega
  rw[if_neg nl] at e1
  rw[if_pos hl,if_neg nl,if_pos hl,a2 hl]
  unfold nt
  rw[if_neg h0]
  unfold mH JW RG
  rw[if_neg nl,if_pos p0,e1,show ak b 0=ak b i by rw[p0]]
  clear a1 a2 e1 e2 e3 e4
  grind
 have pl:i+1=b.sup.length:=by omega
 rw[if_pos pl] at e1
 rw[if_neg hl,if_pos pl,if_neg hl]
 unfold nt
 rw[if_neg h0]
 unfold mH JW RG
 rw[if_pos pl,if_pos p0,e1,show ak b 0=ak b i by rw[p0]]
 clear a1 a2 e1 e2 e3 e4
 grind
end Go.Proofs.YtfhmbechennkbaaGreatDoor
