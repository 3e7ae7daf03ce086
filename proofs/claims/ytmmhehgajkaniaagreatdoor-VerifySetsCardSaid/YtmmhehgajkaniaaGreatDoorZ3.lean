/- Lemmas. -/
import Derived.Test.YtmmhehgajkaniaaGreatDoorZ2
namespace Go.Proofs.YtmmhehgajkaniaaGreatDoor
set_option maxRecDepth 100000
set_option maxHeartbeats 40000000
open Go.RowKit Go.Shelf
abbrev aL:=Tmp→World→Prop
def iM (F:aL) (d:Option Tmp) (p:World→Prop):aL:=fun k w=>if d=some k then p w else F k w
def Dp (p:World→Prop):Prop:=∀w w',Below w.heap.size w w'→p w→p w'
def lQ (ops:Array Oper) (o:Oper) (F:aL) (w:World):Prop:=∀k∈o.looksAt ops,F k w
theorem td {F:aL} {d e:Option Tmp} {p q:World→Prop} (h:∀x,d=some x→e≠some x):iM (iM F d p) e q=iM (iM F e q) d p:=by
 funext k w
 unfold iM;by_cases h1:d=some k
 ·rw[if_neg (h k h1),if_pos h1,if_pos h1]
 by_cases h2:e=some k
 ·rw[if_pos h2,if_neg h1,if_pos h2]
 rw[if_neg h2,if_neg h1,if_neg h1,if_neg h2]
theorem mS {ops:Array Oper} {o:Oper} {F:aL} {d:Option Tmp} {p:World→Prop} (h:∀x,d=some x→x∉o.looksAt ops):lQ ops o (iM F d p)=lQ ops o F:=by
 funext w
 unfold lQ iM;refine propext ⟨fun H k hk=>?_,fun H k hk=>?_⟩
 ·have:=H k hk;rwa [if_neg (fun e=>h k e hk)] at this
 rw[if_neg (fun e=>h k e hk)];exact H k hk
def sY (o:Oper):Bool :=
 match o.op with
 | .move _|.assign _|.load _ _|.fieldAddr _ _ _|.indexAddr _ _ _|.binOp _ _ _ _ _|.unOp _ _ _|.convert _ _ _|.build _ _|.extract _ _|.index _ _ _|.field _ _ _|.slice _ _ _ _ _=>true
 | .call c=>match c.callee with
  | .builtin .len=>true
  | _=>false
 | _=>false
theorem Nq {P:Program} {s:Sem Value} {w w':World} {n:Next} (h:(do pure (Next.value (←s)):Sem Next).run P w=.ok n w'):∃u,n=.value u:=by
 rw[Sem.run_bind] at h
 cases hs:s.run P w with
 | ok u w2=>
  rw[hs] at h;simp only[Result.andThen,Sem.run_pure] at h;injection h with h1 _;exact⟨u,h1.symm⟩
 | halt x w2=>
  rw[hs] at h;simp only[Result.andThen] at h;cases h
theorem TI {P:Program} {o:Oper} (hs:sY o=true) {ρ:Operand→Value} {w w':World} {f:FuncId} {args:Array Value}:(execOp ρ o).run P w ≠ .ok (.enter f args) w':=by
 intro h;have key:∀ {s:Sem Value} {n:Next},(do pure (Next.value (←s)):Sem Next).run P w=.ok n w'→n=.enter f args→False:=fun h he=>by
  obtain⟨u,hu⟩:=Nq h;rw[hu] at he;cases he
 unfold sY at hs;unfold execOp at h;cases ho:o.op <;> rw[ho] at hs h <;> first
  | (cases hs;done)
  | (exact key h rfl)
  | (simp only[Sem.run_pure] at h;injection h with h1 _;cases h1;done)
  | skip
 rename_i c
 dsimp only at hs h
 cases hc:c.callee with
 | builtin b=>
  rw[hc] at hs;cases b <;> first
   | (cases hs;done)
   | skip
  simp only[resolve,hc,Sem.run_bind,Sem.run_pure,Result.andThen_ok,invoke,builtin] at h;exact key (s:=Builtin.len_ c.argTypes o.type (c.args.map ρ)) (by rw[Sem.run_bind];exact h) rfl
 | invoke r n=>rw[hc] at hs;cases hs
 | value v=>rw[hc] at hs;cases hs
structure GPost where
 σ:Value→Prop
 φ:Value→World→Prop
 ne:∃v,σ v
 st:∀v,Dp (φ v)
 fr:Bool:=false
def sG:Value→Option Nat
 | .pointer (some p)=>some p.block
 | .slice (some p) _ _=>some p.block
 | _=>none
def nu (D:List Tmp) (a:Act) (w:World):Prop:=∀d∈D,∀b,sG (a.eval (.tmp d))=some b→b<w.heap.size∧∀e∈D,e≠d→sG (a.eval (.tmp e))≠some b
theorem oM (a:Act) (dst:Option Tmp) (v:Value) (d:Tmp):(a.put dst v).eval (.tmp d)=a.eval (.tmp d)∨(dst=some d∧(a.put dst v).eval (.tmp d)=v):=by
 cases dst with
 | none=>exact .inl rfl
 | some e=>
  show (a.tmps.setIfInBounds e v).getD d undef=a.tmps.getD d undef∨_∧(a.tmps.setIfInBounds e v).getD d undef=v;rw[Array.getD_eq_getD_getElem?,Array.getD_eq_getD_getElem?,Array.getElem?_setIfInBounds];by_cases h:e=d
  ·subst h;by_cases h2:e<a.tmps.size
   ·exact .inr ⟨rfl,by simp[h2]⟩
   exact .inl (by simp[h2])
  exact .inl (by simp[h])
theorem nk {D:List Tmp} {a:Act} {w w':World} {dst:Option Tmp} {v:Value} (h:nu D a w) (hs:w.heap.size≤w'.heap.size) (hd:∀d,dst=some d→d∈D→sG v=none):nu D (a.put dst v) w':=fun d hdD b hb=>by
 rcases oM a dst v d with e|⟨e1,e2⟩
 ·rw[e] at hb;obtain⟨h1,h2⟩:=h d hdD b hb;refine⟨yK h1 hs,fun x hx dL=>?_⟩;rcases oM a dst v x with f|⟨f1,f2⟩
  ·rw[f];exact h2 x hx dL
  rw[f2,hd x f1 hx];simp
 rw[e2,hd d e1 hdD] at hb;cases hb
theorem OS {D:List Tmp} {a:Act} {w w':World} {d:Option Tmp} {v:Value} {b:Nat} (h:nu D a w) (hv:sG v=some b) (h1:w.heap.size≤b) (h2:b<w'.heap.size) (hs:w.heap.size≤w'.heap.size):nu D (a.put d v) w':=fun x hxD c hc=>by
 rcases oM a d v x with e|⟨e1,e2⟩
 ·rw[e] at hc;obtain⟨h3,h4⟩:=h x hxD c hc;refine⟨yK h3 hs,fun y hy dL=>?_⟩;rcases oM a d v y with f|⟨f1,f2⟩
  ·rw[f];exact h4 y hy dL
  rw[f2,hv];intro he;injection he with he;omega
 rw[e2,hv] at hc;injection hc with hc;subst hc;refine⟨h2,fun y hy dL=>?_⟩;rcases oM a d v y with f|⟨f1,f2⟩
 ·rw[f];intro he
  have:=(h y hy _ he).1;omega
 rw[e1] at f1;injection f1 with f1;exact absurd f1.symm dL
section
variable {P:Program} {ops:Array Oper} {md:Region.Mode} {W:World} {Φ:Nat→Option GPost}
def sD (P:Program) (o:Oper) (a:Act) (φ:GPost) (w:World):Prop :=
 ∃f args,(execOp a.eval o).run P w=.ok (.enter f args) w∧Calls P f args w fun e fV=>∃v,e=.returned v∧Below w.heap.size w fV∧φ.σ v∧φ.φ v fV
theorem zc {P:Program} {o:Oper} {a:Act} {φ:GPost} {w:World} {f:Nat} {g:Array Value} (h:Calls P f g w fun e fV=>∃v,e=.returned v∧Below w.heap.size w fV∧φ.σ v∧φ.φ v fV) (x:(execOp a.eval o).run P w=.ok (.enter f g) w:=by go_simp):sD P o a φ w:=⟨f,g,x,h⟩
theorem zk {p:Prop} [Decidable p] (h:decide p=true:=by kernel_rfl):p:=yG h
def kX (P:Program) (o:Oper) (a:Act) (φ:GPost) (w:World):Prop :=
 ∃v w',(execOp a.eval o).run P w=.ok (.value v) w'∧Below w.heap.size w w'∧φ.σ v∧φ.φ v w'∧(φ.fr=true→∃b,sG v=some b∧w.heap.size≤b∧b<w'.heap.size)
def vH (P:Program) (o:Oper) (a:Act) (φ:GPost) (w:World):Prop:=(φ.fr=false∧sD P o a φ w)∨kX P o a φ w
def oq (w:World) (v:Value):Result Next→Prop
 | .ok (.value u) w'=>w'=w∧u=v
 | .ok .skip w'=>w'=w∧v=undef
 | _=>False
def qq (P:Program) (W:World) (o:Oper) (a:Act) (v:Value):Prop:=∀w,Below W.heap.size W w→oq w v ((execOp a.eval o).run P w)
theorem AX {C:World→Prop} (hC:∀w,Below W.heap.size W w→C w) {o:Oper} {a:Act} {v:Value} (hs:sY o=true) (h:∀w,C w→o.quietAt P a C w v):qq P W o a v:=fun w hw=>by
 have h1:=h w (hC w hw);have h2:=fun f args w'=>TI (P:=P) (o:=o) hs (ρ:=a.eval) (w:=w) (w':=w') (f:=f) (args:=args);unfold Oper.quietAt at h1;generalize (execOp a.eval o).run P w=r at*
 cases r with
 | ok n w'=>
  cases n <;> simp only[Oper.quietUpon] at h1
  case value u=>exact h1
  case skip=>exact h1
  case enter f args=>exact absurd rfl (h2 f args w')
 | halt x w'=>simp only[Oper.quietUpon] at h1
def bW (P:Program) (ops:Array Oper) (W:World) (o:Oper) (φ:Option GPost) (K:Act→aL→Prop) (a:Act) (F:aL):Prop :=
 if Region.wanted o (yielded ops a.tmps)=true then
  match φ with
  | none=>∃v,qq P W o a v∧K (a.put o.dst v) (iM F o.dst (lQ ops o F))
  | some φ=>(∀w,Below W.heap.size W w→lQ ops o F w→vH P o a φ w)∧∀v,φ.σ v→K (a.put o.dst v) (iM F o.dst (φ.φ v))
 else K (a.put o.dst undef) (iM F o.dst fun _=>True)
theorem mX {o:Oper} {φ:Option GPost} {K K':Act→aL→Prop} {a:Act} {F:aL} (h:∀a F,K a F→K' a F) (hh:bW P ops W o φ K a F):bW P ops W o φ K' a F:=by
 unfold bW at*;split
 ·rename_i hw
  rw[if_pos hw] at hh
  cases φ with
  | none=>
   obtain⟨v,h1,h2⟩:=hh;exact⟨v,h1,h _ _ h2⟩
  | some φ=>exact⟨hh.1,fun v hv=>h _ _ (hh.2 v hv)⟩
 rename_i hw
 rw[if_neg hw] at hh;exact h _ _ hh
theorem KA {o:Oper} {φ:Option GPost} {K:Act→aL→Prop} {a:Act} {F:aL} (hh:bW P ops W o φ K a F):∃a' F',K a' F':=by
 unfold bW at hh;split at hh
 ·cases φ with
  | none=>
   obtain⟨v,-,h2⟩:=hh;exact⟨_,_,h2⟩
  | some φ=>exact⟨_,_,hh.2 _ φ.ne.choose_spec⟩
 exact⟨_,_,hh⟩
theorem N8 {o:Oper} {a:Act} {u v:Value} (h1:qq P W o a u) (h2:qq P W o a v):u=v:=by
 have e1:=h1 W (yB _ _);have e2:=h2 W (yB _ _);generalize (execOp a.eval o).run P W=r at*
 cases r with
 | ok n w'=>
  cases n <;> simp only[oq] at e1 e2
  case value x=>rw[←e1.2,←e2.2]
  rw[e1.2,e2.2]
 | halt x w'=>simp only[oq] at e1
theorem uB {o:Oper} {φ:Option GPost} {K K':Act→aL→Prop} {a:Act} {F:aL} (hh:bW P ops W o φ K a F) (h:∀v p,K (a.put o.dst v) (iM F o.dst p)→K' (a.put o.dst v) (iM F o.dst p)):bW P ops W o φ K' a F:=by
 unfold bW at*;split
 ·rename_i hw
  rw[if_pos hw] at hh
  cases φ with
  | none=>
   obtain⟨v,h1,h2⟩:=hh;exact⟨v,h1,h _ _ h2⟩
  | some φ=>exact⟨hh.1,fun v hv=>h _ _ (hh.2 v hv)⟩
 rename_i hw
 rw[if_neg hw] at hh;exact h _ _ hh
theorem Ot {o:Oper} {φ:Option GPost} {ι:Type} (x0:ι) {K:ι→Act→aL→Prop} {K':Act→aL→Prop} {a:Act} {F:aL} (hh:∀x,bW P ops W o φ (K x) a F) (h:∀v p,(∀x,K x (a.put o.dst v) (iM F o.dst p))→K' (a.put o.dst v) (iM F o.dst p)):bW P ops W o φ K' a F:=by
 unfold bW at*;split
 ·rename_i hw
  simp only[if_pos hw] at hh
  cases φ with
  | none=>
   obtain⟨v,h1,-⟩:=hh x0;refine⟨v,h1,h _ _ fun x=>?_⟩;obtain⟨u,h3,h4⟩:=hh x;rw[N8 h1 h3];exact h4
  | some φ=>exact⟨(hh x0).1,fun v hv=>h _ _ fun x=>(hh x).2 v hv⟩
 rename_i hw
 simp only[if_neg hw] at hh;exact h _ _ hh
theorem xj {o:Oper} (k8:∀cs b,o.op ≠ .select cs b) {a:Act} {d:Option Tmp} {u v:Value} (h:∀x,d=some x→x∉o.looksAt ops):qq P W o (a.put d u) v↔qq P W o a v:=by
 unfold qq;rw[execOp_put o k8 a d u h]
theorem um {o:Oper} (k8:∀cs b,o.op ≠ .select cs b) {a:Act} {d:Option Tmp} {u:Value} {φ:GPost} {w:World} (h:∀x,d=some x→x∉o.looksAt ops):vH P o (a.put d u) φ w↔vH P o a φ w:=by
 unfold vH sD kX;rw[execOp_put o k8 a d u h]
theorem Nk {oi oj:Oper} {φi φj:Option GPost} (CH:oi.apart ops oj=true) (Pu:∀cs b,oi.op ≠ .select cs b) (hsj:∀cs b,oj.op ≠ .select cs b) {K:Act→aL→Prop} {a:Act} {F:aL}
  (h:bW P ops W oi φi (fun a F=>bW P ops W oj φj K a F) a F):bW P ops W oj φj (fun a F=>bW P ops W oi φi K a F) a F:=by
 obtain⟨h1,h2,h3⟩:=Oper.apart_spec CH;have h2':∀x,oi.dst=some x→oj.dst≠some x:=h2
 -- what j sees behind i
 have J:∀v p,bW P ops W oj φj K (a.put oi.dst v) (iM F oi.dst p)→bW P ops W oj φj (fun a' F'=>K (a'.put oi.dst v) (iM F' oi.dst p)) a F:=fun v p hh=>by
  unfold bW at hh⊢;rw[wanted_put oj a oi.dst v h1] at hh;split
  ·rename_i hw
   rw[if_pos hw] at hh
   cases φj with
   | none=>
    obtain⟨u,q,k⟩:=hh;rw[mS h1,Act.put_comm a v u h2,td h2'] at k;exact⟨u,(xj hsj h1).1 q,k⟩
   | some φ=>
    refine⟨fun w GX hk=>(um hsj h1).1 (hh.1 w GX (by rw[mS h1];exact hk)),fun u hu=>?_⟩;have k:=hh.2 u hu;rw[Act.put_comm a v u h2,td h2'] at k;exact k
  rename_i hw
  rw[if_neg hw] at hh;rw[Act.put_comm a v undef h2,td h2'] at hh;exact hh
 unfold bW at h;by_cases hwi:Region.wanted oi (yielded ops a.tmps)=true
 ·rw[if_pos hwi] at h
  cases φi with
  | none=>
   obtain⟨v,hq,h⟩:=h;refine uB (J v _ h) fun u p hK=>?_;unfold bW;rw[wanted_put oi a oj.dst u h3,if_pos hwi];refine⟨v,(xj Pu h3).2 hq,?_⟩;rw[mS h3];exact hK
  | some φ=>
   obtain⟨hc,h⟩:=h;have hJ:=fun v:{v:Value // φ.σ v}=>J v.1 _ (h v.1 v.2);refine Ot ⟨φ.ne.choose,φ.ne.choose_spec⟩ hJ fun u p hK=>?_;unfold bW;rw[wanted_put oi a oj.dst u h3,if_pos hwi];exact⟨fun w GX hk=>(um Pu h3).2 (hc w GX (by rwa [mS h3] at hk)),fun v hv=>hK ⟨v,hv⟩⟩
 rw[if_neg hwi] at h;refine uB (J undef _ h) fun u p hK=>?_;unfold bW;rw[wanted_put oi a oj.dst u h3,if_neg hwi];exact hK
def gAt (P:Program) (ops:Array Oper) (W:World) (Φ:Nat→Option GPost) (i:Nat) (K:Act→aL→Prop) (a:Act) (F:aL):Prop :=
 match ops[i]? with
 | none=>K a F
 | some o=>bW P ops W o (Φ i) K a F
def KU (P:Program) (md:Region.Mode) (ops:Array Oper) (W:World) (Φ:Nat→Option GPost) (n:Nat) (L:Array Bool→Act→aL→Prop):Nat→Array Bool→Act→aL→Prop
 | 0,done,a,F=>L done a F
 | f+1,done,a,F=>¬Region.ready md ops done=[]∧∀i∈Region.ready md ops done,i<n∧gAt P ops W Φ i (KU P md ops W Φ n L f (done.setIfInBounds i true)) a F
theorem r6 {F:aL} (hF:∀k,Dp (F k)) {d:Option Tmp} {p:World→Prop} (hp:Dp p) (k:Tmp):Dp (iM F d p k):=by
 unfold iM;intro w w' hb h;by_cases e:d=some k
 ·rw[if_pos e] at h⊢;exact hp w w' hb h
 rw[if_neg e] at h⊢;exact hF k w w' hb h
theorem Iw {F:aL} (hF:∀k,Dp (F k)) (o:Oper):Dp (lQ ops o F):=fun w w' hb h k hk=>hF k w w' hb (h k hk)
theorem put_holds {F:aL} {d:Option Tmp} {p:World→Prop} {w:World} (hF:∀k,F k w) (hp:p w) (k:Tmp):iM F d p k w:=by
 unfold iM;by_cases e:d=some k
 ·rw[if_pos e];exact hp
 rw[if_neg e];exact hF k
theorem DL {i:Nat} {K:Act→aL→Prop} {K':Act→World→Prop} {Q:Exit→Act→World→Prop} {a:Act} {F:aL} {w:World} {D:List Tmp} (hD:∀o d,ops[i]?=some o→o.dst=some d→d∈D→∃ φ,Φ i=some φ ∧ φ.fr=true) (hA:nu D a w) (hw:Below W.heap.size W w) (hs:∀k,Dp (F k)) (hF:∀k,F k w)
  (h:∀a' F' w',Below W.heap.size W w'→(∀k,Dp (F' k))→(∀k,F' k w')→nu D a' w'→K a' F'→K' a' w') (hh:gAt P ops W Φ i K a F):wpOp P ops Q i K' a w:=by
 unfold gAt at hh;unfold wpOp;split
 ·rename_i ho
  rw[ho] at hh;exact h _ _ _ hw hs hF hA hh
 rename_i o ho
 rw[ho] at hh;simp only[bW] at hh;split
 ·rename_i hwn
  rw[if_pos hwn] at hh;refine .inl ?_
  cases hφ:Φ i with
  | none=>
   rw[hφ] at hh;obtain⟨v,hq,hK⟩:=hh;have h3:=hq w hw;unfold Oper.wp;have hk:=h _ _ w hw (r6 hs (Iw hs o)) (put_holds hF (fun k _=>hF k)) (nk hA (yA _) (fun d e1 e2=>by
    obtain⟨φ,e3,-⟩:=hD o d ho e1 e2;rw[hφ] at e3;cases e3)) hK
   generalize (execOp a.eval o).run P w=r at*
   cases r with
   | ok n w'=>
    cases n <;> simp only[oq] at h3 <;> simp only[Oper.upon]
    case value u=>
     obtain⟨e1,e2⟩:=h3;rw[e1,e2];exact hk
    obtain⟨e1,e2⟩:=h3;rw[e1,←e2];exact hk
   | halt x w'=>simp only[oq] at h3
  | some φ=>
   rw[hφ] at hh;rcases hh.1 w hw (fun k _=>hF k) with⟨Y6,f,args,kA,hc⟩|⟨v,fV,kA,hb,hσ,hv,aK⟩
   ·unfold Oper.wp;rw[kA];simp only[Oper.upon];refine hc.mono ?_;rintro e fV ⟨v,rfl,hb,hσ,hv⟩;exact h _ _ fV (hw.trans (hb.mono hw.size)) (r6 hs (φ.st v)) (put_holds (fun k=>hs k w fV hb (hF k)) hv) (nk hA hb.size (fun d e1 e2=>by
     obtain⟨φ',e3,e4⟩:=hD o d ho e1 e2;rw[hφ] at e3;injection e3 with e3;subst e3;rw[Y6] at e4;cases e4)) (hh.2 v hσ)
   unfold Oper.wp;rw[kA];simp only[Oper.upon];refine h _ _ fV (hw.trans (hb.mono hw.size)) (r6 hs (φ.st v)) (put_holds (fun k=>hs k w fV hb (hF k)) hv) ?_ (hh.2 v hσ);cases hf:φ.fr
   case true=>
    obtain⟨b,h1,h2,h3⟩:=aK hf;exact OS hA h1 h2 h3 hb.size
   refine nk hA hb.size (fun d e1 e2=>?_);obtain⟨φ',e3,e4⟩:=hD o d ho e1 e2;rw[hφ] at e3;injection e3 with e3;subst e3;rw[hf] at e4;cases e4
 rename_i hwn
 rw[if_neg hwn] at hh;exact h _ _ w hw (r6 hs (fun _ _ _ h=>h)) (put_holds hF trivial) (nk hA (yA _) (fun _ _ _=>rfl)) hh
theorem Wj {n g:Nat} {L:Array Bool→Act→aL→Prop} {Q:Exit→Act→World→Prop} {D:List Tmp} (hD:∀i o d,ops[i]?=some o→o.dst=some d→d∈D→∃ φ,Φ i=some φ∧φ.fr=true) (hL:∀done a F w,Below W.heap.size W w→(∀k,F k w)→nu D a w→L done a F→wpAny P md ops Q g done a w) (f:Nat) :
  ∀(done:Array Bool) (a:Act) (F:aL) (w:World),nu D a w→Below W.heap.size W w→(∀k,Dp (F k))→(∀k,F k w)→KU P md ops W Φ n L f done a F→wpAny P md ops Q (f+g) done a w:=by
 induction f with
 | zero=>intro done a F w hA hw _ hF h;rw[yR];exact hL done a F w hw hF hA h
 | succ f ih=>
  intro done a F w hA hw hs hF h;rw[Nat.succ_add];exact⟨fun e=>absurd e h.1,fun i hi=>DL (hD i) hA hw hs hF (fun a' F' w' Od hs' hF' hA' h'=>ih _ a' F' w' hA' Od hs' hF' h') (h.2 i hi).2⟩
theorem Zq {n i:Nat} {o:Oper} {L:Array Bool→Act→aL→Prop} (ho:ops[i]?=some o) (Ag:i < n) (hn:n < ops.size) (k8:∀(j:Nat) (o:Oper) cs b,ops[j]?=some o→o.op ≠ .select cs b)
  (lT:Region.sinkB md ops n=true) (iO:Region.chainB md ops n=true) (hL:∀done a F,L done a F→∀j∈Region.ready md ops done,n≤j) (f:Nat) :
  ∀(done:Array Bool) (a:Act) (F:aL),HeadInv md ops n done→(∀j oj,ops[j]?=some oj→j≠i→done.getD j true=false→(∀e∈oj.after,Region.binds md e=true→e.on≠i)→o.apart ops oj=true) →
   i∈Region.ready md ops done→bW P ops W o (Φ i) (KU P md ops W Φ n L f (done.setIfInBounds i true)) a F→KU P md ops W Φ n L (f+1) done a F:=by
 have DF:∀ {K:Act→aL→Prop} {a:Act} {F:aL},bW P ops W o (Φ i) K a F→gAt P ops W Φ i K a F:=fun h=>by
  unfold gAt;rw[ho];exact h
 induction f with
 | zero=>
  intro done a F inv CH hr h;have Ys:=(mem_ready.1 hr).1;refine⟨(fun e=>by rw[e] at hr;cases hr),fun j hj=>?_⟩;have Y1:j<n:=Nat.lt_of_not_le fun ko=>tail_waits lT iO hn inv (n-i) i rfl Ag Ys j ko hj;refine⟨Y1,?_⟩;by_cases e:j=i
  ·rw[e];exact DF h
  obtain⟨a',F',h'⟩:=KA h
  have:=hL _ _ _ h' j (ready_mono hj e);omega
 | succ f ih=>
  intro done a F inv CH hr h;have Ys:=(mem_ready.1 hr).1;refine⟨(fun e=>by rw[e] at hr;cases hr),fun j hj=>?_⟩;have Y1:j<n:=Nat.lt_of_not_le fun ko=>tail_waits lT iO hn inv (n-i) i rfl Ag Ys j ko hj;refine⟨Y1,?_⟩;by_cases e:j=i
  ·rw[e];exact DF h
  obtain⟨hju,oj,hoj,fF⟩:=mem_ready.1 hj;have ky:∀x∈oj.after,Region.binds md x=true→x.on≠i:=fun x hx hb he=>by
   have h0:=fF x hx hb;rw[he,getD_both Ys] at h0;cases h0
  have h2:bW P ops W o (Φ i) (fun a F=>bW P ops W oj (Φ j) (KU P md ops W Φ n L f ((done.setIfInBounds i true).setIfInBounds j true)) a F) a F:=mX (fun a' F' h'=>by
   have h3:=(h'.2 j (ready_mono hj e)).2;unfold gAt at h3;rw[hoj] at h3;exact h3) h
  have h4:=Nk (CH j oj hoj e hju ky) (fun cs b=>k8 i o cs b ho) (fun cs b=>k8 j oj cs b hoj) h2;have h5:bW P ops W oj (Φ j) (KU P md ops W Φ n L (f+1) (done.setIfInBounds j true)) a F:=mX (fun a' F' h'=>by
   refine ih _ a' F' (inv.set hj Y1) (fun k ok hk Mj hku Pw=>?_) (ready_mono hr (Ne.symm e)) ?_
   ·refine CH k ok hk Mj ?_ Pw;by_cases Hh:j=k
    ·rw[←Hh];exact hju
    rwa [getD_set_ne true Hh] at hku
   rw[Array.setIfInBounds_comm _ _ e];exact h') h4
  unfold gAt;rw[hoj];exact h5
def wu (P:Program) (ops:Array Oper) (W:World) (Φ:Nat→Option GPost) (K:Act→aL→Prop):Nat→List Oper→Act→aL→Prop
 | _,[],a,F=>K a F
 | k,o::r,a,F=>bW P ops W o (Φ k) (wu P ops W Φ K (k+1) r) a F
theorem vwy {n g:Nat} {K:Act→aL→Prop} (hn:n<ops.size) (k8:Region.noSelect ops=true) (lT:Region.sinkB md ops n=true) (iO:Region.chainB md ops n=true) (l:List Oper) :
  ∀(k:Nat) (done:Array Bool) (a:Act) (F:aL),k+l.length=n→(∀j,j<l.length→l[j]?=ops[k+j]?)→HeadInv md ops n done→Region.lexHead md ops g l.length k done=true→wu P ops W Φ K k l a F →
   KU P md ops W Φ n (fun V8 a' F'=>Region.seqB md ops g n V8=true∧K a' F') l.length done a F:=by
 induction l with
 | nil=>
  intro k done a F hk _ _ hB h;obtain rfl:k=n:=by simpa using hk
  exact⟨by simpa[Region.lexHead] using hB,h⟩
 | cons o l ih=>
  intro k done a F hk hl inv hB h;have ho:ops[k]?=some o:=by simpa using (hl 0 (by simp)).symm
  rw[List.length_cons] at hk hB;simp only[Region.lexHead,Bool.and_eq_true] at hB;obtain⟨⟨h1,h2⟩,h3⟩:=hB;have hr:k∈Region.ready md ops done:=by simpa using h1
  have Pw:k<n:=by omega
  refine Zq ho Pw hn (Region.noSelect_spec k8) lT iO (fun _ _ _ hL=>seqB_ready hL.1) l.length done a F inv (Region.free_spec ho h2) hr ?_;refine mX (fun a' F' h'=>?_) h;refine ih (k+1) _ _ _ (by omega) (fun j hj=>?_) (inv.set hr Pw) h3 h'
  have:=hl (j+1) (by rw[List.length_cons];omega);rw[List.getElem?_cons_succ] at this;rw[this,show k+(j+1)=k+1+j by omega]
def Yd (ops:List Oper) (Φ:Nat→Option GPost) (D:List Tmp):Bool:=(List.range ops.length).all fun k=>match ops[k]? with
 | some o=>match o.dst with
  | some d=>!(D.contains d)||(match Φ k with|some φ=>φ.fr|none=>false)
  | none=>true
 | none=>true
theorem NH {l:List Oper} {D:List Tmp} (h:Yd l Φ D=true):∀i o d,l.toArray[i]?=some o→o.dst=some d→d∈D→∃ φ,Φ i=some φ∧φ.fr=true:=fun i o d ho hd hm=>by
 have hi:i<l.length:=by
  rcases Nat.lt_or_ge i l.length with h|h
  ·exact h
  rw[List.getElem?_toArray,List.getElem?_eq_none h] at ho;cases ho
 have h1:=List.all_eq_true.1 h i (List.mem_range.2 hi);rw[List.getElem?_toArray] at ho;simp only[ho,hd] at h1;have h2:D.contains d=true:=by simpa using hm
 rw[h2] at h1
 cases hφ:Φ i with
 | none=>rw[hφ] at h1;cases h1
 | some φ=>rw[hφ] at h1;exact⟨φ,rfl,by simpa using h1⟩
theorem dO {id:Nat} {Q:Exit→Act→World→Prop} {a:Act} {w:World} {l:List Oper} (n:Nat) (Φ:Nat→Option GPost) (D:List Tmp) (hm:P.follows .mixedOrders=true) (hB:Region.lexTailB .any l.toArray n=true) (hD:Yd l Φ D=true) (h0:∀d∈D,sG (a.eval (.tmp d))=none)
  (h:wu P l.toArray w Φ (fun a' F'=>∀w',Below w.heap.size w w'→(∀k,F' k w')→nu D a' w'→wpList P l.toArray Q (l.drop n) a' w') 0 (l.take n) a fun _ _=>True):(Code.region id l.toArray true).wp P Q a w:=by
 simp only[Region.lexTailB,Bool.and_eq_true,decide_eq_true_eq] at hB;obtain⟨⟨⟨⟨k8,hn⟩,lT⟩,iO⟩,vq5⟩:=hB;have hnl:n<l.length:=by simpa using hn
 have FA:(l.take n).length=n:=by rw[YA];omega
 have hdl:(l.drop n).length=l.toArray.size-n:=by simp
 have vqW:HeadInv .any l.toArray n (Array.replicate l.toArray.size false):=by
  refine⟨by simp,fun j oj _ hj=>?_,fun t _ ht=>getD_in (by simpa using ht) (getD_replicate_false _ _)⟩;rw[getD_replicate_false] at hj;cases hj
 have H:=vwy (md:=.any) (g:=l.toArray.size-n) hn k8 lT iO (l.take n) 0 _ a _ (by omega) (fun j hj=>by
  rw[FA] at hj;simp[hj]) vqW (by rw[FA];exact vq5) h
 refine wp_region_any hm ?_;have H2:=Wj (Q:=Q) (g:=l.toArray.size-n) (D:=D) (NH hD) (fun done a' F' w' Od hF' hA' hL=>by
  have h1:=wpAny_of_seq (md:=.any) (Q':=Q) (l.drop n) n done a' w' (fun j=>by simp[List.getElem?_drop]) (by rw[hdl];exact hL.1) (hL.2 w' Od hF' hA');rwa [hdl] at h1) _ _ a _ _ (fun d hd b hb=>by rw[h0 d hd] at hb;cases hb) ((yB _ _).drew) (fun _ _ _ _ h=>h) (fun _=>trivial) H
 rw[FA,show n+(l.toArray.size-n)=l.toArray.size by omega] at H2;exact H2
theorem DN {K K':Act→aL→Prop} (hK:∀a F,K a F→K' a F):∀(l:List Oper) (k:Nat) (a:Act) (F:aL),wu P ops W Φ K k l a F→wu P ops W Φ K' k l a F
 | [],_,a,F,h=>hK a F h
 | _::r,k,_,_,h=>mX (fun a' F' h'=>DN hK r (k+1) a' F' h') h
theorem TE (l:List Oper):Yd l Φ []=true:=by
 unfold Yd;rw[List.all_eq_true];intro k _
 cases l[k]? with
 | none=>rfl
 | some o=>
  dsimp only
  cases h:o.dst <;> rfl
theorem af {id:Nat} {Q:Exit→Act→World→Prop} {a:Act} {w:World} {l:List Oper} (n:Nat) (Φ:Nat→Option GPost) (hm:P.follows .mixedOrders=true) (hB:Region.lexTailB .any l.toArray n=true)
  (h:wu P l.toArray w Φ (fun a' F'=>∀w',Below w.heap.size w w'→(∀k,F' k w')→wpList P l.toArray Q (l.drop n) a' w') 0 (l.take n) a fun _ _=>True):(Code.region id l.toArray true).wp P Q a w :=
 dO n Φ [] hm hB (TE l) (fun d hd=>by cases hd) (DN (fun a' F' h' w' h1 h2 _=>h' w' h1 h2) _ _ _ _ h)
def vS (ops:Array Oper):List Oper→aL→aL
 | [],F=>F
 | o::r,F=>vS ops r (iM F o.dst (lQ ops o F))
theorem MY {K:Act→aL→Prop} (m:Nat) {k:Nat} {l:List Oper} {a:Act} {F:aL} (hs:(l.take m).all (fun o=>sY o&&o.guard.isNone)=true) (hΦ:((List.range m).all fun j=>(Φ (k + j)).isNone)=true) (hm:m ≤ l.length)
  (h:wpQuiet P ops (fun w'=>∃x:HeldB W,w'=x.w) (fun a'=>wu P ops W Φ K (k+m) (l.drop m) a' (vS ops (l.take m) F)) (l.take m) a):wu P ops W Φ K k l a F:=by
 induction m generalizing k l a F with
 | zero=>simpa[wpQuiet,vS] using h
 | succ m ih=>
  cases l with
  | nil=>simp at hm
  | cons o r=>
   simp only[aM,List.all_cons,Bool.and_eq_true] at hs;obtain⟨⟨hso,xS⟩,hs⟩:=hs;have hw:Region.wanted o (yielded ops a.tmps)=true:=by
    unfold Region.wanted;rw[Option.isNone_iff_eq_none] at xS;rw[xS]
   have hk0:Φ k=none:=by
    rw[List.all_eq_true] at hΦ
    have:=hΦ 0 (List.mem_range.2 (by omega));simpa using this
   simp only[aM,aN,wpQuiet] at h;rw[if_pos hw] at h;obtain⟨v,hq,h⟩:=h;show bW P ops W o (Φ k) _ a F;unfold bW;rw[if_pos hw,hk0];refine⟨v,AX (fun w hw=>⟨⟨w,hw⟩,rfl⟩) hso hq,?_⟩;refine ih hs ?_ (by simpa using hm) ?_
   ·rw[List.all_eq_true] at hΦ⊢;intro j hj
    have:=hΦ (j+1) (List.mem_range.2 (by have:=List.mem_range.1 hj;omega));rwa [show k+(j+1)=k+1+j by omega] at this
   rw[show k+1+m=k+(m+1) by omega];exact h
theorem zw {K:Act→aL→Prop} (m:Nat) {k:Nat} {l:List Oper} {a:Act} {F:aL} (h:wpQuiet P ops (fun w'=>∃x:HeldB W,w'=x.w) (fun a'=>wu P ops W Φ K (k+m) (l.drop m) a' (vS ops (l.take m) F)) (l.take m) a) (hs:(l.take m).all (fun o=>sY o&&o.guard.isNone)=true:=by kernel_rfl) (hΦ:((List.range m).all fun j=>(Φ (k+j)).isNone)=true:=by rfl) (hm:m≤l.length:=by decide):wu P ops W Φ K k l a F:=MY m hs hΦ hm h
theorem ae {K:Act→aL→Prop} {k:Nat} {o:Oper} {r:List Oper} {a:Act} {F:aL} {φ:GPost} (hg:o.guard=none) (hφ:Φ k=some φ)
  (h:∀w,Below W.heap.size W w→lQ ops o F w→sD P o a φ w) (hK:∀v,φ.σ v→wu P ops W Φ K (k+1) r (a.put o.dst v) (iM F o.dst (φ.φ v))) (Y6:φ.fr=false:=by rfl):wu P ops W Φ K k (o::r) a F:=by
 show bW P ops W o (Φ k) _ a F;have hw:Region.wanted o (yielded ops a.tmps)=true:=by
  unfold Region.wanted;rw[hg]
 unfold bW;rw[if_pos hw,hφ];exact⟨fun w h1 h2=>.inl ⟨Y6,h w h1 h2⟩,hK⟩
theorem aV {K:Act→aL→Prop} {k:Nat} {o:Oper} {r:List Oper} {a:Act} {F:aL} {φ:GPost} (hg:o.guard=none) (hφ:Φ k=some φ)
  (h:∀w,Below W.heap.size W w→lQ ops o F w→kX P o a φ w) (hK:∀v,φ.σ v→wu P ops W Φ K (k+1) r (a.put o.dst v) (iM F o.dst (φ.φ v))):wu P ops W Φ K k (o::r) a F:=by
 show bW P ops W o (Φ k) _ a F;have hw:Region.wanted o (yielded ops a.tmps)=true:=by
  unfold Region.wanted;rw[hg]
 unfold bW;rw[if_pos hw,hφ];exact⟨fun w h1 h2=>.inr (h w h1 h2),hK⟩
theorem Zc {K:Act→aL→Prop} {k:Nat} {a:Act} {F:aL} (h:K a F):wu P ops W Φ K k [] a F:=h
end
def gW (z:Nat):GPost:=⟨fun v=>∃A n c,v=.slice A n c,fun v w=>WAt w v z,⟨.slice none 0 0,none,0,0,rfl⟩,fun _ _ _ hb h=>WAt.grow h hb,false⟩
def gN (z:Int):GPost:=⟨fun v=>∃n A l c,v=.agg #[.bool n,.slice A l c],fun v w=>NumAt w v z,⟨.agg #[.bool false,.slice none 0 0],false,none,0,0,rfl⟩,fun _ _ _ hb h=>NumAt.grow h hb,false⟩
theorem MakesW.g {P:Program} {f:FuncId} {args:Array Value} {w:World} {z:Nat} (h:Calls P f args w (MakesW z w)):Calls P f args w fun e w'=>∃v,e=.returned v∧Below w.heap.size w w'∧(gW z).σ v∧(gW z).φ v w' :=
 h.mono fun _ _ ⟨hb,v,he,hW,_⟩=>⟨v,he,hb,(by obtain⟨⟨A,c,L,h1,_⟩,_⟩:=hW;exact⟨A,_,c,h1⟩),hW⟩
theorem MakesN.g {P:Program} {f:FuncId} {args:Array Value} {w:World} {z:Int} (h:Calls P f args w (MakesN z w)):Calls P f args w fun e w'=>∃v,e=.returned v∧Below w.heap.size w w'∧(gN z).σ v∧(gN z).φ v w' :=
 h.mono fun _ _ ⟨hb,v,he,hN⟩=>⟨v,he,hb,(by obtain⟨n,A,l,c,h1,_⟩:=hN.form;exact⟨n,A,l,c,h1⟩),hN⟩
theorem qjx (v u:Value) (x y:Int) (K:Nat) (w:World) (hv:NumAt w v x) (hu:NumAt w u y) (hK:K≤1000000) (hx:x.natAbs<4294967296^K) (hy:y.natAbs<4294967296^K) :
  Calls Tryz.prog 158 #[v,u] w (MakesN (x+y) w):=by
 obtain⟨n1,s1,m1,rfl,vj,jb⟩:=hv;obtain⟨n2,s2,m2,rfl,vJ,km⟩:=hu;have e1:x.natAbs=m1:=by rw[jb];cases n1 <;> simp
 have e2:y.natAbs=m2:=by rw[km];cases n2 <;> simp
 rw[e1] at hx;rw[e2] at hy;have HAdd:Y0 (∀w',Below w.heap.size w w'→Calls Tryz.prog 191 #[s1,s2] w' (MakesW (m1+m2) w')):=fun w' hb=>MH s1 s2 m1 m2 K w' (vj.grow hb) (vJ.grow hb) hK hx hy;have vvG:Y0 (∀w',Below w.heap.size w w'→Calls Tryz.prog 192 #[s1,s2] w' (MX m1 m2 w')):=fun w' hb=>VQ s1 s2 m1 m2 w' (vj.grow hb) (vJ.grow hb);have HT1:Y0 (∀w',Below w.heap.size w w'→m2≤m1→Calls Tryz.prog 193 #[s1,s2] w' (MakesW (m1-m2) w')):=fun w' hb ko=>zm s1 s2 m1 m2 K w' (vj.grow hb) (vJ.grow hb) hK hx ko
 have Au:Y0 (∀w',Below w.heap.size w w'→m1≤m2→Calls Tryz.prog 193 #[s2,s1] w' (MakesW (m2-m1) w')):=fun w' hb ko=>zm s2 s1 m2 m1 K w' (vJ.grow hb) (vj.grow hb) hK hy ko;have HZ:=zh (And.intro jb km);obtain⟨⟨A,c,L,rfl,-,-,-,-⟩,-⟩:=vj;obtain⟨⟨A',c',M,rfl,-,-,-,-⟩,-⟩:=vJ;have pc:=zh (bV w 152 152 152 #[.bool n1,.slice A L.length c] #[.bool n2,.slice A' M.length c'] #[.bool false,.slice none 0 0]);clear e1 e2 hx hy jb km hK
 by_cases hn:n1=n2
 ·subst hn;have hd:(n1==n1)=true:=beq_self_eq_true _;go_enter Tryz.func158,Tryz.ntmps158;go_wp2_with fail;generalize ((w.alloc (.cells #[.bool n1,.slice A L.length c] 152)).alloc (.cells #[.bool n1,.slice A' M.length c'] 152)).alloc (.cells #[.bool false,.slice none 0 0] 152)=W3 at*;obtain⟨B1,B2,B3,bp⟩:=pc.o;have B3:=zh B3;have bp:=zh bp;have gL:=B1.cell 0;have jD:=B1.cell 1;have iz:=B2.cell 1;simp only[aG,aH,aD] at gL jD iz
  have tW:=YL gL;have vA:=YL jD;have vz:=YL iz;clear B1 B2 gL jD iz pc;refine af 7 (fun i=>if i=6 then some (gW (m1+m2)) else none) (by kernel_rfl) (by kernel_rfl) ?_;simp only[aM,aP,aN,aO];refine zw 6 ?_;simp only[aM,aP,aN,aO]
  repeat (go_big_quiet_step (fail))
  refine YE ?_;refine ae rfl rfl ?_ ?_
  ·intro w1 ak _;refine⟨191,#[.slice A L.length c,.slice A' M.length c'],by go_simp,?_⟩;exact MakesW.g (HAdd.o w1 (bp.o.trans (ak.mono bp.o.size)))
  rintro v1 ⟨A5,l5,c5,rfl⟩;simp only[Act.put,aC,aB,aA];refine Zc ?_;intro w5 aR hF;have UY:WAt w5 (.slice A5 l5 c5) (m1+m2):=hF 16;have Wv:=zh UY;clear UY;have d9:=zh (B3.o.below aR B3.o.lt);have cJ:=zh (bp.o.trans (aR.mono bp.o.size));have Tw:=d9.o.cell 0;have Tv:=d9.o.cell 1;have f30:=d9.o.frozen 0;have f31:=d9.o.frozen 1;simp only[aG,aH,aD] at Tw Tv;clear hF tW vA vz aR B3 bp;go_wp2_with fail;refine YF (v:=.agg #[.bool n1,.slice A5 l5 c5]) (by simp[results,Tryz.results158,go_sem,Tw,Tv]) rfl ?_
  have hN:NumAt w5 (.agg #[.bool n1,.slice A5 l5 c5]) (x+y):=⟨n1,_,m1+m2,rfl,Wv.o,by rw[HZ.o.1,HZ.o.2];cases n1 <;> simp <;> omega⟩;exact⟨(cJ.o.setCell (p:=⟨w.heap.size+1+1,0,none⟩) (show w.heap.size≤w.heap.size+1+1 by omega) _).setCell (p:=⟨w.heap.size+1+1,1,none⟩) (show w.heap.size≤w.heap.size+1+1 by omega) _,_,rfl,(hN.setBox d9.o (by decide) 0 _).setBox (d9.o.set_ 0 _) (by decide) 1 _⟩
 have hd:(n1==n2)=false:=zb hn;go_enter Tryz.func158,Tryz.ntmps158;go_wp2_with fail;generalize ((w.alloc (.cells #[.bool n1,.slice A L.length c] 152)).alloc (.cells #[.bool n2,.slice A' M.length c'] 152)).alloc (.cells #[.bool false,.slice none 0 0] 152)=W3 at*;obtain⟨B1,B2,B3,bp⟩:=pc.o;have B3:=zh B3;have bp:=zh bp;have gL:=B1.cell 0;have jD:=B1.cell 1;have iZ:=B2.cell 0;have iz:=B2.cell 1;simp only[aG,aH,aD] at gL jD iZ iz
 clear B1 B2 pc;go_wp2_with fail;refine (vvG.o W3 bp.o).mono ?_;rintro e w7 ⟨⟨q7,rfl⟩,r7,rfl,Mn,-⟩;have tW:=fun x:HeldB (W3.drewN q7)=>YL (W:=W3.drewN q7) gL x;have vA:=fun x:HeldB (W3.drewN q7)=>YL (W:=W3.drewN q7) jD x;have zM:=fun x:HeldB (W3.drewN q7)=>YL (W:=W3.drewN q7) iZ x;have vz:=fun x:HeldB (W3.drewN q7)=>YL (W:=W3.drewN q7) iz x;clear gL jD iZ iz;by_cases ao:m1<m2
 ·have nH:decide (r7<0)=true:=by rw[Mn];exact yD ao
  have HL:=zh (YG ao);clear ao Mn;go_wp2_with fail;refine af 7 (fun i=>if i=6 then some (gW (m2-m1)) else none) (by kernel_rfl) (by kernel_rfl) ?_;simp only[aM,aP,aN,aO];refine zw 6 ?_;simp only[aM,aP,aN,aO]
  repeat (go_big_quiet_step (fail))
  refine YE ?_;refine ae rfl rfl ?_ ?_
  ·intro w1 ak _;refine⟨193,#[.slice A' M.length c',.slice A L.length c],by go_simp,?_⟩;exact MakesW.g (Au.o w1 (bp.o.trans ((Zf (yB _ _) q7).trans ak |>.mono bp.o.size)) HL.o)
  rintro v1 ⟨A5,l5,c5,rfl⟩;simp only[Act.put,aC,aB,aA];refine Zc ?_;intro w5 aR hF;have UY:WAt w5 (.slice A5 l5 c5) (m2-m1):=hF 30;have Wv:=zh UY;clear UY;have aR:Below W3.heap.size W3 w5:=(Zf (yB _ _) q7).trans aR;have d9:=zh (B3.o.below aR B3.o.lt);have cJ:=zh (bp.o.trans (aR.mono bp.o.size));have Tw:=d9.o.cell 0;have Tv:=d9.o.cell 1;have f30:=d9.o.frozen 0;have f31:=d9.o.frozen 1;simp only[aG,aH,aD] at Tw Tv
  clear hF tW vA zM vz aR B3 bp;go_wp2_with fail;refine YF (v:=.agg #[.bool n2,.slice A5 l5 c5]) (by simp[results,Tryz.results158,go_sem,Tw,Tv]) rfl ?_;have hN:NumAt w5 (.agg #[.bool n2,.slice A5 l5 c5]) (x+y):=⟨n2,_,m2-m1,rfl,Wv.o,by have:=HL.o;rw[HZ.o.1,HZ.o.2];cases n1 <;> cases n2 <;> simp at hn <;> simp <;> omega⟩;exact⟨(cJ.o.setCell (p:=⟨w.heap.size+1+1,0,none⟩) (show w.heap.size≤w.heap.size+1+1 by omega) _).setCell (p:=⟨w.heap.size+1+1,1,none⟩) (show w.heap.size≤w.heap.size+1+1 by omega) _,_,rfl,(hN.setBox d9.o (by decide) 0 _).setBox (d9.o.set_ 0 _) (by decide) 1 _⟩
 have nH:decide (r7<0)=false:=by rw[Mn];exact yC ao
 have HL:=zh (Nat.not_lt.1 ao);clear ao Mn;go_wp2_with fail;refine af 7 (fun i=>if i=6 then some (gW (m1-m2)) else none) (by kernel_rfl) (by kernel_rfl) ?_;simp only[aM,aP,aN,aO];refine zw 6 ?_;simp only[aM,aP,aN,aO]
 repeat (go_big_quiet_step (fail))
 refine YE ?_;refine ae rfl rfl ?_ ?_
 ·intro w1 ak _;refine⟨193,#[.slice A L.length c,.slice A' M.length c'],by go_simp,?_⟩;exact MakesW.g (HT1.o w1 (bp.o.trans ((Zf (yB _ _) q7).trans ak |>.mono bp.o.size)) HL.o)
 rintro v1 ⟨A5,l5,c5,rfl⟩;simp only[Act.put,aC,aB,aA];refine Zc ?_;intro w5 aR hF;have UY:WAt w5 (.slice A5 l5 c5) (m1-m2):=hF 38;have Wv:=zh UY;clear UY;have aR:Below W3.heap.size W3 w5:=(Zf (yB _ _) q7).trans aR;have d9:=zh (B3.o.below aR B3.o.lt);have cJ:=zh (bp.o.trans (aR.mono bp.o.size));have Tw:=d9.o.cell 0;have Tv:=d9.o.cell 1;have f30:=d9.o.frozen 0;have f31:=d9.o.frozen 1;simp only[aG,aH,aD] at Tw Tv
 clear hF tW vA zM vz aR B3 bp;go_wp2_with fail;refine YF (v:=.agg #[.bool n1,.slice A5 l5 c5]) (by simp[results,Tryz.results158,go_sem,Tw,Tv]) rfl ?_;have hN:NumAt w5 (.agg #[.bool n1,.slice A5 l5 c5]) (x+y):=⟨n1,_,m1-m2,rfl,Wv.o,by have:=HL.o;rw[HZ.o.1,HZ.o.2];cases n1 <;> cases n2 <;> simp at hn <;> simp <;> omega⟩;exact⟨(cJ.o.setCell (p:=⟨w.heap.size+1+1,0,none⟩) (show w.heap.size≤w.heap.size+1+1 by omega) _).setCell (p:=⟨w.heap.size+1+1,1,none⟩) (show w.heap.size≤w.heap.size+1+1 by omega) _,_,rfl,(hN.setBox d9.o (by decide) 0 _).setBox (d9.o.set_ 0 _) (by decide) 1 _⟩
theorem Ng (m:Nat) (h:m<18446744073709551616):wv [m%4294967296,m/4294967296]=m∧Wok [m%4294967296,m/4294967296]:=by
 refine⟨?_,fun x hx=>?_⟩
 ·show 0+4294967296^0*(m%4294967296)+4294967296^1*(m/4294967296)=m;omega
 simp at hx;omega
theorem OwnW.two (w:World) (a b:Nat):OwnW (w.alloc (.cells #[.int .u32 (a:Int),.int .u32 (b:Int)] 205)) w.heap.size 2 [a,b] :=
 ⟨rfl,.inr ⟨w.heap.size,2,_,rfl,yA _,Blk.new w 205 _,yA _,by unfold maxLen;omega,rfl,rfl⟩⟩
theorem G4 (n:Int) (w:World) (h0 : -4611686018427387904≤n) (h1:n≤4611686018427387904):Calls Tryz.prog 155 #[.int .i64 n] w (MakesN n w):=by
  obtain⟨m,hm⟩:=zo (n.natAbs);obtain⟨hw1,GX⟩:=Ng m (by omega);have HW1:=zh hw1;have HW2:=zh GX;have HO:=zh (OwnW.two (w.alloc (.cells #[.bool false,.slice none 0 0] 152)) (m%4294967296) (m/4294967296));have HD:=zh ((Blk.new w 152 #[.bool false,.slice none 0 0]).alloc (.cells #[.int .u32 ((m%4294967296:Nat):Int),.int .u32 ((m/4294967296:Nat):Int)] 205));have HB:=zh (((yB _ w).alloc (yA _) (.cells #[.bool false,.slice none 0 0] 152)).alloc (by simp) (.cells #[.int .u32 ((m%4294967296:Nat):Int),.int .u32 ((m/4294967296:Nat):Int)] 205))
  have vxf:(w.alloc (.cells #[.bool false,.slice none 0 0] 152)).heap.size=w.heap.size+1:=by simp
  rw[vxf] at HO;clear vxf;have hT:=tM (some ⟨w.heap.size+1,0,none⟩) 2 _ [m%4294967296,m/4294967296] _ HO.o.at_;have HT:Y0 (Calls Tryz.prog 188 #[.slice (some ⟨w.heap.size+1,0,none⟩) 2 2] ((w.alloc (.cells #[.bool false,.slice none 0 0] 152)).alloc (.cells #[.int .u32 ((m%4294967296:Nat):Int),.int .u32 ((m/4294967296:Nat):Int)] 205)) _):=hT;clear hw1 GX hT;by_cases hn:n<0
  case' pos=>
    have hd:decide (n<0)=true:=yD hn;have HA:Y0 (IntKind.u64.wrap (-IntKind.u64.wrap n)%4294967296=((m%4294967296:Nat):Int)):=by
      unfold Y0;simp only[IntKind.wrap,IntKind.bits,IntKind.signed];omega
    have HC:Y0 (IntKind.u64.wrap (-IntKind.u64.wrap n)/4294967296%4294967296=((m/4294967296:Nat):Int)):=by
      unfold Y0;simp only[IntKind.wrap,IntKind.bits,IntKind.signed];omega
    have HZ:Y0 (n=-(m:Int)):=by unfold Y0;omega
    clear hm;go_enter Tryz.func155,Tryz.ntmps155;go_wp2_with fail;rw[HA.o,HC.o]
  case' neg=>
    have hd:decide (n<0)=false:=yC hn;have HA:Y0 (n%4294967296=((m%4294967296:Nat):Int)):=by unfold Y0;omega
    have HC:Y0 (n/4294967296=((m/4294967296:Nat):Int)):=by unfold Y0;omega
    have HZ:Y0 (n=(m:Int)):=by unfold Y0;omega
    clear hm;go_enter Tryz.func155,Tryz.ntmps155;go_wp2_with fail;rw[HA.o,HC.o]
  all_goals
    refine HT.o.mono ?_;rintro e w' ⟨rfl,rfl⟩;obtain⟨ht1,ht2,ht3⟩:=iH [m%4294967296,m/4294967296];have HT1:=zh ht1;have Au:=zh ht2;have HT3:=zh ht3;generalize (w.alloc (.cells #[.bool false,.slice none 0 0] 152)).alloc (.cells #[.int .u32 ((m%4294967296:Nat):Int),.int .u32 ((m/4294967296:Nat):Int)] 205)=W at*;generalize gi [m%4294967296,m/4294967296]=k at*;have q0:=HD.o.cell 0;have q1:=HD.o.cell 1
    have f0:=HD.o.frozen 0;have f1:=HD.o.frozen 1;simp only[aG,aH,aD] at q0 q1;clear ht1 ht2 ht3 HT;go_wp2_with fail;have hW:WAt W (.slice (some ⟨w.heap.size+1,0,none⟩) k 2) m:=WAt.of_trim HO.o HW2.o HT1.o Au.o (HT3.o.trans HW1.o);have hB:=(HB.o.setCell (p:=⟨w.heap.size,0,none⟩) (yA _) (.bool (decide (n<0)))).setCell (p:=⟨w.heap.size,1,none⟩) (yA _) (.slice (some ⟨w.heap.size+1,0,none⟩) k 2);have hN:NumAt W (.agg #[.bool (decide (n<0)),.slice (some ⟨w.heap.size+1,0,none⟩) k 2]) n:=⟨_,_,m,rfl,hW,by rw[hd];exact HZ.o⟩
    have zN:=(hN.setBox HD.o (by decide) 0 (.bool (decide (n<0)))).setBox (HD.o.set_ 0 _) (by decide) 1 (.slice (some ⟨w.heap.size+1,0,none⟩) k 2);rw[hd] at hB zN
    first
      | (refine YF (v := .agg #[.bool true,.slice (some ⟨w.heap.size + 1,0,none⟩) k 2]) (by simp[results,Tryz.results155,go_sem,q0,q1]) rfl ?_
         exact⟨hB,_,rfl,zN⟩)
      | (refine YF (v := .agg #[.bool false,.slice (some ⟨w.heap.size + 1,0,none⟩) k 2]) (by simp[results,Tryz.results155,go_sem,q0,q1]) rfl ?_
         exact⟨hB,_,rfl,zN⟩)
def ExactAt (w:World) (v:Value) (q:Rat):Prop:=∃n1 s1 n2 s2,v=.agg #[.bool n1,s1,.bool n2,s2]∧NumAt w (.agg #[.bool n1,s1]) q.num∧NumAt w (.agg #[.bool n2,s2]) (q.den:Int)
theorem ExactAt.grow {w w':World} {v:Value} {q:Rat} (h:ExactAt w v q) (hb:Below w.heap.size w w'):ExactAt w' v q:=by
 obtain⟨n1,s1,n2,s2,h1,h2,h3⟩:=h;exact⟨n1,s1,n2,s2,h1,h2.grow hb,h3.grow hb⟩
theorem ExactAt.setBox {w:World} {v:Value} {q:Rat} {D:Nat} {t:TypeId} {cs:Array Value} (h:ExactAt w v q) (hD:Blk w D t cs) (ht:t≠205) (i:Nat) (x:Value):ExactAt (w.setCell ⟨D,i,none⟩ x) v q:=by
 obtain⟨n1,s1,n2,s2,h1,h2,h3⟩:=h;exact⟨n1,s1,n2,s2,h1,h2.setBox hD ht i x,h3.setBox hD ht i x⟩
theorem ExactAt.kept {w w':World} {v:Value} {q:Rat} {row:Option Nat} {t:TypeId} (h:ExactAt w v q) (kB:w.grownBy w' row) (hg:∀g,row=some g→∃cs r,w.heap[g]?=some (.cells cs t r)) (ht:t≠205):ExactAt w' v q:=by
 obtain⟨n1,s1,n2,s2,h1,h2,h3⟩:=h;exact⟨n1,s1,n2,s2,h1,h2.kept kB hg ht,h3.kept kB hg ht⟩
theorem ExactAt.form {w:World} {v:Value} {q:Rat} (h:ExactAt w v q):∃n1 A1 l1 c1 n2 A2 l2 c2,v=.agg (zD n1 A1 l1 c1 n2 A2 l2 c2)∧NumAt w (.agg #[.bool n1,.slice A1 l1 c1]) q.num∧NumAt w (.agg #[.bool n2,.slice A2 l2 c2]) (q.den:Int):=by
 obtain⟨n1,s1,n2,s2,rfl,h2,h3⟩:=h;obtain⟨n1,A1,l1,c1,e1,-⟩:=h2.form;obtain⟨n2,A2,l2,c2,e2,-⟩:=h3.form;simp only[Value.agg.injEq,Array.mk.injEq,List.cons.injEq,and_true] at e1 e2;obtain⟨e11,e12⟩:=e1;obtain⟨e21,e22⟩:=e2;subst e12 e22;exact⟨_,A1,l1,c1,_,A2,l2,c2,rfl,h2,h3⟩
def MakesE (q:Rat) (w:World) (e:Ending) (w':World):Prop:=Below w.heap.size w w'∧∃v,e=.returned v∧ExactAt w' v q
def gE (q:Rat):GPost:=⟨fun v=>∃n1 A1 l1 c1 n2 A2 l2 c2,v=.agg #[.bool n1,.slice A1 l1 c1,.bool n2,.slice A2 l2 c2],fun v w=>ExactAt w v q,⟨.agg #[.bool false,.slice none 0 0,.bool false,.slice none 0 0],false,none,0,0,false,none,0,0,rfl⟩,fun _ _ _ hb h=>ExactAt.grow h hb,false⟩
theorem MakesE.g {P:Program} {f:FuncId} {args:Array Value} {w:World} {q:Rat} (h:Calls P f args w (MakesE q w)):Calls P f args w fun e w'=>∃v,e=.returned v∧Below w.heap.size w w'∧(gE q).σ v∧(gE q).φ v w' :=
 h.mono fun _ _ ⟨hb,v,he,hN⟩=>⟨v,he,hb,(by obtain⟨n1,A1,l1,c1,n2,A2,l2,c2,h1,_,_⟩:=hN.form;exact⟨n1,A1,l1,c1,n2,A2,l2,c2,h1⟩),hN⟩
theorem ExactAt.stored {w:World} {v:Value} {q:Rat} {D:Nat} {cs:Array Value} (h:ExactAt w v q) (hD:Blk w D 154 cs) (x0 x1 x2 x3:Value):ExactAt ((((w.setCell ⟨D,0,none⟩ x0).setCell ⟨D,1,none⟩ x1).setCell ⟨D,2,none⟩ x2).setCell ⟨D,3,none⟩ x3) v q :=
 (((h.setBox hD (by decide) 0 x0).setBox (hD.set_ 0 x0) (by decide) 1 x1).setBox ((hD.set_ 0 x0).set_ 1 x1) (by decide) 2 x2).setBox (((hD.set_ 0 x0).set_ 1 x1).set_ 2 x2) (by decide) 3 x3
theorem bA {B D:Nat} {w0 w:World} (h:Below B w0 w) (hD:B≤D) (x0 x1 x2 x3:Value):Below B w0 ((((w.setCell ⟨D,0,none⟩ x0).setCell ⟨D,1,none⟩ x1).setCell ⟨D,2,none⟩ x2).setCell ⟨D,3,none⟩ x3) :=
 (((h.setCell (p:=⟨D,0,none⟩) hD x0).setCell (p:=⟨D,1,none⟩) hD x1).setCell (p:=⟨D,2,none⟩) hD x2).setCell (p:=⟨D,3,none⟩) hD x3
theorem fP (n:Int) (w:World) (h0 : -4611686018427387904≤n) (h1:n≤4611686018427387904):Calls Tryz.prog 110 #[.int .i64 n] w (MakesE ((n:Int):Rat) w):=by
 have HD:=zh (Blk.new w 154 (zD false none 0 0 false none 0 0));have HB:=zh ((yB _ w).alloc (yA _) (.cells (zD false none 0 0 false none 0 0) 154));go_enter Tryz.func110,Tryz.ntmps110;go_wp2_with fail;generalize w.alloc (.cells (zD false none 0 0 false none 0 0) 154)=W at*;refine (G4 n W h0 h1).mono ?_;rintro e w5 ⟨aR,v5,rfl,hN5⟩;obtain⟨n5,A5,l5,c5,rfl,-⟩:=hN5.form;have PI:=zh hN5;have pK:=zh (HD.o.below aR HD.o.lt)
 have cJ:=zh (HB.o.trans (aR.mono HB.o.size));clear aR hN5 HD HB;go_wp2_with fail;refine (G4 1 w5 (by decide) (by decide)).mono ?_;rintro e w6 ⟨ie,v6,rfl,hN6⟩;obtain⟨n6,A6,l6,c6,rfl,-⟩:=hN6.form;have Pe:=zh hN6;have vvD:=zh (PI.o.grow ie);have ri:=zh (pK.o.below ie pK.o.lt);have kH:=zh (cJ.o.trans (ie.mono cJ.o.size));have q0:=ri.o.cell 0;have q1:=ri.o.cell 1;have q2:=ri.o.cell 2;have q3:=ri.o.cell 3
 have f0:=ri.o.frozen 0;have f1:=ri.o.frozen 1;have f2:=ri.o.frozen 2;have f3:=ri.o.frozen 3;simp only[aG,aH,aD] at q0 q1 q2 q3;clear ie hN6 pK cJ PI;go_wp2_with fail;refine YF (v:=.agg (zD n5 A5 l5 c5 n6 A6 l6 c6)) (by simp[results,Tryz.results110,go_sem,q0,q1,q2,q3]) rfl ?_;have hE:ExactAt w6 (.agg (zD n5 A5 l5 c5 n6 A6 l6 c6)) ((n:Int):Rat):=⟨_,_,_,_,rfl,by rw[Rat.num_intCast];exact vvD.o,by rw[Rat.den_intCast];exact Pe.o⟩
 exact⟨bA kH.o (yA _) _ _ _ _,_,rfl,hE.stored ri.o _ _ _ _⟩
theorem NumAt.parts {w:World} {nn:Bool} {s:Value} {z:Int} (h:NumAt w (.agg #[.bool nn,s]) z):WAt w s z.natAbs∧(z≠0→(nn=true↔z<0)):=by
 obtain⟨neg,s',m,e,h2,h3⟩:=h;simp only[Value.agg.injEq,Array.mk.injEq,List.cons.injEq,and_true,Value.bool.injEq] at e;obtain⟨e1,e2⟩:=e;subst e1 e2;have hm:z.natAbs=m:=by rw[h3];cases nn <;> simp
 rw[hm];refine⟨h2,fun hz=>?_⟩;cases nn <;> simp at h3⊢ <;> omega
theorem qja {n d:Int} (hd:d≠0) (hn:n≠0) {nn:Bool} (h:nn=true↔((n<0∧0<d)∨(0<n∧d<0))) :
  (Rat.divInt n d).num=if nn=true then -((n.natAbs/Nat.gcd n.natAbs d.natAbs:Nat):Int) else ((n.natAbs/Nat.gcd n.natAbs d.natAbs:Nat):Int):=by
 have h1:=(rP (n:=n) hd).1;have h2:=LR hd hn;rw[←h1];by_cases e:nn=true
 ·have:=h2.2 (h.1 e);rw[if_pos e];omega
 have h3:¬(Rat.divInt n d).num<0:=fun h3=>e (h.2 (h2.1 h3));rw[if_neg e];omega
theorem OH {w:World} {D1 D2 D3:Nat} {t1 t2 t3:TypeId} {a1 b1 a2 b2:Value} {cs3:Array Value} (h1:Blk w D1 t1 #[a1,b1]) (h2:Blk w D2 t2 #[a2,b2]) (h3:Blk w D3 t3 cs3) (vk:D1≠D2) (FT:D1≠D3) (h23:D2≠D3) (x1 y1 x2 y2:Value) :
  Blk ((((w.setCell ⟨D1,0,none⟩ x1).setCell ⟨D1,1,none⟩ y1).setCell ⟨D2,0,none⟩ x2).setCell ⟨D2,1,none⟩ y2) D1 t1 #[x1,y1]∧Blk ((((w.setCell ⟨D1,0,none⟩ x1).setCell ⟨D1,1,none⟩ y1).setCell ⟨D2,0,none⟩ x2).setCell ⟨D2,1,none⟩ y2) D2 t2 #[x2,y2] ∧
   Blk ((((w.setCell ⟨D1,0,none⟩ x1).setCell ⟨D1,1,none⟩ y1).setCell ⟨D2,0,none⟩ x2).setCell ⟨D2,1,none⟩ y2) D3 t3 cs3 :=
 ⟨(((h1.set_ 0 x1).set_ 1 y1).far (p:=⟨D2,0,none⟩) vk x2).far (p:=⟨D2,1,none⟩) vk y2,(((h2.far (p:=⟨D1,0,none⟩) (Ne.symm vk) x1).far (p:=⟨D1,1,none⟩) (Ne.symm vk) y1).set_ 0 x2).set_ 1 y2,
  (((h3.far (p:=⟨D1,0,none⟩) (Ne.symm FT) x1).far (p:=⟨D1,1,none⟩) (Ne.symm FT) y1).far (p:=⟨D2,0,none⟩) (Ne.symm h23) x2).far (p:=⟨D2,1,none⟩) (Ne.symm h23) y2⟩
theorem NumAt.set2 {w:World} {v:Value} {z:Int} {D1 D2:Nat} {t1 t2:TypeId} {cs1 cs2:Array Value} (h:NumAt w v z) (h1:Blk w D1 t1 cs1) (h2:Blk w D2 t2 cs2) (vk:D1≠D2) (ht1:t1≠205) (ht2:t2≠205) (x1 y1 x2 y2:Value) :
  NumAt ((((w.setCell ⟨D1,0,none⟩ x1).setCell ⟨D1,1,none⟩ y1).setCell ⟨D2,0,none⟩ x2).setCell ⟨D2,1,none⟩ y2) v z :=
 (((h.setBox h1 ht1 0 x1).setBox (h1.set_ 0 x1) ht1 1 y1).setBox ((h2.far (p:=⟨D1,0,none⟩) (Ne.symm vk) x1).far (p:=⟨D1,1,none⟩) (Ne.symm vk) y1) ht2 0 x2).setBox (((h2.far (p:=⟨D1,0,none⟩) (Ne.symm vk) x1).far (p:=⟨D1,1,none⟩) (Ne.symm vk) y1).set_ 0 x2) ht2 1 y2
theorem uI (d:Int):Rat.divInt 0 d=((0:Int):Rat):=by rw[Rat.zero_divInt];rfl
theorem sE (v u:Value) (n d:Int) (K:Nat) (w:World) (hv:NumAt w v n) (hu:NumAt w u d) (Y9:d≠0) (hK:K≤400000) (hx:n.natAbs<4294967296^K) (hy:d.natAbs<4294967296^K) :
  Calls Tryz.prog 156 #[v,u] w (MakesE (Rat.divInt n d) w):=by
 obtain⟨n1,A1,l1,c1,rfl,-⟩:=hv.form;obtain⟨n2,A2,l2,c2,rfl,-⟩:=hu.form;have HV:=zh hv;have HU:=zh hu;have pc:=zh (bV w 152 152 154 #[.bool n1,.slice A1 l1 c1] #[.bool n2,.slice A2 l2 c2] (zD false none 0 0 false none 0 0));have La:Y0 (K≤500000):=by unfold Y0;omega
 have HX:=zh hx;have HY:=zh hy;have zy:=zh Y9;clear hx hy hK Y9 hv hu;go_enter Tryz.func156,Tryz.ntmps156;go_wp2_with fail;generalize ((w.alloc (.cells #[.bool n1,.slice A1 l1 c1] 152)).alloc (.cells #[.bool n2,.slice A2 l2 c2] 152)).alloc (.cells (zD false none 0 0 false none 0 0) 154)=W3 at*;obtain⟨B1,B2,B3,bp⟩:=pc.o;obtain⟨gL,jD⟩:=B1.c2;have B1:=zh B1;have B2:=zh B2;have B3:=zh B3;have bp:=zh bp
 clear pc;go_wp2_with fail;refine (VK _ n W3 (HV.o.grow bp.o)).mono ?_;rintro e w4 ⟨rfl,bU⟩;have B14:=zh (B1.o.below bU B1.o.lt);have B24:=zh (B2.o.below bU B2.o.lt);have B34:=zh (B3.o.below bU B3.o.lt);have ML:=zh (bp.o.trans (bU.mono bp.o.size));clear B1 B2 B3 bp bU gL jD;by_cases hn:n=0
 ·have hs:iy n=0:=by unfold iy;rw[if_pos hn]
  rw[hs];have HE:Y0 (Rat.divInt n d=((0:Int):Rat)):=by unfold Y0;rw[hn,uI]
  clear hn hs;go_wp2_with fail;refine (fP 0 w4 (by decide) (by decide)).mono ?_;rintro e w5 ⟨aR,v5,rfl,K5⟩;obtain⟨n5,A5,l5,c5,n6,A6,l6,c6,rfl,-,-⟩:=K5.form;have Ax:=zh K5;have ri:=zh (B34.o.below aR B34.o.lt);have kH:=zh (ML.o.trans (aR.mono ML.o.size));have q0:=ri.o.cell 0;have q1:=ri.o.cell 1;have q2:=ri.o.cell 2;have q3:=ri.o.cell 3;have f0:=ri.o.frozen 0;have f1:=ri.o.frozen 1;have f2:=ri.o.frozen 2
  have f3:=ri.o.frozen 3;simp only[aG,aH,aD] at q0 q1 q2 q3;clear K5 aR B14 B24 B34 ML;go_wp2_with fail;refine YF (v:=.agg (zD n5 A5 l5 c5 n6 A6 l6 c6)) (by simp[results,Tryz.results156,go_sem,q0,q1,q2,q3]) rfl ?_;exact⟨bA kH.o (by omega) _ _ _ _,_,rfl,by rw[HE.o];exact Ax.o.stored ri.o _ _ _ _⟩
 have hs:(iy n==0)=false:=by
  unfold iy;rw[if_neg hn];split <;> rfl
 have HN:=zh hn;obtain⟨iZ,iz⟩:=B24.o.c2;clear hn;generalize iy n=sn at*;cases n2
 case' true=>
  have PO:Y0 (d<0):=(HU.o.parts.2 zy.o).1 rfl;obtain⟨gL,jD⟩:=B14.o.c2;go_wp2_with fail;have tW:=YL gL;have vA:=YL jD;have zM:=YL iZ;have vz:=YL iz;clear gL jD iZ iz;refine af 4 (fun i=>if i=1 then some (gN (-n)) else if i=3 then some (gN (-d)) else none) (by kernel_rfl) (by kernel_rfl) ?_;simp only[aM,aP,aN,aO];refine zw 1 ?_;simp only[aM,aP,aN,aO]
  repeat (go_big_quiet_step (fail))
  refine YE ?_;refine ae rfl rfl (fun w1 ak _=>⟨160,#[.agg #[.bool n1,.slice A1 l1 c1]],by go_simp,MakesN.g (VN _ n w1 (HV.o.grow (ML.o.trans (ak.mono ML.o.size))))⟩) ?_;rintro v1 ⟨n5,A5,l5,c5,rfl⟩;simp only[Act.put,aC,aB,aA];refine zw 1 ?_;simp only[aM,aP,aN,aO]
  repeat (go_big_quiet_step (fail))
  refine YE ?_;refine ae rfl rfl (fun w1 ak _=>⟨160,#[.agg #[.bool true,.slice A2 l2 c2]],by go_simp,MakesN.g (VN _ d w1 (HU.o.grow (ML.o.trans (ak.mono ML.o.size))))⟩) ?_;rintro v2 ⟨n6,A6,l6,c6,rfl⟩;simp only[Act.put,aC,aB,aA];refine Zc ?_;intro w5 aR hF;have FT:NumAt w5 (.agg #[.bool n5,.slice A5 l5 c5]) (-n):=hF 13;have h15:NumAt w5 (.agg #[.bool n6,.slice A6 l6 c6]) (-d):=hF 15;have Xv:=B14.o.below aR B14.o.lt
  have Xu:=B24.o.below aR B24.o.lt;have B35:=B34.o.below aR B34.o.lt;have Hb5:=zh (ML.o.trans (aR.mono ML.o.size));have p10:=Xv.cell 0;have p11:=Xv.cell 1;have p20:=Xu.cell 0;have p21:=Xu.cell 1;have f10:=Xv.frozen 0;have f11:=Xv.frozen 1;have f20:=Xu.frozen 0;have f21:=Xu.frozen 1;simp only[aG,aH,aD] at p10 p11 p20 p21;have Xv:=zh Xv;have Xu:=zh Xu;have B35:=zh B35;have H13:=zh FT;have H15:=zh h15
  clear hF tW vA zM vz FT h15 aR;go_wp2_with fail;have YZ:=OH Xv.o Xu.o B35.o (by omega) (by omega) (by omega) (.bool n5) (.slice A5 l5 c5) (.bool n6) (.slice A6 l6 c6);have hN5:=H13.o.set2 Xv.o Xu.o (by omega) (by decide) (by decide) (.bool n5) (.slice A5 l5 c5) (.bool n6) (.slice A6 l6 c6);have hN6:=H15.o.set2 Xv.o Xu.o (by omega) (by decide) (by decide) (.bool n5) (.slice A5 l5 c5) (.bool n6) (.slice A6 l6 c6)
  have hB6:=(((Hb5.o.setCell (p:=⟨w.heap.size,0,none⟩) (yA _) (.bool n5)).setCell (p:=⟨w.heap.size,1,none⟩) (yA _) (.slice A5 l5 c5)).setCell (p:=⟨w.heap.size+1,0,none⟩) (YH _) (.bool n6)).setCell (p:=⟨w.heap.size+1,1,none⟩) (YH _) (.slice A6 l6 c6);have hS:n5=true↔(n<0∧0<d)∨(0<n∧d<0):=by
   have h1:=H13.o.parts.2 (by have:=HN.o;omega);have h2:=PO.o;rw[h1];omega
  have hP:=hN5.parts.1;have hQ:=hN6.parts.1;rw[Int.natAbs_neg] at hP hQ;generalize (((w5.setCell ⟨w.heap.size,0,none⟩ (.bool n5)).setCell ⟨w.heap.size,1,none⟩ (.slice A5 l5 c5)).setCell ⟨w.heap.size+1,0,none⟩ (.bool n6)).setCell ⟨w.heap.size+1,1,none⟩ (.slice A6 l6 c6)=W6 at*;have K10:=YZ.1.cell 0;have K11:=YZ.1.cell 1;have K21:=YZ.2.1.cell 1;simp only[aG,aH,aD] at K10 K11 K21;have B36:=zh YZ.2.2;have kH:=zh hB6
  have HP:=zh hP;have HQ:=zh hQ;have HS:=zh hS;clear YZ hN5 hN6 hB6 hS hP hQ p10 p11 p20 p21 f10 f11 f20 f21 Xv Xu B35 H13 H15 Hb5 B14 B24 B34 ML HV HU PO
 case' false=>
  have PO:Y0 (0<d):=by
   have h1:=HU.o.parts.2 zy.o;have h2:=zy.o;have h3:¬d<0:=fun h=>by cases h1.2 h
   unfold Y0;omega
  have K10:=B14.o.cell 0;have K11:=B14.o.cell 1;have K21:=B24.o.cell 1;simp only[aG,aH,aD] at K10 K11 K21;have hS:n1=true↔(n<0∧0<d)∨(0<n∧d<0):=by
   have h1:=HV.o.parts.2 HN.o;have h2:=PO.o;rw[h1];omega
  have HP:=zh (HV.o.parts.1.grow ML.o);have HQ:=zh (HU.o.parts.1.grow ML.o);have HS:=zh hS;have B36:=B34;have kH:=ML;clear hS B14 B24 B34 ML HV HU PO iz;go_wp2_with fail;clear iZ;obtain⟨W6,rfl⟩:∃W,W=w4:=⟨_,rfl⟩;obtain⟨n5,rfl⟩:∃n5,n5=n1:=⟨_,rfl⟩;obtain⟨A5,rfl⟩:∃A5,A5=A1:=⟨_,rfl⟩;obtain⟨l5,rfl⟩:∃l5,l5=l1:=⟨_,rfl⟩;obtain⟨c5,rfl⟩:∃c5,c5=c1:=⟨_,rfl⟩;obtain⟨A6,rfl⟩:∃A6,A6=A2:=⟨_,rfl⟩;obtain⟨l6,rfl⟩:∃l6,l6=l2:=⟨_,rfl⟩
  obtain⟨c6,rfl⟩:∃c6,c6=c2:=⟨_,rfl⟩
 all_goals
  refine (VP _ _ n.natAbs d.natAbs K W6 HP.o HQ.o La.o HX.o HY.o (Int.natAbs_pos.2 HN.o) (Int.natAbs_pos.2 zy.o)).mono ?_;rintro e w7 ⟨lF,v7,rfl,hW7⟩;have Hj:0<Nat.gcd n.natAbs d.natAbs:=Nat.gcd_pos_of_pos_left _ (Int.natAbs_pos.2 HN.o);have hgK:Nat.gcd n.natAbs d.natAbs<4294967296^K:=Nat.lt_of_le_of_lt (Nat.gcd_le_left _ (Int.natAbs_pos.2 HN.o)) HX.o;have hF:=qja zy.o HN.o HS.o;have hF2:=(rP (n:=n) zy.o).2
  generalize Nat.gcd n.natAbs d.natAbs=G at*;have MQ:=zh Hj;have HGK:=zh hgK;have HF:=zh hF;have Aw:=zh hF2;have HW7:=zh hW7;have HP7:=zh (HP.o.grow lF);have HQ7:=zh (HQ.o.grow lF);have Lc:=zh (B36.o.below lF B36.o.lt);have pd:=zh (kH.o.trans (lF.mono kH.o.size));obtain⟨⟨A7,c7,L7,rfl,-⟩,-⟩:=hW7;have k10:=(lF.cell (p:=⟨w.heap.size,0,none⟩) (World.block_lt_of_cell? _ _ K10)).trans K10;have k11:=(lF.cell (p:=⟨w.heap.size,1,none⟩) (World.block_lt_of_cell? _ _ K11)).trans K11
  have k21:=(lF.cell (p:=⟨w.heap.size+1,1,none⟩) (World.block_lt_of_cell? _ _ K21)).trans K21;clear K10 K11 K21 Hj hgK hF hF2 lF HP HQ B36 kH HN zy HS;go_wp2_with fail;have tW:=YL k10;have vA:=YL k11;have vz:=YL k21;clear k10 k11 k21;refine af 13 (fun i=>if i=5 then some (gW (n.natAbs/G)) else if i=10 then some (gW (d.natAbs/G)) else none) (by kernel_rfl) (by kernel_rfl) ?_;simp only[aM,aP,aN,aO];refine zw 5 ?_
  simp only[aM,aP,aN,aO]
  repeat (go_big_quiet_step (fail))
  refine YE ?_;refine ae rfl rfl (fun w1 ak _=>⟨190,#[.slice A5 l5 c5,.slice A7 L7.length c7],by go_simp,MakesW.g (qjz _ _ n.natAbs G K w1 (HP7.o.grow ak) (HW7.o.grow ak) La.o HX.o HGK.o MQ.o)⟩) ?_;rintro v1 ⟨A8,l8,c8,rfl⟩;simp only[Act.put,aC,aB,aA];refine zw 4 ?_;simp only[aM,aP,aN,aO]
  repeat (go_big_quiet_step (fail))
  refine YE ?_;refine ae rfl rfl (fun w1 ak _=>⟨190,#[.slice A6 l6 c6,.slice A7 L7.length c7],by go_simp,MakesW.g (qjz _ _ d.natAbs G K w1 (HQ7.o.grow ak) (HW7.o.grow ak) La.o HY.o HGK.o MQ.o)⟩) ?_;rintro v2 ⟨A9,l9,c9,rfl⟩;simp only[Act.put,aC,aB,aA];refine zw 2 ?_;simp only[aM,aP,aN,aO]
  repeat (go_big_quiet_step (fail))
  refine YE ?_;refine Zc ?_;intro w8 aJ hF;have kD:WAt w8 (.slice A8 l8 c8) (n.natAbs/G):=hF 26;have Zb:WAt w8 (.slice A9 l9 c9) (d.natAbs/G):=hF 31;have H26:=zh kD;have H31:=zh Zb;have bj:=zh (Lc.o.below aJ Lc.o.lt);have ep:=zh (pd.o.trans (aJ.mono pd.o.size));have q0:=bj.o.cell 0;have q1:=bj.o.cell 1;have q2:=bj.o.cell 2;have q3:=bj.o.cell 3;have f0:=bj.o.frozen 0;have f1:=bj.o.frozen 1;have f2:=bj.o.frozen 2
  have f3:=bj.o.frozen 3;simp only[aG,aH,aD] at q0 q1 q2 q3;clear hF tW vA vz kD Zb aJ Lc pd;go_wp2_with fail;refine YF (v:=.agg (zD n5 A8 l8 c8 false A9 l9 c9)) (by simp[results,Tryz.results156,go_sem,q0,q1,q2,q3]) rfl ?_;have hE:ExactAt w8 (.agg (zD n5 A8 l8 c8 false A9 l9 c9)) (Rat.divInt n d) :=
   ⟨n5,_,false,_,rfl,⟨n5,_,_,rfl,H26.o,HF.o⟩,⟨false,_,_,rfl,H31.o,by rw[Aw.o];rfl⟩⟩
  exact⟨bA ep.o (by omega) _ _ _ _,_,rfl,hE.stored bj.o _ _ _ _⟩
