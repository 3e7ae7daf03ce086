/- Lemmas. -/
import Derived.Deep.Fields
import Derived.LaidMore
import Derived.OpenShut
import Derived.ProofKit
import Derived.Stop.Joined
import Derived.Test.YtknkhnahflmjiaaGreatDoorRows
import Derived.Test.YtknkhnahflmjiaaGreatDoorT6
import Derived.Test.YtknkhnahflmjiaaGreatDoorU2
namespace Go.Proofs.YtknkhnahflmjiaaGreatDoor
set_option maxRecDepth 100000
set_option maxHeartbeats 40000000
open Go.RowKit Go.Shelf Go.ChangeShapes Go.WideShapes Go.Deep
theorem lN (b off k:Nat):(Addr.mk b off none).add k=⟨b,off+k,none⟩:=by
 unfold Addr.add;split
 ·rename_i h;subst h;rfl
 rfl
theorem AE {w:World} {a:Addr} {v:Value} (h:w.cell? a=some v):a.block<w.heap.size:=by
 unfold World.cell? at h;split at h
 ·rename_i c t z hh
  exact (Array.getElem?_eq_some_iff.1 hh).1
 cases h
theorem rP {w:World} {b off:Nat} {s:Option Nat} {v:Value} (h:w.cell? ((Addr.mk b off s).add 0)=some v):s=none:=by
 simpa[Addr.add] using World.cell?_spot h
section
variable {H:Type} {enc:TypeId×Value→H} {w:World} {base:Nat} {spare:Nat→Bool} {held:Bool}
theorem bu {fuel:Nat} {v:Value} {x:DataW H×List MemPlace} (h:DataW.trod enc Tryz.prog w base spare held fuel 3 [v]=some x) :
  ∃n:Int,v=.int .i64 n ∧ -9223372036854775808≤n∧n≤9223372036854775807:=by
 obtain⟨n,hv,-,hw⟩:=DataW.trod_int Tryz.underlying3 h;simp[Lit.wf,IntKind.min,IntKind.max,IntKind.signed,IntKind.bits] at hw;exact⟨n,by simpa using hv,by omega,by omega⟩
theorem nk {fuel:Nat} {v:Value} {x:DataW H×List MemPlace} (h:DataW.trod enc Tryz.prog w base spare held fuel 9 [v]=some x) :
  ∃s:ByteArray,v=.string s∧s.size≤maxLen:=by
 obtain⟨s,hv,-,hw⟩:=DataW.trod_string Tryz.underlying9 h;exact⟨s,by simpa using hv,hw⟩
end
instance:Inhabited Task:=⟨⟨⟨#[]⟩,0,0,0,none,0,[]⟩⟩
section
variable {H:Type} {enc:TypeId×Value→H} {w:World} {base:Nat} {spare:Nat→Bool} {held:Bool}
end
open Go.ChangeShapes Go.WideShapes Go.ChangeAt Go.RowKit
theorem Tryz.own:ownKnob Tryz.prog.godebug=none:=by kernel_rfl
theorem Tryz.laidOut:laidOutB Tryz.prog=true:=by kernel_rfl
section
variable {H:Type} {enc:TypeId×Value→H} {P:Program}
theorem wW {f:Func} {s:ChangeSpec} {apart fresh UR again:Bool} {W W':World} {args:Array Value} {v:Value} {ds gs:List (DataW H)} {before pa pv:List MemPlace}
  (hW:DataW.Whole enc P f.params.toList s.vars apart W args.toList ds gs before)
  (CR:∀(b:Nat) (sp:Nat→Bool) (hd:Bool),DataW.TrodAll enc P W' b sp hd f.resultTypes.toList (v.resultList f.resultTypes.size) (s.fn H (ds++gs)).results [])
  (Rs:∀sp:Nat→Bool,(∀p∈before,sp p.block=true)→DataW.TrodAll enc P W' 0 sp true f.params.toList args.toList (s.fn H (ds++gs)).args pa)
  (CP:∀sp:Nat→Bool,(∀p∈before,sp p.block=true)→DataW.TrodVars enc P W' sp s.vars (s.fn H (ds++gs)).vars pv)
  (hps:before=pa++pv) (hb:Below W.heap.size W W')
  (bM:∀(j:Nat) (t:TypeId) (r:Value),f.resultTypes[j]?=some t→(v.resultList f.resultTypes.size)[j]?=some r→Value.okWide P W' .any 0 t r) :
  s.post enc P f apart fresh UR again W args v W':=by
 have aI:∀p∈before,p.block<W.heap.size:=fun p hp=>hW.lt p hp;have hold:∀p∈before,(fun b=>decide (b<W.heap.size)) p.block=true:=fun p hp=>by simpa using aI p hp
 refine⟨ds,gs,before,[],pa,pv,hW,CR _ _ _,Rs _ hold,CP _ hold,World.keptBut_mono (fun p hp=>⟨hp,?_⟩) (hb.frame (· ∈ before)),fun _=>?_⟩
 ·rw[hps,List.mem_append] at hp;exact Or.inr hp
 obtain⟨_,_,_,_,_,hz,hn⟩:=hW;refine⟨bM,_,_,([]++pa)++pv,⟨[]++pa,pv,trodAll_append (Rs _ (fun _ _=>rfl)) (CR _ _ _),CP _ (fun _ _=>rfl),rfl,?_,?_⟩,?_⟩
 ·intro b off hp;have Jy:MemPlace.cell b off∈before:=by rw[hps];simpa using hp
  rw[hb.frozen (aI _ Jy)];exact hz b off Jy
 ·intro ha
  have:=hn ha;rw[hps] at this;simpa using this
 intro p hp _;rw[hps];simpa using hp
theorem sS {W:World} {base:Nat} {sp:Nat→Bool} {held:Bool}:∀ {ts:List TypeId} {vs:List Value} {ds:List (DataW H)} {ps:List MemPlace},DataW.TrodAll enc P W base sp held ts vs ds ps→ds.length=ts.length
 | [],[],[],_,_=>rfl
 | _::ts,_::vs,_::ds,_,⟨_,_,_,h2,_⟩=>by rw[List.length_cons,List.length_cons,sS h2]
theorem xG (hl:laidOutB P=true) {W W':World} {sp:Nat→Bool} (hb:Below W.heap.size W W'):∀ {ts:List TypeId} {vs:List Value} {ds:List (DataW H)} {ps:List MemPlace},
  (∀t∈ts,P.readableRec t=true∧t<P.types.size)→DataW.TrodAll enc P W 0 (fun _=>true) true ts vs ds ps→(∀p∈ps,p.block<W.heap.size)→(∀p∈ps,sp p.block=true)→DataW.TrodAll enc P W' 0 sp true ts vs ds ps
 | [],[],[],_,_,h,_,_=>h
 | t::_,_::_,_::_,_,ht,⟨p,q,h1,h2,e⟩,aI,hs=>⟨p,q,
   WideElems.Trod_stays hl (ht t List.mem_cons_self).1 (ht t List.mem_cons_self).2 h1 (fun x hx=>hb.same (aI x (by rw[e];exact List.mem_append_left _ hx))) (fun x hx=>hs x (by rw[e];exact List.mem_append_left _ hx)),
   xG hl hb (fun t ht'=>ht t (List.mem_cons_of_mem _ ht')) h2 (fun x hx=>aI x (by rw[e];exact List.mem_append_right _ hx)) (fun x hx=>hs x (by rw[e];exact List.mem_append_right _ hx)),e⟩
end
theorem CH {QJ:List (String×DataW Unit)} {K:FuncId} {fn:Func} {s:ChangeSpec} {H:Type} {enc:TypeId×Value→H} {os:Os} (started:os.Started) (qx0:Tryz.prog.inits.idxOf? K=none) (Ae:Tryz.prog.funcs[K]?=some fn)
  (CP:s.vars=[]) (CR:fn.resultTypes=#[4]) (hrd:∀t∈fn.params.toList,Tryz.prog.readableRec t=true∧t<Tryz.prog.types.size)
  (qjn:∀ds:List (DataW H),ds.length=fn.params.size→(s.fn H ds).results=[.lit (.bool true)]∧(s.fn H ds).args=ds∧(s.fn H ds).vars=[])
  (witness:∃(w:World) (tape:Tape) (i:Input),w.os=os∧(w.forCall tape i).Shaped Tryz.prog∧i.vars=[]∧Input.okWide Tryz.prog (w.forCall tape i) .any w.heap.size K i ∧
   ((s.pre enc Tryz.prog fn [] false (w.forCall tape i).memory i.args∧laidMetH Tryz.prog QJ (w.forCall tape i).memory)∧sizedMet enc Tryz.prog fn (OpenSpec.ofChange s) false (w.forCall tape i).memory i.args)∧({}:Assume).holds Tryz.prog (lone (Frame.enter Tryz.prog K i.args .normal) [] (w.forCall tape i)))
  (call:∀(W:World) (base:Nat) (args:Array Value) (ds:List (DataW H)) (ps:List MemPlace),(∀(j:Nat) t v,fn.params[j]?=some t→args[j]?=some v→Value.okWide Tryz.prog W .any base t v) →
   DataW.TrodAll enc Tryz.prog W 0 (fun _=>true) true fn.params.toList args.toList ds ps→Calls Tryz.prog K args W fun e W'=>e=.returned (.bool true)∧Below W.heap.size W W') :
  ReturnsInHanded {} Tryz.checked os K .any (fun w args=>(s.pre enc Tryz.prog fn [] false w args∧laidMetH Tryz.prog QJ w)∧sizedMet enc Tryz.prog fn (OpenSpec.ofChange s) false w args) (s.post enc Tryz.prog fn false true false false):=by
 refine returnsInHanded_of_change_and (C:=Tryz.checked) (X:=fun w _=>laidMetH Tryz.prog QJ w) (fun _ _ _ hh h=>h.of_heap hh) Tryz.own started qx0 Ae witness ?_;intro W base args ds gs before QT hW _ _ _ _;have hW':=hW;obtain⟨p,q,hA,hV,rfl,xV,hnd⟩:=hW;rw[CP] at hV;obtain⟨rfl,rfl⟩:=trodVars_none hV;rw[List.append_nil] at hW';have dD:ds.length=fn.params.size:=by rw[sS hA,Array.length_toList]
 obtain⟨e1,e2,e3⟩:=qjn ds dD;refine (call W base args ds p QT hA).mono fun e W' ⟨he,hb⟩=>?_;subst he;have aI:∀x∈p,x.block<W.heap.size:=fun x hx=>hW'.lt x hx;refine⟨_,rfl,wW (pa:=p) (pv:=[]) hW' (fun _ _ _=>?_) (fun sp hsp=>?_) (fun _ _=>?_) (by simp) hb ?_⟩
 ·rw[List.append_nil,e1,CR];exact trodAll_mk1 (shut_bool Tryz.underlying4 _)
 ·rw[List.append_nil,e2];exact xG Tryz.laidOut hb hrd hA aI hsp
 ·rw[List.append_nil,e3,CP];rfl
 exact ok_one CR rfl (okWide_bool_mk Tryz.underlying4 _)
open Go.RowKit Go.Shelf Go.ChangeShapes Go.WideShapes Go.Deep
theorem Xv {α:Type}:∀ {cs:List α},cs.length=3→∃a b c,cs=[a,b,c]
 | [a,b,c],_=>⟨a,b,c,rfl⟩
theorem Xu {α:Type}:∀ {cs:List α},cs.length=7→∃a b c d e f g,cs=[a,b,c,d,e,f,g]
 | [a,b,c,d,e,f,g],_=>⟨a,b,c,d,e,f,g,rfl⟩
theorem QE {α:Type}:∀ {cs:List α},cs.length=13→∃a0 a1 a2 a3 a4 a5 a6 a7 a8 a9 a10 a11 a12,cs=[a0,a1,a2,a3,a4,a5,a6,a7,a8,a9,a10,a11,a12]
 | [a0,a1,a2,a3,a4,a5,a6,a7,a8,a9,a10,a11,a12],_=>⟨a0,a1,a2,a3,a4,a5,a6,a7,a8,a9,a10,a11,a12,rfl⟩
theorem JA {α:Type} (f:α→List Value) (k:Nat) (hk:0<k) (hf:∀x,(f x).length=k) (l:List α) (x:Nat) (u:Value) (hu:(l.flatMap f)[x]?=some u):∃(hj:x/k<l.length),(f l[x/k])[x%k]?=some u:=by
 have dD:(l.flatMap f).length=l.length*k:=by
  clear hu
  induction l with
  | nil=>simp
  | cons t l ih=>rw[List.flatMap_cons,yR,ih,hf,List.length_cons,Nat.succ_mul];omega
 have hx:=(List.getElem?_eq_some_iff.1 hu).1;rw[dD] at hx;have hj:x/k<l.length:=by rw[Nat.div_lt_iff_lt_mul hk];exact hx
 refine⟨hj,?_⟩;rw[←uk f k hf l (x/k) (x%k) hj (YJ _ hk),Nat.div_add_mod' x k];exact hu
section
variable {H:Type} {enc:TypeId×Value→H} {w:World} {base:Nat} {spare:Nat→Bool} {held:Bool}
theorem xc {fuel:Nat} {v:Value} {x:DataW H×List MemPlace} (h:DataW.trod enc Tryz.prog w base spare held fuel 33 [v]=some x) :
  ∃(s:List Int) (A:Option Addr) (c:Nat),v=.slice A s.length c∧ct w w.heap.size v s:=by
 rcases open_slice1 Tryz.underlying33 (by kernel_rfl) h with⟨oR,-⟩|⟨a,len,cap,m,n,V,D,Pl,oR,_,hl,hm,hmm,-,hi⟩
 ·obtain rfl:v=.slice none 0 0:=by simpa using oR
  exact⟨[],none,0,rfl,none,0,rfl,yA _,yI _,fun h=>absurd h (by simp)⟩
 obtain rfl:v=.slice (some a) len cap:=by simpa using oR
 have iD:len≤m:=by rw[hmm];split <;> omega
 have each:∀i,i<len→∃z:Int,w.cell? (a.add i)=some (.int .i64 z):=fun i ta=>by
  obtain⟨h1,h2⟩:=hi i (by omega);obtain⟨z,hz,-⟩:=bu h2;exact⟨z,by rw[h1,hz]⟩
 obtain⟨Z,hZ⟩:=choose_lt each;have hL:((List.range len).map Z).length=len:=by simp
 refine⟨(List.range len).map Z,some a,cap,by rw[hL],some a,cap,by rw[hL],by rw[hL];exact hl,hm,fun hn=>?_⟩;rw[hL] at hn;obtain⟨b,off,sp⟩:=a;have h0:=hZ 0 hn;obtain rfl:=rP h0;have aI:b<w.heap.size:=by simpa[lN] using AE h0
 refine⟨b,off,rfl,aI,fun j u hu=>?_⟩;rw[YC,Option.map_eq_some_iff] at hu;obtain⟨z,hz,rfl⟩:=hu;have hj:j<len:=by have:=(List.getElem?_eq_some_iff.1 hz).1;simpa using this
 have hz':Z j=z:=by simpa[hj] using hz
 have:=hZ j hj;rw[lN,hz'] at this;exact this
instance:Inhabited ItemT:=⟨⟨⟨#[]⟩,0,0,0,0,0,0⟩⟩
theorem xa {fuel:Nat} {v:Value} {x:DataW H×List MemPlace} (h:DataW.trod enc Tryz.prog w base spare held fuel 34 [v]=some x) :
  ∃(l:List ItemT) (A:Option Addr) (c:Nat),v=.slice A l.length c∧Flat w w.heap.size v l.length (l.flatMap ItemT.cells)∧∀t∈l,t.name.size≤maxLen:=by
 rcases open_slice Tryz.underlying34 h with⟨oR,-⟩|⟨a,len,cap,m,n,D,Pl,oR,_,hl,hm,hmm,-,hi⟩
 ·obtain rfl:v=.slice none 0 0:=by simpa using oR
  exact⟨[],none,0,rfl,⟨none,0,rfl,yA _,yI _,fun h=>absurd h (by simp)⟩,by simp⟩
 obtain rfl:v=.slice (some a) len cap:=by simpa using oR
 have iD:len≤m:=by rw[hmm];split <;> omega
 have hC:Tryz.prog.cellsOf 125=7:=by kernel_rfl
 rw[hC] at hi;have each:∀i,i<len→∃t:ItemT,(∀k u,t.cells[k]?=some u→w.cell? (a.add (i*7+k))=some u)∧t.name.size≤maxLen:=fun i ta=>by
  obtain⟨cs,hc,ht⟩:=hi i (by omega);obtain⟨ys,n',hn',hy,dD,QQ,hf⟩:=DataW.trod_struct Tryz.underlying125 ht;obtain⟨_,dR,Ex⟩:=World.cells?_some hc;obtain⟨c0,c1,c2,c3,c4,c5,c6,rfl⟩:=Xu dR;obtain⟨y0,y1,y2,y3,y4,y5,y6,rfl⟩:=Xu QQ;have g0:DataW.trod enc Tryz.prog w base spare held n' 9 (List.take (Tryz.prog.cellsOf 9) (List.drop 0 [c0,c1,c2,c3,c4,c5,c6]))=some y0:=hf 0 _ rfl;have g1:DataW.trod enc Tryz.prog w base spare held n' 3 (List.take (Tryz.prog.cellsOf 3) (List.drop 1 [c0,c1,c2,c3,c4,c5,c6]))=some y1:=hf 1 _ rfl
  have g2:DataW.trod enc Tryz.prog w base spare held n' 3 (List.take (Tryz.prog.cellsOf 3) (List.drop 2 [c0,c1,c2,c3,c4,c5,c6]))=some y2:=hf 2 _ rfl;have g3:DataW.trod enc Tryz.prog w base spare held n' 3 (List.take (Tryz.prog.cellsOf 3) (List.drop 3 [c0,c1,c2,c3,c4,c5,c6]))=some y3:=hf 3 _ rfl;have g4:DataW.trod enc Tryz.prog w base spare held n' 3 (List.take (Tryz.prog.cellsOf 3) (List.drop 4 [c0,c1,c2,c3,c4,c5,c6]))=some y4:=hf 4 _ rfl
  have g5:DataW.trod enc Tryz.prog w base spare held n' 3 (List.take (Tryz.prog.cellsOf 3) (List.drop 5 [c0,c1,c2,c3,c4,c5,c6]))=some y5:=hf 5 _ rfl;have g6:DataW.trod enc Tryz.prog w base spare held n' 3 (List.take (Tryz.prog.cellsOf 3) (List.drop 6 [c0,c1,c2,c3,c4,c5,c6]))=some y6:=hf 6 _ rfl;rw[show Tryz.prog.cellsOf 9=1 from by kernel_rfl] at g0;rw[show Tryz.prog.cellsOf 3=1 from by kernel_rfl] at g1
  rw[show Tryz.prog.cellsOf 3=1 from by kernel_rfl] at g2;rw[show Tryz.prog.cellsOf 3=1 from by kernel_rfl] at g3;rw[show Tryz.prog.cellsOf 3=1 from by kernel_rfl] at g4;rw[show Tryz.prog.cellsOf 3=1 from by kernel_rfl] at g5;rw[show Tryz.prog.cellsOf 3=1 from by kernel_rfl] at g6;obtain⟨f0,rfl,lR⟩:=nk (v:=c0) g0;obtain⟨f1,rfl,-⟩:=bu (v:=c1) g1;obtain⟨f2,rfl,-⟩:=bu (v:=c2) g2;obtain⟨f3,rfl,-⟩:=bu (v:=c3) g3
  obtain⟨f4,rfl,-⟩:=bu (v:=c4) g4;obtain⟨f5,rfl,-⟩:=bu (v:=c5) g5;obtain⟨f6,rfl,-⟩:=bu (v:=c6) g6;refine⟨⟨f0,f1,f2,f3,f4,f5,f6⟩,fun k u hk=>?_,lR⟩;have X0:k<7:=(List.getElem?_eq_some_iff.1 hk).1;rw[←add_add,Ex k X0];exact hk
 obtain⟨T,hT⟩:=choose_lt each;have hL:((List.range len).map T).length=len:=by simp
 refine⟨(List.range len).map T,some a,cap,by rw[hL],⟨some a,cap,by rw[hL],by rw[hL];exact hl,hm,fun hn=>?_⟩,fun t ht=>?_⟩
 ·rw[hL] at hn;obtain⟨b,off,sp⟩:=a;have h0:=(hT 0 hn).1 0 _ rfl;obtain rfl:=rP h0;have aI:b<w.heap.size:=by simpa[lN] using AE h0
  refine⟨b,off,rfl,aI,fun j u hu=>?_⟩;obtain⟨hj,Mm⟩:=JA ItemT.cells 7 (by decide) (fun _=>rfl) _ _ _ hu;rw[hL] at hj
  have:=(hT _ hj).1 (j%7) u (by simpa using Mm);rw[lN,Nat.div_add_mod' j 7] at this;exact this
 simp only[List.mem_map,List.mem_range] at ht;obtain⟨i,hi,rfl⟩:=ht;exact (hT i hi).2
instance:Inhabited BrickT:=⟨⟨⟨#[]⟩,0,0⟩⟩
theorem wB {fuel:Nat} {v:Value} {x:DataW H×List MemPlace} (h:DataW.trod enc Tryz.prog w base spare held fuel 35 [v]=some x) :
  ∃(l:List BrickT) (A:Option Addr) (c:Nat),v=.slice A l.length c∧Flat w w.heap.size v l.length (l.flatMap BrickT.cells)∧∀t∈l,t.name.size≤maxLen:=by
 rcases open_slice Tryz.underlying35 h with⟨oR,-⟩|⟨a,len,cap,m,n,D,Pl,oR,_,hl,hm,hmm,-,hi⟩
 ·obtain rfl:v=.slice none 0 0:=by simpa using oR
  exact⟨[],none,0,rfl,⟨none,0,rfl,yA _,yI _,fun h=>absurd h (by simp)⟩,by simp⟩
 obtain rfl:v=.slice (some a) len cap:=by simpa using oR
 have iD:len≤m:=by rw[hmm];split <;> omega
 have hC:Tryz.prog.cellsOf 127=3:=by kernel_rfl
 rw[hC] at hi;have each:∀i,i<len→∃t:BrickT,(∀k u,t.cells[k]?=some u→w.cell? (a.add (i*3+k))=some u)∧t.name.size≤maxLen:=fun i ta=>by
  obtain⟨cs,hc,ht⟩:=hi i (by omega);obtain⟨ys,n',hn',hy,dD,QQ,hf⟩:=DataW.trod_struct Tryz.underlying127 ht;obtain⟨_,dR,Ex⟩:=World.cells?_some hc;obtain⟨c0,c1,c2,rfl⟩:=Xv dR;obtain⟨y0,y1,y2,rfl⟩:=Xv QQ;have g0:DataW.trod enc Tryz.prog w base spare held n' 9 (List.take (Tryz.prog.cellsOf 9) (List.drop 0 [c0,c1,c2]))=some y0:=hf 0 _ rfl;have g1:DataW.trod enc Tryz.prog w base spare held n' 3 (List.take (Tryz.prog.cellsOf 3) (List.drop 1 [c0,c1,c2]))=some y1:=hf 1 _ rfl
  have g2:DataW.trod enc Tryz.prog w base spare held n' 3 (List.take (Tryz.prog.cellsOf 3) (List.drop 2 [c0,c1,c2]))=some y2:=hf 2 _ rfl;rw[show Tryz.prog.cellsOf 9=1 from by kernel_rfl] at g0;rw[show Tryz.prog.cellsOf 3=1 from by kernel_rfl] at g1;rw[show Tryz.prog.cellsOf 3=1 from by kernel_rfl] at g2;obtain⟨f0,rfl,lR⟩:=nk (v:=c0) g0;obtain⟨f1,rfl,-⟩:=bu (v:=c1) g1;obtain⟨f2,rfl,-⟩:=bu (v:=c2) g2
  refine⟨⟨f0,f1,f2⟩,fun k u hk=>?_,lR⟩;have X0:k<3:=(List.getElem?_eq_some_iff.1 hk).1;rw[←add_add,Ex k X0];exact hk
 obtain⟨T,hT⟩:=choose_lt each;have hL:((List.range len).map T).length=len:=by simp
 refine⟨(List.range len).map T,some a,cap,by rw[hL],⟨some a,cap,by rw[hL],by rw[hL];exact hl,hm,fun hn=>?_⟩,fun t ht=>?_⟩
 ·rw[hL] at hn;obtain⟨b,off,sp⟩:=a;have h0:=(hT 0 hn).1 0 _ rfl;obtain rfl:=rP h0;have aI:b<w.heap.size:=by simpa[lN] using AE h0
  refine⟨b,off,rfl,aI,fun j u hu=>?_⟩;obtain⟨hj,Mm⟩:=JA BrickT.cells 3 (by decide) (fun _=>rfl) _ _ _ hu;rw[hL] at hj
  have:=(hT _ hj).1 (j%3) u (by simpa using Mm);rw[lN,Nat.div_add_mod' j 3] at this;exact this
 simp only[List.mem_map,List.mem_range] at ht;obtain⟨i,hi,rfl⟩:=ht;exact (hT i hi).2
theorem BK {fuel:Nat} {cs:List Value} {x:DataW H×List MemPlace} (dD:cs.length=13) (h:DataW.trod enc Tryz.prog w base spare held fuel 37 cs=some x) :
  ∃s,SetAt w w.heap.size (.agg cs.toArray) s∧SetNames s:=by
 obtain⟨ys,n',hn',hy,qjw,QQ,hf⟩:=DataW.trod_struct Tryz.underlying37 h;obtain⟨c0,c1,c2,c3,c4,c5,c6,c7,c8,c9,JM,Bh,JL,rfl⟩:=QE dD;obtain⟨y0,y1,y2,y3,y4,y5,y6,y7,y8,y9,y10,y11,y12,rfl⟩:=QE QQ;have g0:DataW.trod enc Tryz.prog w base spare held n' 9 (List.take (Tryz.prog.cellsOf 9) (List.drop 0 [c0,c1,c2,c3,c4,c5,c6,c7,c8,c9,JM,Bh,JL]))=some y0:=hf 0 _ rfl;have g1:DataW.trod enc Tryz.prog w base spare held n' 3 (List.take (Tryz.prog.cellsOf 3) (List.drop 1 [c0,c1,c2,c3,c4,c5,c6,c7,c8,c9,JM,Bh,JL]))=some y1:=hf 1 _ rfl
 have g2:DataW.trod enc Tryz.prog w base spare held n' 3 (List.take (Tryz.prog.cellsOf 3) (List.drop 2 [c0,c1,c2,c3,c4,c5,c6,c7,c8,c9,JM,Bh,JL]))=some y2:=hf 2 _ rfl;have g3:DataW.trod enc Tryz.prog w base spare held n' 3 (List.take (Tryz.prog.cellsOf 3) (List.drop 3 [c0,c1,c2,c3,c4,c5,c6,c7,c8,c9,JM,Bh,JL]))=some y3:=hf 3 _ rfl;have g4:DataW.trod enc Tryz.prog w base spare held n' 3 (List.take (Tryz.prog.cellsOf 3) (List.drop 4 [c0,c1,c2,c3,c4,c5,c6,c7,c8,c9,JM,Bh,JL]))=some y4:=hf 4 _ rfl
 have g5:DataW.trod enc Tryz.prog w base spare held n' 33 (List.take (Tryz.prog.cellsOf 33) (List.drop 5 [c0,c1,c2,c3,c4,c5,c6,c7,c8,c9,JM,Bh,JL]))=some y5:=hf 5 _ rfl;have g6:DataW.trod enc Tryz.prog w base spare held n' 3 (List.take (Tryz.prog.cellsOf 3) (List.drop 6 [c0,c1,c2,c3,c4,c5,c6,c7,c8,c9,JM,Bh,JL]))=some y6:=hf 6 _ rfl;have g7:DataW.trod enc Tryz.prog w base spare held n' 3 (List.take (Tryz.prog.cellsOf 3) (List.drop 7 [c0,c1,c2,c3,c4,c5,c6,c7,c8,c9,JM,Bh,JL]))=some y7:=hf 7 _ rfl
 have g8:DataW.trod enc Tryz.prog w base spare held n' 3 (List.take (Tryz.prog.cellsOf 3) (List.drop 8 [c0,c1,c2,c3,c4,c5,c6,c7,c8,c9,JM,Bh,JL]))=some y8:=hf 8 _ rfl;have g9:DataW.trod enc Tryz.prog w base spare held n' 3 (List.take (Tryz.prog.cellsOf 3) (List.drop 9 [c0,c1,c2,c3,c4,c5,c6,c7,c8,c9,JM,Bh,JL]))=some y9:=hf 9 _ rfl;have Lr:DataW.trod enc Tryz.prog w base spare held n' 3 (List.take (Tryz.prog.cellsOf 3) (List.drop 10 [c0,c1,c2,c3,c4,c5,c6,c7,c8,c9,JM,Bh,JL]))=some y10:=hf 10 _ rfl
 have g11:DataW.trod enc Tryz.prog w base spare held n' 34 (List.take (Tryz.prog.cellsOf 34) (List.drop 11 [c0,c1,c2,c3,c4,c5,c6,c7,c8,c9,JM,Bh,JL]))=some y11:=hf 11 _ rfl;have g12:DataW.trod enc Tryz.prog w base spare held n' 35 (List.take (Tryz.prog.cellsOf 35) (List.drop 12 [c0,c1,c2,c3,c4,c5,c6,c7,c8,c9,JM,Bh,JL]))=some y12:=hf 12 _ rfl;rw[show Tryz.prog.cellsOf 9=1 from by kernel_rfl] at g0;rw[show Tryz.prog.cellsOf 3=1 from by kernel_rfl] at g1
 rw[show Tryz.prog.cellsOf 3=1 from by kernel_rfl] at g2;rw[show Tryz.prog.cellsOf 3=1 from by kernel_rfl] at g3;rw[show Tryz.prog.cellsOf 3=1 from by kernel_rfl] at g4;rw[show Tryz.prog.cellsOf 33=1 from by kernel_rfl] at g5;rw[show Tryz.prog.cellsOf 3=1 from by kernel_rfl] at g6;rw[show Tryz.prog.cellsOf 3=1 from by kernel_rfl] at g7;rw[show Tryz.prog.cellsOf 3=1 from by kernel_rfl] at g8;rw[show Tryz.prog.cellsOf 3=1 from by kernel_rfl] at g9
 rw[show Tryz.prog.cellsOf 3=1 from by kernel_rfl] at Lr;rw[show Tryz.prog.cellsOf 34=1 from by kernel_rfl] at g11;rw[show Tryz.prog.cellsOf 35=1 from by kernel_rfl] at g12;obtain⟨f0,rfl,lR⟩:=nk (v:=c0) g0;obtain⟨f1,rfl,-⟩:=bu (v:=c1) g1;obtain⟨f2,rfl,-⟩:=bu (v:=c2) g2;obtain⟨f3,rfl,-⟩:=bu (v:=c3) g3;obtain⟨f4,rfl,-⟩:=bu (v:=c4) g4;obtain⟨f5,Al,cl,rfl,hL⟩:=xc (v:=c5) g5;obtain⟨f6,rfl,-⟩:=bu (v:=c6) g6
 obtain⟨f7,rfl,-⟩:=bu (v:=c7) g7;obtain⟨f8,rfl,-⟩:=bu (v:=c8) g8;obtain⟨f9,rfl,-⟩:=bu (v:=c9) g9;obtain⟨f10,rfl,-⟩:=bu (v:=JM) Lr;obtain⟨f11,Ai,ci,rfl,hI,hIn⟩:=xa (v:=Bh) g11;obtain⟨f12,Ab,cb,rfl,hB,hBn⟩:=wB (v:=JL) g12;exact⟨⟨f0,f1,f2,f3,f4,f5,f6,f7,f8,f9,f10,f11,f12⟩,⟨Al,cl,Ai,ci,Ab,cb,rfl,hL,hI,hB⟩,⟨lR,hIn,hBn⟩⟩
end
theorem Xs {α:Type}:∀ {cs:List α},cs.length=2→∃a b,cs=[a,b]
 | [a,b],_=>⟨a,b,rfl⟩
section
variable {H:Type} {enc:TypeId×Value→H} {w:World} {base:Nat} {spare:Nat→Bool} {held:Bool}
theorem Av {fuel:Nat} {cs:Array Value} {x:DataW H×List MemPlace} (dD:cs.size=2) (h:DataW.trod enc Tryz.prog w base spare held fuel 23 (Value.agg cs).cells.toList=some x) :
  ∃t:FrT,Value.agg cs=t.val:=by
 obtain⟨l⟩:=cs;have h':DataW.trod enc Tryz.prog w base spare held fuel 23 l=some x:=h;obtain⟨ys,n',hn',hy,qjw,QQ,hf⟩:=DataW.trod_struct Tryz.underlying23 h';obtain⟨c0,c1,rfl⟩:=Xs (show l.length=2 from dD);obtain⟨y0,y1,rfl⟩:=Xs QQ;have g0:DataW.trod enc Tryz.prog w base spare held n' 3 (List.take (Tryz.prog.cellsOf 3) (List.drop 0 [c0,c1]))=some y0:=hf 0 _ rfl;have g1:DataW.trod enc Tryz.prog w base spare held n' 3 (List.take (Tryz.prog.cellsOf 3) (List.drop 1 [c0,c1]))=some y1:=hf 1 _ rfl
 rw[show Tryz.prog.cellsOf 3=1 from by kernel_rfl] at g0;rw[show Tryz.prog.cellsOf 3=1 from by kernel_rfl] at g1;obtain⟨f0,rfl,-⟩:=bu (v:=c0) g0;obtain⟨f1,rfl,-⟩:=bu (v:=c1) g1;exact⟨⟨f0,f1⟩,rfl⟩
end
