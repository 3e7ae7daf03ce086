/- Lemmas. -/
import Derived.Test.YtknkhnahflmjiaaGreatDoorV4
import Derived.Test.YtknkhnahflmjiaaGreatDoorV6
namespace Go.Proofs.YtknkhnahflmjiaaGreatDoor
set_option maxRecDepth 100000
set_option maxHeartbeats 40000000
open Go.RowKit Go.Shelf
section
variable {P:Program} {ops:Array Oper} {W:World} {Φ:Nat→Option GPost}
theorem ay {K:Act→aV→Prop} {k:Nat} {o:Oper} {r:List Oper} {a:Act} {F:aV} (hw:Region.wanted o (yielded ops a.tmps)=true) (hs:rO o=true) (hΦ:Φ k=none)
  (h:wpQuiet P ops (fun w'=>∃x:HeldB W,w'=x.w) (fun a'=>tA P ops W Φ K (k+1) r a' (iC F o.dst (kF ops o F))) [o] a):tA P ops W Φ K k (o::r) a F:=by
 simp only[wpQuiet] at h;rw[if_pos hw] at h;obtain⟨v,hq,h⟩:=h;show cj P ops W o (Φ k) _ a F;unfold cj;rw[if_pos hw,hΦ];exact⟨v,xN (fun w hw=>⟨⟨w,hw⟩,rfl⟩) hs hq,h⟩
theorem wZ {o:Oper} {c x y:Operand} (ho:o.op=.pick c x y) {ρ:Operand→Value} {w w':World} {f:FuncId} {args:Array Value}:(execOp ρ o).run P w ≠ .ok (.enter f args) w':=by
 intro h;unfold execOp at h;rw[ho] at h;dsimp only at h
 rw[Sem.run_bind] at h
 cases hs:(asBool (ρ c)).run P w with
 | ok b w2=>
  rw[hs] at h;simp only[Result.andThen,Sem.run_pure] at h;injection h with h1 _;cases h1
 | halt x w2=>
  rw[hs] at h;simp only[Result.andThen] at h;cases h
theorem aM {K:Act→aV→Prop} {k:Nat} {o:Oper} {c x y:Operand} {r:List Oper} {a:Act} {F:aV} (ho:o.op=.pick c x y) (hw:Region.wanted o (yielded ops a.tmps)=true) (hΦ:Φ k=none)
  (h:wpQuiet P ops (fun w'=>∃x:HeldB W,w'=x.w) (fun a'=>tA P ops W Φ K (k+1) r a' (iC F o.dst (kF ops o F))) [o] a):tA P ops W Φ K k (o::r) a F:=by
 simp only[wpQuiet] at h;rw[if_pos hw] at h;obtain⟨v,hq,h⟩:=h;show cj P ops W o (Φ k) _ a F;unfold cj;rw[if_pos hw,hΦ];refine⟨v,fun w hb=>?_,h⟩;have h1:=hq w ⟨⟨w,hb⟩,rfl⟩;have h2:=fun f args w'=>wZ (P:=P) ho (ρ:=a.eval) (w:=w) (w':=w') (f:=f) (args:=args);unfold Oper.quietAt at h1;generalize (execOp a.eval o).run P w=q at*
 cases q with
 | ok n w'=>
  cases n <;> simp only[Oper.quietUpon] at h1
  case value u=>exact h1
  case skip=>exact h1
  case enter f args=>exact absurd rfl (h2 f args w')
 | halt x w'=>simp only[Oper.quietUpon] at h1
theorem jF {K:Act→aV→Prop} {k:Nat} {o:Oper} {r:List Oper} {a:Act} {F:aV} {φ:GPost} (hw:Region.wanted o (yielded ops a.tmps)=true) (hφ:Φ k=some φ)
  (h:∀w,Below W.heap.size W w→kF ops o F w→oI P o a φ w) (hK:∀v,φ.σ v→tA P ops W Φ K (k+1) r (a.put o.dst v) (iC F o.dst (φ.φ v))) (hfr:φ.fr=false:=by rfl):tA P ops W Φ K k (o::r) a F:=by
 show cj P ops W o (Φ k) _ a F;unfold cj;rw[if_pos hw,hφ];exact⟨fun w h1 h2=>.inl ⟨hfr,h w h1 h2⟩,hK⟩
theorem By {K:Act→aV→Prop} {k:Nat} {o:Oper} {r:List Oper} {a:Act} {F:aV} {φ:GPost} (hw:Region.wanted o (yielded ops a.tmps)=true) (hφ:Φ k=some φ)
  (h:∀w,Below W.heap.size W w→kF ops o F w→jv P o a φ w) (hK:∀v,φ.σ v→tA P ops W Φ K (k+1) r (a.put o.dst v) (iC F o.dst (φ.φ v))):tA P ops W Φ K k (o::r) a F:=by
 show cj P ops W o (Φ k) _ a F;unfold cj;rw[if_pos hw,hφ];exact⟨fun w h1 h2=>.inr (h w h1 h2),hK⟩
end
theorem CF {b:FrT} (hb:aj b=true):aj ⟨-b.num,b.den⟩=true∧aU ⟨-b.num,b.den⟩=-aU b:=by
 have h:=jy hb;have e:dM (-aU b)=⟨-b.num,b.den⟩:=by
  unfold dM;rw[Rat.neg_num,Rat.neg_den,h.1,h.2]
  have:=bB hb;congr 1
  omega
 have bM:aC (-aU b)=true:=by
  have:=bB hb;unfold aC;rw[Rat.neg_num,Rat.neg_den,h.1,h.2,Bool.and_eq_true,yP,yP];omega
 refine⟨by rw[←e];exact qa bM,by rw[←e,Up]⟩
theorem qzt (a b:FrT) (w:World) (ha:aj a=true) (hb:aj b=true) :
  Calls Tryz.prog 65 #[a.val,b.val] w fun e w'=>e=.returned (bQ (aU a-aU b))∧Below w.heap.size w w':=by
 have jA:=fun W=>gi a W;have Aa:=fun W=>gi b W;rw[ha] at jA;rw[hb] at Aa;obtain⟨n1,n2⟩:=CF hb;have hA:=fun W=>qzv a ⟨-b.num,b.den⟩ W ha n1;rw[n2,←Rat.sub_eq_add_neg] at hA;have jL:=bB hb;have v1:IntKind.i64.wrap (-b.num)=-b.num:=yF _ (by omega);obtain⟨fx,fy,fz,hf⟩:=cX (aU a-aU b);rw[hf] at hA⊢;clear ha hb n1 n2 jL hf;have HA:=zh hA;clear hA;obtain⟨an,ad⟩:=a;obtain⟨bn,bd⟩:=b;simp only at*;have D0:=((Blk.new w 23 #[.int .i64 an,.int .i64 ad]).alloc (.cells #[.int .i64 bn,.int .i64 bd] 23)).alloc (.cells #[.int .i64 0,.int .i64 0] 23)
 have D1:=(Blk.new (w.alloc (.cells #[.int .i64 an,.int .i64 ad] 23)) 23 #[.int .i64 bn,.int .i64 bd]).alloc (.cells #[.int .i64 0,.int .i64 0] 23);have D2:=Blk.new ((w.alloc (.cells #[.int .i64 an,.int .i64 ad] 23)).alloc (.cells #[.int .i64 bn,.int .i64 bd] 23)) 23 #[.int .i64 0,.int .i64 0];have hB:=(((yB _ w).alloc (yA _) (.cells #[.int .i64 an,.int .i64 ad] 23)).alloc (by simp) (.cells #[.int .i64 bn,.int .i64 bd] 23)).alloc (by simp;omega) (.cells #[.int .i64 0,.int .i64 0] 23)
 rw[show ((w.alloc (.cells #[.int .i64 an,.int .i64 ad] 23)).alloc (.cells #[.int .i64 bn,.int .i64 bd] 23)).heap.size=w.heap.size+1+1 by simp] at D2;rw[yZ] at D1;go_enter Tryz.func65,Tryz.ntmps65;go_wp2_with fail;generalize ((w.alloc (.cells #[.int .i64 an,.int .i64 ad] 23)).alloc (.cells #[.int .i64 bn,.int .i64 bd] 23)).alloc (.cells #[.int .i64 0,.int .i64 0] 23)=W1 at*;refine (jA W1).mono ?_;rintro e w2 ⟨rfl,bg⟩
 have D0:=D0.below bg D0.lt;have D1:=D1.below bg D1.lt;have D2:=D2.below bg D2.lt;have hB:=hB.trans (bg.mono hB.size);obtain⟨u0,u1⟩:=D1.c2;go_wp2_with fail;refine (Aa w2).mono ?_;rintro e w3 ⟨rfl,bZ⟩;clear u0 u1 jA Aa;have D0:=D0.below bZ D0.lt;have D1:=D1.below bZ D1.lt;have D2:=zh (D2.below bZ D2.lt);have HB:=zh (hB.trans (bZ.mono hB.size));have u0:=D0.cell 0;have u1:=D0.cell 1;have u2:=D1.cell 0
 have u3:=D1.cell 1;simp only[aB,aD,aA] at u0 u1 u2 u3;clear bg bZ hB D0 D1;go_wp2_with fail;refine (HA.o _).mono ?_;rintro e w4 ⟨rfl,bP⟩;have lO:=D2.o.below bP D2.o.lt;have fj:=HB.o.trans (bP.mono HB.o.size);clear u0 u1 u2 u3;have q0:=lO.cell 0;have f0:=lO.frozen 0;have E1:=(lO.set_ 0 (.int .i64 fx));have f1:=E1.frozen 1;have E2:=E1.set_ 1 (.int .i64 fy);have p0:=E2.cell 0;have p1:=E2.cell 1;have r1:=E1.cell 1
 simp only[aw,av,au,aB,aD,aA] at q0 p0 p1 r1;have dw:=zh ((fj.setCell (p:=⟨w.heap.size+1+1,0,none⟩) (by show w.heap.size≤w.heap.size+1+1;omega) (.int .i64 fx)).setCell (p:=⟨w.heap.size+1+1,1,none⟩) (by show w.heap.size≤w.heap.size+1+1;omega) (.int .i64 fy));clear lO fj E1 E2;go_wp2_with fail;refine YF (v:=.tuple #[.agg #[.int .i64 fx,.int .i64 fy],.int .i64 fz]) (by simp[results,Tryz.results65,go_sem,p0,p1]) rfl ?_
 exact⟨rfl,dw.o⟩
def bU (m:Int) (f a:FrT):Rat:=aU ⟨m,1⟩/aU f-aU a
def ck (m:Int) (f:FrT) (l:List FrT):List FrT:=l.map fun a=>dM (bU m f a)
def dG (s:SetT) (f:FrT):Int:=if bS s f=0 then (if aC (aU ⟨s.most,1⟩/aU f)=true then (if (ax s).all (fun a=>aC (bU s.most f a))=true then 0 else 5) else 5) else bS s f
def Spare23Post (s:SetT) (f:FrT) (w:World) (e:Ending) (w':World):Prop :=
 Below w.heap.size w w'∧((dG s f=0∧∃v,e=.returned (.tuple #[v,.int .i64 0])∧FrsAt w' w'.heap.size v (ck s.most f (ax s)))∨(dG s f≠0∧e=.returned (.tuple #[.slice none 0 0,.int .i64 (dG s f)])))
theorem qkX {G F:Nat→World→Prop} {R:Prop} (h2:(∀n w,F n w→G n w)→R) (h1:∀n w,F n w→G n w):R:=h2 h1
theorem re {q:Rat} {fx fy fz:Int} (h:bQ q=.tuple #[.agg #[.int .i64 fx,.int .i64 fy],.int .i64 fz]):(aC q=true→aj ⟨fx,fy⟩=true∧dM q=⟨fx,fy⟩∧fz=0)∧(aC q=false→fz=5):=by
 refine⟨fun hk=>?_,fun hk=>?_⟩
 ·have h2:=jY hk;rw[h] at h2;injection h2 with h2;injection h2 with h2;injection h2 with h3 h4;injection h3 with h3;injection h3 with h3;injection h3 with h5 h6;injection h5 with _ h5;injection h6 with h6 _;injection h6 with _ h6;injection h4 with h4 _;injection h4 with _ h4;have e:dM q=⟨fx,fy⟩:=by unfold dM;rw[h5,h6]
  exact⟨by rw[←e];exact qa hk,e,h4⟩
 have h2:=lG hk;rw[h] at h2;injection h2 with h2;injection h2 with h2;injection h2 with h3 h4;injection h4 with h4 _;injection h4 with _ h4
theorem Jl (v:Value) (s:SetT) (f:FrT) (w:World) (hv:SetAt w w.heap.size v s) (hn:SetNames s):Calls Tryz.prog 19 #[v,f.val] w (Spare23Post s f w):=by
 have Ei:=fun W (hb:Below w.heap.size w W)=>Jm v s f W ((hv.below hb (yA _)).mono hb.size) hn;obtain⟨Al,cl,Ai,ci,Ab,cb,rfl,-,-,-⟩:=hv;unfold kL at Ei;unfold Spare23Post;have xo:f.val=.agg #[.int .i64 f.num,.int .i64 f.den]:=rfl;have wK:Y0 (dG s f=if bS s f=0 then (if aC (aU ⟨s.most,1⟩/aU f)=true then (if (ax s).all (fun a=>aC (bU s.most f a))=true then 0 else 5) else 5) else bS s f):=rfl;have Ej:Y0 (bS s f=0→cA s=true∧ga f=0∧Zs s=0):=ug
 have El:Y0 (ga f=0→aj f=true∧f.den≤f.num∧f.num≤100∧f.den≤100):=JC;have pu:Y0 (Zs s=0→cA s=true∧(∀f∈ax s,aj f=true)∧(ax s).length≤12∧0<(ax s).length):=mo;generalize ax s=l at*;obtain⟨fn,Ae⟩:=zo (f.num);obtain⟨fd,Ha⟩:=zo (f.den);rw[Ae,Ha] at xo;rw[xo] at Ei⊢;have HD:=zh ((Blk.new w 37 (zA s Al cl Ai ci Ab cb)).alloc (.cells #[.int .i64 fn,.int .i64 fd] 23));have hE:=Blk.new (w.alloc (.cells (zA s Al cl Ai ci Ab cb) 37)) 23 #[.int .i64 fn,.int .i64 fd]
 rw[yZ] at hE;have HE:=zh hE;have cw:=zh (((yB _ w).alloc (yA _) (.cells (zA s Al cl Ai ci Ab cb) 37)).alloc (by simp) (.cells #[.int .i64 fn,.int .i64 fd] 23));have Li:=Ei _ cw.o;clear Ei hn hE;unfold dO at*;go_enter Tryz.func19,Tryz.ntmps19;go_upto_region 1 with fail;generalize (w.alloc (.cells (zA s Al cl Ai ci Ab cb) 37)).alloc (.cells #[.int .i64 fn,.int .i64 fd] 23)=W1 at*;have e0:=HE.o.cell 0
 have e1:=HE.o.cell 1;have z0:=HD.o.cell 0;have z1:=HD.o.cell 1;have z2:=HD.o.cell 2;have z3:=HD.o.cell 3;have z4:=HD.o.cell 4;have z5:=HD.o.cell 5;have z6:=HD.o.cell 6;have z7:=HD.o.cell 7;have z8:=HD.o.cell 8;have z9:=HD.o.cell 9;have fD:=HD.o.cell 10;have dN:=HD.o.cell 11;have fa:=HD.o.cell 12;simp only[aB,aD,aA] at e0 e1 z0 z1 z2 z3 z4 z5 z6 z7 z8 z9 fD dN fa;go_upto_region 2 with (first|(go_at_call 62;refine Li.mono ?_;rintro e w2 ⟨bg,⟨hG,v4,rfl,h4⟩|⟨hG,rfl⟩⟩))
 rotate_left
 ·have dV:=zh (cw.o.trans (bg.mono cw.o.size));have hc:dG s f=bS s f:=by rw[wK.o,if_neg hG]
  have Yj:Y0 (dG s f≠0):=by unfold Y0;rw[hc];exact hG
  have HC3:=zh hc;have CX:(bS s f != 0)=true:=bne_iff_ne.2 hG;generalize bS s f=k at*;clear Li bg hG hc wK Ej El HE HD cw e0 e1 z0 z1 z2 z3 z4 z5 z6 z7 z8 z9 fD dN fa pu;go_wp2_with fail;go_ret2;exact⟨dV.o,.inr ⟨Yj.o,by rw[HC3.o];rfl⟩⟩
 obtain⟨fJ,vL,iD⟩:=Ej.o hG;obtain⟨lD,lB⟩:=El.o vL;obtain⟨-,xk,GQ,-⟩:=pu.o iD;have iL:=(Zm fJ).most;have nK:(bS s f != 0)=false:=by rw[hG];rfl
 have Bt:Y0 (dG s f=if aC (aU ⟨s.most,1⟩/aU f)=true then (if l.all (fun a=>aC (bU s.most f a))=true then 0 else 5) else 5):=by unfold Y0;rw[wK.o,if_pos hG]
 rw[hG] at*;have dV:=zh (cw.o.trans (bg.mono cw.o.size));have cP:=zh (HD.o.below bg HD.o.lt);have gn:=zh (HE.o.below bg HE.o.lt);clear e0 e1 z0 z1 z2 z3 z4 z5 z6 z7 z8 z9 fD dN fa Li bg wK Ej El HD HE cw fJ vL iD nK;obtain⟨A,c,rfl,-,eH,dR⟩:=h4.open_;have Yi:=zh dR;unfold maxLen at eH;have Lj:=fun W=>Nt ⟨s.most,1⟩ f W (nR (by omega) (by omega)) lD (by have:=bB lD;omega);obtain⟨fx,fy,fz,vK⟩:=cX (aU ⟨s.most,1⟩/aU f)
 rw[vK] at Lj;have AY:=zh (re vK);have Me:Y0 (∀W,Calls Tryz.prog 50 #[.agg #[.int .i64 s.most,.int .i64 1],.agg #[.int .i64 fn,.int .i64 fd]] W fun e w'=>e=.returned (.tuple #[.agg #[.int .i64 fx,.int .i64 fy],.int .i64 fz])∧Below W.heap.size W w'):=fun W=>by
  have h:=Lj W;rw[xo] at h;exact h
 have HO:=zh fun W=>U3 s.most W;have Bl:Y0 (∀a,a∈l→aj ⟨fx,fy⟩=true→aU ⟨fx,fy⟩=aU ⟨s.most,1⟩/aU f→∀W,Calls Tryz.prog 65 #[.agg #[.int .i64 fx,.int .i64 fy],a.val] W fun e w'=>e=.returned (bQ (bU s.most f a))∧Below W.heap.size W w'):=fun a ha hg hq W=>by
  have h:=qzt ⟨fx,fy⟩ a W hg (xk a ha);rw[hq] at h;exact h
 have LX:Y0 (∀a,bU s.most f a=bU s.most f a):=fun _=>rfl;clear Lj vK xk h4 dR lD lB Ae Ha xo hG iL pu;go_upto_region 4 with fail;have kR:Y0 (w.heap.size<w2.heap.size):=cP.o.lt;have iB:Y0 (w.heap.size+1<w2.heap.size):=gn.o.lt;have fP:=zh (cP.o.cell 9);have mW:=zh (gn.o.cell 0);have fX:=zh (gn.o.cell 1);simp only[aB,aD,aA] at fP mW fX;apply qkX (F:=fun n9 w9=>Below w2.heap.size w2 w9∧w2.heap.size≤n9∧Blk w9 n9 23 #[.int .i64 fx,.int .i64 fy])
 ·intro key;have HQ:=zh ((yB w2.heap.size w2).drew);refine cI (fun i=>([.pointer (some ⟨w.heap.size,9,none⟩),.int .i64 s.most,undef,.agg #[.int .i64 fn,.int .i64 fd],undef,undef,undef,undef,undef,undef,undef]:List Value).getD i undef) [2,4,8,9] (by kernel_rfl) (by kernel_rfl) (by kernel_rfl) (by decide) ?_;generalize w2.drew=W3 at*;have b9:=(HQ.o.cell (p:=⟨w.heap.size,9,none⟩) kR.o).trans fP.o;have b0:=(HQ.o.cell (p:=⟨w.heap.size+1,0,none⟩) iB.o).trans mW.o
  have b1:=(HQ.o.cell (p:=⟨w.heap.size+1,1,none⟩) iB.o).trans fX.o;refine bW (L:=[2,4,8,9]) (az (bC rfl ?_) (az gp (az (bC rfl ?_) (az gp bV))))
  ·refine eE (HO.o _) [.pointer (some ⟨w.heap.size,9,none⟩),.int .i64 s.most,.agg #[.int .i64 s.most,.int .i64 1],.agg #[.int .i64 fn,.int .i64 fd],undef,undef,undef,undef,undef,undef,undef] ?_;intro w3 ft;have HQ:=zh (HQ.o.trans (ft.mono HQ.o.size));have b9:=(HQ.o.cell (p:=⟨w.heap.size,9,none⟩) kR.o).trans fP.o;have b0:=(HQ.o.cell (p:=⟨w.heap.size+1,0,none⟩) iB.o).trans mW.o;have b1:=(HQ.o.cell (p:=⟨w.heap.size+1,1,none⟩) iB.o).trans fX.o
   refine bW (L:=[4,8,9]) (az (bC rfl ?_) (az (bC rfl ?_) (az gp bV)))
   ·refine eE (Me.o _) [.pointer (some ⟨w.heap.size,9,none⟩),.int .i64 s.most,.agg #[.int .i64 s.most,.int .i64 1],.agg #[.int .i64 fn,.int .i64 fd],.tuple #[.agg #[.int .i64 fx,.int .i64 fy],.int .i64 fz],.tuple #[.agg #[.int .i64 fx,.int .i64 fy],.int .i64 fz],.agg #[.int .i64 fx,.int .i64 fy],.int .i64 fz,undef,undef,.int .i64 fz] ?_;intro w4 ez;have HQ:=zh (HQ.o.trans (ez.mono HQ.o.size));have b9:=(HQ.o.cell (p:=⟨w.heap.size,9,none⟩) kR.o).trans fP.o
    have b0:=(HQ.o.cell (p:=⟨w.heap.size+1,0,none⟩) iB.o).trans mW.o;have b1:=(HQ.o.cell (p:=⟨w.heap.size+1,1,none⟩) iB.o).trans fX.o;refine bW (L:=[8,9]) (az (bC rfl ?_) (az gp bV));have wV:=HQ;have rI:=HQ.o.size;have xj:=HQ.o.alloc rI (.cells #[.int .i64 0,.int .i64 0] 23);refine lu (w':=((w4.alloc (.cells #[.int .i64 0,.int .i64 0] 23)))) [.pointer (some ⟨w.heap.size,9,none⟩),.int .i64 s.most,.agg #[.int .i64 s.most,.int .i64 1],.agg #[.int .i64 fn,.int .i64 fd],.tuple #[.agg #[.int .i64 fx,.int .i64 fy],.int .i64 fz],.tuple #[.agg #[.int .i64 fx,.int .i64 fy],.int .i64 fz],.agg #[.int .i64 fx,.int .i64 fy],.int .i64 fz,.pointer (some ⟨w4.heap.size,0,none⟩),undef,.int .i64 fz] ?_
    have HQ:=zh xj;have b9:=(HQ.o.cell (p:=⟨w.heap.size,9,none⟩) kR.o).trans fP.o;have b0:=(HQ.o.cell (p:=⟨w.heap.size+1,0,none⟩) iB.o).trans mW.o;have b1:=(HQ.o.cell (p:=⟨w.heap.size+1,1,none⟩) iB.o).trans fX.o;refine bW (L:=[9]) (az (bC rfl ?_) bV);have cR:=zh (Blk.new w4 23 #[.int .i64 0,.int .i64 0]);have r0:=cR.o.cell 0;have f0:=cR.o.frozen 0;have r1:=(cR.o.set_ 0 (.int .i64 fx)).cell 1;have f1:=(cR.o.set_ 0 (.int .i64 fx)).frozen 1
    simp only[aw,av,aB,aD,aA] at r0 r1;refine du (w':=((w4.alloc (.cells #[.int .i64 fx,.int .i64 fy] 23)))) [.pointer (some ⟨w.heap.size,9,none⟩),.int .i64 s.most,.agg #[.int .i64 s.most,.int .i64 1],.agg #[.int .i64 fn,.int .i64 fd],.tuple #[.agg #[.int .i64 fx,.int .i64 fy],.int .i64 fz],.tuple #[.agg #[.int .i64 fx,.int .i64 fy],.int .i64 fz],.agg #[.int .i64 fx,.int .i64 fy],.int .i64 fz,.pointer (some ⟨w4.heap.size,0,none⟩),undef,.int .i64 fz] ?_
    refine fZ ?_;simp only[aY,Act.put,aw,av,au,];have dw:=zh (wV.o.alloc wV.o.size (.cells #[.int .i64 fx,.int .i64 fy] 23));have po:=zh wV.o.size;have iH:=zh (Blk.new w4 23 #[.int .i64 fx,.int .i64 fy]);generalize (w4.alloc (.cells #[.int .i64 fx,.int .i64 fy] 23))=w9 at dw iH⊢;generalize w4.heap.size=n9 at po iH⊢;exact key n9 w9 ⟨dw.o,po.o,iH.o⟩
   have rI:=HQ.o.size;have xj:=HQ.o.alloc rI (.cells #[.int .i64 0,.int .i64 0] 23);refine lu (w':=((w3.alloc (.cells #[.int .i64 0,.int .i64 0] 23)))) [.pointer (some ⟨w.heap.size,9,none⟩),.int .i64 s.most,.agg #[.int .i64 s.most,.int .i64 1],.agg #[.int .i64 fn,.int .i64 fd],undef,undef,undef,undef,.pointer (some ⟨w3.heap.size,0,none⟩),undef,undef] ?_;have HQ:=zh xj;have b9:=(HQ.o.cell (p:=⟨w.heap.size,9,none⟩) kR.o).trans fP.o
   have b0:=(HQ.o.cell (p:=⟨w.heap.size+1,0,none⟩) iB.o).trans mW.o;have b1:=(HQ.o.cell (p:=⟨w.heap.size+1,1,none⟩) iB.o).trans fX.o;have pq:=zh rI;have cR:=zh (Blk.new w3 23 #[.int .i64 0,.int .i64 0]);refine bW (L:=[4,9]) (az (bC rfl ?_) (az gp bV));refine eE (Me.o _) [.pointer (some ⟨w.heap.size,9,none⟩),.int .i64 s.most,.agg #[.int .i64 s.most,.int .i64 1],.agg #[.int .i64 fn,.int .i64 fd],.tuple #[.agg #[.int .i64 fx,.int .i64 fy],.int .i64 fz],.tuple #[.agg #[.int .i64 fx,.int .i64 fy],.int .i64 fz],.agg #[.int .i64 fx,.int .i64 fy],.int .i64 fz,.pointer (some ⟨w3.heap.size,0,none⟩),undef,.int .i64 fz] ?_
   intro w4 ez;have HQ:=zh (HQ.o.trans (ez.mono HQ.o.size));have b9:=(HQ.o.cell (p:=⟨w.heap.size,9,none⟩) kR.o).trans fP.o;have b0:=(HQ.o.cell (p:=⟨w.heap.size+1,0,none⟩) iB.o).trans mW.o;have b1:=(HQ.o.cell (p:=⟨w.heap.size+1,1,none⟩) iB.o).trans fX.o;have cR:=zh (cR.o.below ez cR.o.lt);refine bW (L:=[9]) (az (bC rfl ?_) bV);have r0:=cR.o.cell 0;have f0:=cR.o.frozen 0;have r1:=(cR.o.set_ 0 (.int .i64 fx)).cell 1
   have f1:=(cR.o.set_ 0 (.int .i64 fx)).frozen 1;simp only[aw,av,aB,aD,aA] at r0 r1;refine du (w':=(((w4.setCell ⟨w3.heap.size,0,none⟩ (.int .i64 fx)).setCell ⟨w3.heap.size,1,none⟩ (.int .i64 fy)))) [.pointer (some ⟨w.heap.size,9,none⟩),.int .i64 s.most,.agg #[.int .i64 s.most,.int .i64 1],.agg #[.int .i64 fn,.int .i64 fd],.tuple #[.agg #[.int .i64 fx,.int .i64 fy],.int .i64 fz],.tuple #[.agg #[.int .i64 fx,.int .i64 fy],.int .i64 fz],.agg #[.int .i64 fx,.int .i64 fy],.int .i64 fz,.pointer (some ⟨w3.heap.size,0,none⟩),undef,.int .i64 fz] ?_
   refine fZ ?_;simp only[aY,Act.put,aw,av,au,];have po:=pq;have dw:=zh ((HQ.o.setCell (p:=⟨w3.heap.size,0,none⟩) pq.o (.int .i64 fx)).setCell (p:=⟨w3.heap.size,1,none⟩) pq.o (.int .i64 fy));have iH:=zh ((cR.o.set_ 0 (.int .i64 fx)).set_ 1 (.int .i64 fy));simp only[aw,av,au,] at iH;generalize ((w4.setCell ⟨w3.heap.size,0,none⟩ (.int .i64 fx)).setCell ⟨w3.heap.size,1,none⟩ (.int .i64 fy))=w9 at dw iH⊢
   generalize w3.heap.size=n9 at po iH⊢;exact key n9 w9 ⟨dw.o,po.o,iH.o⟩
  have rI:=HQ.o.size;have xj:=HQ.o.alloc rI (.cells #[.int .i64 0,.int .i64 0] 23);refine lu (w':=((W3.alloc (.cells #[.int .i64 0,.int .i64 0] 23)))) [.pointer (some ⟨w.heap.size,9,none⟩),.int .i64 s.most,undef,.agg #[.int .i64 fn,.int .i64 fd],undef,undef,undef,undef,.pointer (some ⟨W3.heap.size,0,none⟩),undef,undef] ?_;have HQ:=zh xj;have b9:=(HQ.o.cell (p:=⟨w.heap.size,9,none⟩) kR.o).trans fP.o
  have b0:=(HQ.o.cell (p:=⟨w.heap.size+1,0,none⟩) iB.o).trans mW.o;have b1:=(HQ.o.cell (p:=⟨w.heap.size+1,1,none⟩) iB.o).trans fX.o;have pq:=zh rI;have cR:=zh (Blk.new W3 23 #[.int .i64 0,.int .i64 0]);refine bW (L:=[2,4,9]) (az (bC rfl ?_) (az gp (az gp bV)));refine eE (HO.o _) [.pointer (some ⟨w.heap.size,9,none⟩),.int .i64 s.most,.agg #[.int .i64 s.most,.int .i64 1],.agg #[.int .i64 fn,.int .i64 fd],undef,undef,undef,undef,.pointer (some ⟨W3.heap.size,0,none⟩),undef,undef] ?_
  intro w3 ft;have HQ:=zh (HQ.o.trans (ft.mono HQ.o.size));have b9:=(HQ.o.cell (p:=⟨w.heap.size,9,none⟩) kR.o).trans fP.o;have b0:=(HQ.o.cell (p:=⟨w.heap.size+1,0,none⟩) iB.o).trans mW.o;have b1:=(HQ.o.cell (p:=⟨w.heap.size+1,1,none⟩) iB.o).trans fX.o;have cR:=zh (cR.o.below ft cR.o.lt);refine bW (L:=[4,9]) (az (bC rfl ?_) (az gp bV));refine eE (Me.o _) [.pointer (some ⟨w.heap.size,9,none⟩),.int .i64 s.most,.agg #[.int .i64 s.most,.int .i64 1],.agg #[.int .i64 fn,.int .i64 fd],.tuple #[.agg #[.int .i64 fx,.int .i64 fy],.int .i64 fz],.tuple #[.agg #[.int .i64 fx,.int .i64 fy],.int .i64 fz],.agg #[.int .i64 fx,.int .i64 fy],.int .i64 fz,.pointer (some ⟨W3.heap.size,0,none⟩),undef,.int .i64 fz] ?_
  intro w4 ez;have HQ:=zh (HQ.o.trans (ez.mono HQ.o.size));have b9:=(HQ.o.cell (p:=⟨w.heap.size,9,none⟩) kR.o).trans fP.o;have b0:=(HQ.o.cell (p:=⟨w.heap.size+1,0,none⟩) iB.o).trans mW.o;have b1:=(HQ.o.cell (p:=⟨w.heap.size+1,1,none⟩) iB.o).trans fX.o;have cR:=zh (cR.o.below ez cR.o.lt);refine bW (L:=[9]) (az (bC rfl ?_) bV);have r0:=cR.o.cell 0;have f0:=cR.o.frozen 0;have r1:=(cR.o.set_ 0 (.int .i64 fx)).cell 1
  have f1:=(cR.o.set_ 0 (.int .i64 fx)).frozen 1;simp only[aw,av,aB,aD,aA] at r0 r1;refine du (w':=(((w4.setCell ⟨W3.heap.size,0,none⟩ (.int .i64 fx)).setCell ⟨W3.heap.size,1,none⟩ (.int .i64 fy)))) [.pointer (some ⟨w.heap.size,9,none⟩),.int .i64 s.most,.agg #[.int .i64 s.most,.int .i64 1],.agg #[.int .i64 fn,.int .i64 fd],.tuple #[.agg #[.int .i64 fx,.int .i64 fy],.int .i64 fz],.tuple #[.agg #[.int .i64 fx,.int .i64 fy],.int .i64 fz],.agg #[.int .i64 fx,.int .i64 fy],.int .i64 fz,.pointer (some ⟨W3.heap.size,0,none⟩),undef,.int .i64 fz] ?_
  refine fZ ?_;simp only[aY,Act.put,aw,av,au,];have po:=pq;have dw:=zh ((HQ.o.setCell (p:=⟨W3.heap.size,0,none⟩) pq.o (.int .i64 fx)).setCell (p:=⟨W3.heap.size,1,none⟩) pq.o (.int .i64 fy));have iH:=zh ((cR.o.set_ 0 (.int .i64 fx)).set_ 1 (.int .i64 fy));simp only[aw,av,au,] at iH;generalize ((w4.setCell ⟨W3.heap.size,0,none⟩ (.int .i64 fx)).setCell ⟨W3.heap.size,1,none⟩ (.int .i64 fy))=w9 at dw iH⊢
  generalize W3.heap.size=n9 at po iH⊢;exact key n9 w9 ⟨dw.o,po.o,iH.o⟩
 rintro n9 w9 ⟨fC,T7,GR⟩;have iW:=zh fC;have VS:=zh GR;have HN9:Y0 (n9<w9.heap.size):=GR.lt;clear fC T7 GR Me HO fP mW fX kR iB cP gn;cases bM:aC (aU ⟨s.most,1⟩/aU f)
 ·have xV:=AY.o.2 bM;have x7:Y0 (dG s f=5):=by unfold Y0;rw[Bt.o,if_neg (by rw[bM];decide)]
  have dw:=zh (dV.o.trans (iW.o.mono dV.o.size));subst xV;clear AY bM Bt Bl LX Yi;go_wp2_with fail;go_ret2;exact⟨dw.o,.inr ⟨by rw[x7.o];decide,by rw[x7.o];rfl⟩⟩
 obtain⟨oQ,GZ,xV⟩:=AY.o.1 bM;have hq:aU ⟨fx,fy⟩=aU ⟨s.most,1⟩/aU f:=by rw[←GZ,Up]
 have M3:=zh fun a ha W=>Bl.o a ha oQ hq W;have M9:Y0 (dG s f=if l.all (fun a=>aC (bU s.most f a))=true then 0 else 5):=by unfold Y0;rw[Bt.o,if_pos bM]
 subst xV;clear AY bM Bt Bl LX oQ GZ hq;obtain⟨iF,tY,kO,kN,kM⟩:=info_parts oA;have HL0:Y0 (w9.ownsRow w9.heap.size 23 2 (.slice none 0 0) 0 ((ck s.most f (l.take 0)).flatMap FrT.cells)∧Below w9.heap.size w9 w9):=⟨yJ _ _ _ _,yB _ _⟩;go_upto_region 9 with fail;go_loopw [36,9] (fun ix u wr=>∃(k:Nat) (ov:Value),k≤l.length∧ix=.int .i64 k∧ov=u∧Y0 (wr.ownsRow w9.heap.size 23 2 ov k ((ck s.most f (l.take k)).flatMap FrT.cells)∧Below w9.heap.size w9 wr)∧Y0 ((l.take k).all (fun a=>aC (bU s.most f a))=true)) (fun ix _ _=>l.length-(intOf ix).toNat)
 case atStart=>exact⟨0,_,yI _,rfl,rfl,HL0,rfl⟩
 clear HL0;obtain⟨k,ov,hk,rfl,rfl,HT,HA⟩:=hrel;have k0:(0:Int)≤(k:Int):=yE _;have Yk:=zh (iW.o.trans (HT.o.2.mono iW.o.size));by_cases aK:k<l.length
 ·have k1:(k:Int)<(l.length:Int):=by omega
  obtain⟨b1,o1,rfl,ak,hx⟩:=Yi.o k aK;have y0:=(Yk.o.cell (p:=⟨b1,o1+k*2,none⟩) ak).trans (hx k aK).1;have y1:=(Yk.o.cell (p:=⟨b1,o1+k*2+1,none⟩) ak).trans (hx k aK).2;have U7:=M3.o l[k] (yV aK);have LW:Y0 (∀(h:k<l.length),ck s.most f (l.take (k+1))=ck s.most f (l.take k)++[dM (bU s.most f l[k])]):=fun h=>by unfold ck;rw[bF l k h,List.map_append];rfl
  have HTA:Y0 (∀(h:k<l.length),(l.take (k+1)).all (fun a=>aC (bU s.most f a))=aC (bU s.most f l[k])):=fun h=>by rw[bF l k h,List.all_append,HA.o];simp
  have iM:Y0 (aC (bU s.most f l[k])=false→l.all (fun a=>aC (bU s.most f a))=false):=fun h=>by
   rw[List.all_eq_false];exact⟨l[k],yV aK,by rw[h];simp⟩
  obtain⟨gx,gy,gz,hg⟩:=cX (bU s.most f l[k]);have XW:=zh (re hg);rw[hg] at U7;have J3:l[k].val=.agg #[.int .i64 l[k].num,.int .i64 l[k].den]:=rfl;rw[J3] at U7;have mJ:=zh (Blk.new wr 23 #[.int .i64 l[k].num,.int .i64 l[k].den]);have Hd:=(yB wr.heap.size wr).alloc (yA _) (.cells #[.int .i64 l[k].num,.int .i64 l[k].den] 23);have tu:Y0 ((wr.alloc (.cells #[.int .i64 l[k].num,.int .i64 l[k].den] 23)).ownsRow w9.heap.size 23 2 ov k ((ck s.most f (l.take k)).flatMap FrT.cells)∧Below w9.heap.size w9 (wr.alloc (.cells #[.int .i64 l[k].num,.int .i64 l[k].den] 23))):=⟨bR HT.o.1 Hd,HT.o.2.alloc HT.o.2.size _⟩
  have q0:=(tu.o.2.cell (p:=⟨n9,0,none⟩) HN9.o).trans (VS.o.cell 0);have q1:=(tu.o.2.cell (p:=⟨n9,1,none⟩) HN9.o).trans (VS.o.cell 1);have x0:=mJ.o.cell 0;have x1:=mJ.o.cell 1;simp only[aB,aD,aA] at q0 q1 x0 x1;have XP:=zh (LW.o aK);have VL:=zh (HTA.o aK);clear hx hg J3 Hd LW HTA;generalize bU s.most f l[k]=sq at*;go_upto_region 12 with (first|(go_at_call 65;refine (U7 _).mono ?_;rintro e w5 ⟨rfl,bf⟩))
  have Ed:Y0 (w5.ownsRow w9.heap.size 23 2 ov k ((ck s.most f (l.take k)).flatMap FrT.cells)∧Below w9.heap.size w9 w5):=⟨bR tu.o.1 bf,tu.o.2.trans (bf.mono tu.o.2.size)⟩;clear y0 y1 q0 q1 x0 x1 bf tu HT mJ Yk;cases Lf:aC sq
  ·have nK:=XW.o.2 Lf;have x7:Y0 (dG s f=5):=by unfold Y0;rw[M9.o,if_neg (by rw[iM.o Lf];decide)]
   have dw:=zh (dV.o.trans ((iW.o.trans ((Ed.o.2.alloc Ed.o.2.size (.cells #[.int .i64 gx,.int .i64 gy] 23)).mono iW.o.size)).mono dV.o.size));subst nK;clear Lf iM;go_wp2_with fail;go_ret2;exact⟨dw.o,.inr ⟨by rw[x7.o];decide,by rw[x7.o];rfl⟩⟩
  obtain⟨-,mO,nK⟩:=XW.o.1 Lf;rw[Lf] at VL;rw[mO] at XP;subst nK;have fk:=((yB w5.heap.size w5).alloc (yA _) (.cells #[.int .i64 gx,.int .i64 gy] 23));have gu:=fk.alloc fk.size (.cells #[.int .i64 gx,.int .i64 gy] 23);have HT7:Y0 (((w5.alloc (.cells #[.int .i64 gx,.int .i64 gy] 23)).alloc (.cells #[.int .i64 gx,.int .i64 gy] 23)).ownsRow w9.heap.size 23 2 ov k ((ck s.most f (l.take k)).flatMap FrT.cells)):=bR Ed.o.1 gu
  have rF:=zh (Ed.o.2.trans (gu.mono Ed.o.2.size));have mS:=yL (Blk.new (w5.alloc (.cells #[.int .i64 gx,.int .i64 gy] 23)) 23 #[.int .i64 gx,.int .i64 gy]);rw[yZ] at mS;have jD:=zh mS;obtain⟨x0,x1⟩:=(Blk.new w5 23 #[.int .i64 gx,.int .i64 gy]).c2;have QV:=rF.o.size;clear Lf iM mO fk gu mS Ed;go_wp2_with (at_builtin;refine wpList_append_own _ rfl _ _ 42 rfl w9.heap.size 23 iF (.agg #[.int .i64 0,.int .i64 0]) 2 16 Tryz.underlying42 tY kO kN kM rfl (by decide) _ _ _ rfl HT7.o ⟨w5.heap.size+1,0,none⟩ 1 1 [.int .i64 gx,.int .i64 gy] rfl rfl jD.o (by simp[Value.oneCell']) (by unfold maxLen;omega) (by omega) QV ?_;intro v8 w8 fK dA _;have Tc:=zh fK;have eG:=zh (rF.o.grown dA QV (fun k e=>(HT7.o.lt k e).1));clear fK dA)
  go_roundw
  case rel=>exact⟨k+1,_,by omega,by go_num,rfl,⟨by rw[XP.o,List.flatMap_append];exact Tc.o,eG.o⟩,VL.o⟩
  simp[intOf];omega
 obtain rfl:k=l.length:=by omega
 have HA2:Y0 (dG s f=0):=by unfold Y0;rw[M9.o,if_pos (by have h:=HA.o;rw[List.take_length] at h;exact h)]
 have dw:=zh (dV.o.trans (Yk.o.mono dV.o.size));have VN:=HT.o.1;rw[yT] at VN;have VN:=zh VN;have sN:Y0 ((ck s.most f l).length=l.length):=by unfold Y0 ck;rw[List.length_map]
 clear M9 Yk;go_wp2_with fail;go_ret2;exact⟨dw.o,.inl ⟨HA2.o,ov,rfl,by unfold FrsAt;rw[sN.o];exact Flat.of_own VN.o⟩⟩
theorem yq (v1 v2:Value) (l1 l2:List FrT) (B:Nat) (w:World) (Be:FrsAt w B v1 l1) (CV:FrsAt w B v2 l2) :
  Calls Tryz.prog 28 #[v1,v2] w fun e w'=>e=.returned (.bool (decide (l1=l2)))∧∃n,w.drewN n=w':=by
 obtain⟨A1,c1,rfl,kG,qo,dS⟩:=Be.open_;obtain⟨A2,c2,rfl,eH,mA,iS⟩:=CV.open_;unfold maxLen at qo mA;clear Be CV;by_cases dD:l1.length=l2.length
 ·have HL:=zh dD;have hb:((l1.length:Int) != l2.length)=false:=by simp[dD]
  have vqJ:l1.length≤l2.length:=by omega
  have vqI:l2.length≤l1.length:=by omega
  clear dD;go_enter Tryz.func28,Tryz.ntmps28;go_wp2;go_loopw [13] (fun s wr=>∃j:Nat,j≤l1.length∧s=.int .i64 j∧l1.take j=l2.take j∧∃n,wr=w.drewN n) (fun x _=>l1.length-(intOf x).toNat)
  case atStart=>exact⟨0,yI _,rfl,by simp,0,rfl⟩
  obtain⟨j,hj,rfl,lR,n,rfl⟩:=hrel;have LR:=zh lR;clear lR;by_cases aI:j<l1.length
  ·have mT:j<l2.length:=by omega
   obtain⟨b1,cQ,rfl,ak,dS⟩:=dS j aI;obtain⟨b2,vqv,rfl,bg,iS⟩:=iS j mT;obtain⟨h1,h1'⟩:=dS j aI;obtain⟨h2,h2'⟩:=iS j mT;clear dS iS;by_cases hq:l1[j]=l2[j]
   ·have ht:(l1[j].num==l2[j].num)=true:=by rw[hq];exact beq_self_eq_true _
    have ht':(l1[j].den==l2[j].den)=true:=by rw[hq];exact beq_self_eq_true _
    have HQ:=zh hq;clear hq;go_wp2;go_quiet (fail);go_wp2;go_roundw
    case rel=>exact⟨j+1,by omega,by go_num,by rw[bF l1 j aI,bF l2 j mT,LR.o,HQ.o],_,rfl⟩
    simp[intOf];omega
   have HQ:=zh hq;by_cases hn:l1[j].num=l2[j].num
   ·have ht:(l1[j].num==l2[j].num)=true:=beq_iff_eq.2 hn;have ht':(l1[j].den==l2[j].den)=false:=zb fun h=>HQ.o (by
     cases e1:l1[j];cases e2:l2[j]
     rw[e1,e2] at hn h;simp only at hn h;rw[hn,h])
    clear hq hn;go_wp2;go_quiet (fail);go_wp2;go_ret;exact⟨Ze (by symm;rw[YD];intro e;subst e;exact HQ.o rfl),q2⟩
   have ht:(l1[j].num==l2[j].num)=false:=zb hn;clear hq hn;go_wp2;go_quiet (fail);go_wp2;go_ret;exact⟨Ze (by symm;rw[YD];intro e;subst e;exact HQ.o rfl),q2⟩
  have GU:j=l1.length:=by omega
  subst GU;go_wp2;go_ret;exact⟨Ze (by symm;rw[yP];have:=LR.o;rw[yT,HL.o,yT] at this;exact this),q1⟩
 have hb:((l1.length:Int) != l2.length)=true:=by simp;omega
 have fS:l1≠l2:=fun e=>dD (by rw[e]);go_enter Tryz.func28,Tryz.ntmps28;go_wp2;go_ret;exact⟨Ze (by symm;simpa using fS),0,rfl⟩
def ex23:SetT:=⟨⟨#[115]⟩,0,0,1000,1000,[0,1000],60,0,1,300,0,[],[]⟩
theorem qQ (w:World):Calls Tryz.prog 48 #[] w fun e w'=>∃v,e=.returned v∧SetAt w' w'.heap.size v ex23∧Below w.heap.size w w':=by
 go_enter Tryz.func48,Tryz.ntmps48;go_wp2_with fail;have h1:=im (w.alloc (.cells #[.string ⟨#[115]⟩,.int .i64 0,.int .i64 0,.int .i64 1000,.int .i64 1000,.slice (some ⟨w.heap.size+1,0,none⟩) 2 2,.int .i64 60,.int .i64 0,.int .i64 1,.int .i64 300,.int .i64 0,.slice none 0 0,.slice none 0 0] 37)) 3 [0,1000] (by decide);have ak:Below w.heap.size w (w.alloc (.cells #[.string ⟨#[115]⟩,.int .i64 0,.int .i64 0,.int .i64 1000,.int .i64 1000,.slice (some ⟨w.heap.size+1,0,none⟩) 2 2,.int .i64 60,.int .i64 0,.int .i64 1,.int .i64 300,.int .i64 0,.slice none 0 0,.slice none 0 0] 37)):=(yB _ _).alloc (yA _) _
 have hd:=Blk.new w 37 #[.string ⟨#[115]⟩,.int .i64 0,.int .i64 0,.int .i64 1000,.int .i64 1000,.slice (some ⟨w.heap.size+1,0,none⟩) 2 2,.int .i64 60,.int .i64 0,.int .i64 1,.int .i64 300,.int .i64 0,.slice none 0 0,.slice none 0 0];have hs:(w.alloc (.cells #[.string ⟨#[115]⟩,.int .i64 0,.int .i64 0,.int .i64 1000,.int .i64 1000,.slice (some ⟨w.heap.size+1,0,none⟩) 2 2,.int .i64 60,.int .i64 0,.int .i64 1,.int .i64 300,.int .i64 0,.slice none 0 0,.slice none 0 0] 37)).heap.size=w.heap.size+1:=by simp
 generalize w.alloc (.cells #[.string ⟨#[115]⟩,.int .i64 0,.int .i64 0,.int .i64 1000,.int .i64 1000,.slice (some ⟨w.heap.size+1,0,none⟩) 2 2,.int .i64 60,.int .i64 0,.int .i64 1,.int .i64 300,.int .i64 0,.slice none 0 0,.slice none 0 0] 37)=W1 at*;rw[hs] at h1;have h1:ct (W1.alloc (.cells #[.int .i64 0,.int .i64 1000] 3)) (W1.alloc (.cells #[.int .i64 0,.int .i64 1000] 3)).heap.size (.slice (some ⟨w.heap.size+1,0,none⟩) 2 2) [0,1000]:=h1
 have hd3:=hd.alloc (.cells #[.int .i64 0,.int .i64 1000] 3);have bg:Below W1.heap.size W1 (W1.alloc (.cells #[.int .i64 0,.int .i64 1000] 3)):=(yB _ _).alloc (yA _) _;have HB:=zh (ak.trans (bg.mono ak.size));generalize W1.alloc (.cells #[.int .i64 0,.int .i64 1000] 3)=W4 at*;obtain⟨z0,z1,z2,z3,z4,z5,z6,z7,z8,z9,fD,dN,fa⟩:=hd3.c13;refine YF (v:=.agg #[.string ⟨#[115]⟩,.int .i64 0,.int .i64 0,.int .i64 1000,.int .i64 1000,.slice (some ⟨w.heap.size+1,0,none⟩) 2 2,.int .i64 60,.int .i64 0,.int .i64 1,.int .i64 300,.int .i64 0,.slice none 0 0,.slice none 0 0]) (by simp[results,Tryz.results48,go_sem,z0,z1,z2,z3,z4,z5,z6,z7,z8,z9,fD,dN,fa]) rfl ?_
 exact⟨_,rfl,⟨_,_,_,_,_,_,rfl,h1,⟨none,0,rfl,yA _,yI _,fun h=>absurd h (Nat.lt_irrefl 0)⟩,⟨none,0,rfl,yA _,yI _,fun h=>absurd h (Nat.lt_irrefl 0)⟩⟩,HB.o⟩
theorem vZ:SetNames ex23:=⟨(show 1≤maxLen by unfold maxLen;decide),(fun x hx=>absurd hx List.not_mem_nil),(fun x hx=>absurd hx List.not_mem_nil)⟩
theorem Ii:cM ex23 ⟨11,1⟩=0:=by decide +kernel
theorem Ih:mD ex23.most ⟨11,1⟩ (ax ex23)=[⟨1,⟨#[49]⟩⟩,⟨1,⟨#[50]⟩⟩]:=by decide +kernel
theorem Ig:dG ex23 ⟨8,1⟩=0:=by decide +kernel
theorem Dw:ck ex23.most ⟨8,1⟩ (ax ex23)=[⟨15,2⟩,⟨15,2⟩]:=by decide +kernel
theorem RU:bQ (aU ⟨300,1⟩/aU ⟨30,1⟩)=.tuple #[.agg #[.int .i64 10,.int .i64 1],.int .i64 0]:=by
 have h:aC (aU ⟨300,1⟩/aU ⟨30,1⟩)=true∧(aU ⟨300,1⟩/aU ⟨30,1⟩).num=10∧(aU ⟨300,1⟩/aU ⟨30,1⟩).den=1:=by decide +kernel
 rw[jY h.1,h.2.1,h.2.2];rfl
theorem mq (n:Int) (w:World):Calls Tryz.prog 15 #[.int .i64 n] w fun e w'=>e=.returned (.agg #[.int .i64 n,.int .i64 1])∧Below w.heap.size w w':=by
 obtain⟨z0,z1⟩:=(Blk.new w 23 #[.int .i64 n,.int .i64 1]).c2;go_enter Tryz.func15,Tryz.ntmps15;go_wp2_with fail;refine YF (v:=.agg #[.int .i64 n,.int .i64 1]) (by simp[results,Tryz.results15,go_sem,z0,z1]) rfl ?_;exact⟨rfl,(yB _ _).alloc (yA _) _⟩
def RL (v0:Value):GPost:=⟨fun v=>v=v0,fun _ _=>True,⟨_,rfl⟩,fun _ _ _ _ _=>trivial,false⟩
def qkT (l:List FrT):GPost:=⟨fun v=>∃g,v=.slice (some ⟨g,0,none⟩) l.length l.length,fun v w=>FrsAt w w.heap.size v l,⟨_,0,rfl⟩,fun _ _ _ hb h=>(FrsAt.below h hb (yA _)).mono hb.size,false⟩
def qkU (l:List FindT):GPost:=⟨fun v=>∃g,v=.slice (some ⟨g,0,none⟩) l.length l.length,fun v w=>FindsAt w w.heap.size v l,⟨_,0,rfl⟩,fun _ _ _ hb h=>(FindsAt.below h hb (yA _)).mono hb.size,false⟩
theorem RI {P:Program} {o:Oper} {a:Act} {w:World} {T:TypeId} {l:List FrT} (hl:l.length≤100) (h:(execOp a.eval o).run P w=.ok (.value (.slice (some ⟨w.heap.size,0,none⟩) l.length l.length)) (w.alloc (.cells (l.flatMap FrT.cells).toArray T))):jv P o a (qkT l) w:=by
 refine⟨_,_,h,(yB _ _).alloc (yA _) _,⟨_,rfl⟩,⟨some ⟨w.heap.size,0,none⟩,l.length,rfl,yA _,by unfold maxLen;omega,fun _=>⟨w.heap.size,0,rfl,by simp,fun j u hu=>?_⟩⟩,fun h=>by cases h⟩;rw[yS,(Blk.new w T _).cell];simpa using hu
theorem RJ {P:Program} {o:Oper} {a:Act} {w:World} {T:TypeId} {l:List FindT} (hl:l.length≤100) (h:(execOp a.eval o).run P w=.ok (.value (.slice (some ⟨w.heap.size,0,none⟩) l.length l.length)) (w.alloc (.cells (l.flatMap FindT.cells).toArray T))):jv P o a (qkU l) w:=by
 refine⟨_,_,h,(yB _ _).alloc (yA _) _,⟨_,rfl⟩,⟨some ⟨w.heap.size,0,none⟩,l.length,rfl,yA _,by unfold maxLen;omega,fun _=>⟨w.heap.size,0,rfl,by simp,fun j u hu=>?_⟩⟩,fun h=>by cases h⟩;rw[yS,(Blk.new w T _).cell];simpa using hu
theorem Kh (n:Int) (w:World):Calls Tryz.prog 15 #[.int .i64 n] w fun e w'=>∃v,e=.returned v∧Below w.heap.size w w'∧(RL (.agg #[.int .i64 n,.int .i64 1])).σ v∧(RL (.agg #[.int .i64 n,.int .i64 1])).φ v w' :=
 (mq n w).mono fun _ _ ⟨he,hb⟩=>⟨_,he,hb,rfl,trivial⟩
theorem Lu (v:Value) (w:World) (hv:SetAt w w.heap.size v ex23):Calls Tryz.prog 19 #[v,.agg #[.int .i64 8,.int .i64 1]] w fun e w'=>∃A c,e=.returned (.tuple #[.slice A 2 c,.int .i64 0])∧FrsAt w' w'.heap.size (.slice A 2 c) [⟨15,2⟩,⟨15,2⟩]∧Below w.heap.size w w':=by
 refine (Jl v ex23 ⟨8,1⟩ w hv vZ).mono ?_;rintro e w' ⟨hb,⟨-,u,rfl,h⟩|⟨h,-⟩⟩
 ·rw[Dw] at h;obtain⟨A,c,rfl,-⟩:=h.open_;exact⟨A,c,rfl,h,hb⟩
 exact absurd Ig h
theorem Lv (v:Value) (w:World) (hv:SetAt w w.heap.size v ex23):Calls Tryz.prog 18 #[v,.agg #[.int .i64 11,.int .i64 1]] w fun e w'=>∃A c,e=.returned (.tuple #[.slice A 2 c,.int .i64 0])∧FindsAt w' w'.heap.size (.slice A 2 c) [⟨1,⟨#[49]⟩⟩,⟨1,⟨#[50]⟩⟩]∧Below w.heap.size w w':=by
 refine (Jn v ex23 ⟨11,1⟩ w hv vZ).mono ?_;rintro e w' ⟨hb,⟨-,u,rfl,h⟩|⟨h,-⟩⟩
 ·rw[Ih] at h;obtain⟨A,c,rfl,-⟩:=h.open_;exact⟨A,c,rfl,h,hb⟩
 exact absurd Ii h
theorem GI (w:World):Calls Tryz.prog 11 #[] w fun e w'=>e=.returned (.bool true)∧Below w.heap.size w w':=by
 have HFa:=zh fun W=>QD ⟨30,1⟩ 300 W (by decide +kernel) (by decide) (by decide);rw[RU] at HFa;go_enter Tryz.func11,Tryz.ntmps11;go_upto_region 2 with (first|(go_at_call 15;refine (mq 30 _).mono ?_;rintro e w1 ⟨rfl,ak⟩)|(go_at_call 12;refine (HFa.o _).mono ?_;rintro e w2 ⟨rfl,bg⟩));have HX:=zh (Blk.new w2 23 #[.int .i64 10,.int .i64 1]);have HB:=zh ((ak.trans (bg.mono ak.size)).alloc (ak.trans (bg.mono ak.size)).size (.cells #[.int .i64 10,.int .i64 1] 23))
 clear ak bg HFa;generalize w2.alloc (.cells #[.int .i64 10,.int .i64 1] 23)=W3 at*;generalize w2.heap.size=x1 at*;go_upto_region 3 with (first|(go_at_call 48;refine (qQ _).mono ?_;rintro e w4 ⟨v4,rfl,hS4,bP⟩)|(go_at_call 15;refine (mq 8 _).mono ?_;rintro e w5 ⟨rfl,bf⟩)|(go_at_call 19;refine (Lu v4 _ ((hS4.below bf (yA _)).mono bf.size)).mono ?_;rintro e w6 ⟨AS,cS,rfl,hF6,fk⟩));have Ag:=(bP.trans (bf.mono bP.size)).trans (fk.mono (bP.trans (bf.mono bP.size)).size)
 have HX:=zh (HX.o.below Ag HX.o.lt);have HB:=zh (HB.o.trans (Ag.mono HB.o.size));clear hS4 bP bf fk Ag;go_upto_region 4 with (first|(go_at_call 48;refine (qQ _).mono ?_;rintro e w4 ⟨v4,rfl,hS4,bP⟩)|(go_at_call 15;refine (mq 11 _).mono ?_;rintro e w5 ⟨rfl,bf⟩)|(go_at_call 18;refine (Lv v4 _ ((hS4.below bf (yA _)).mono bf.size)).mono ?_;rintro e w7 ⟨AC,cC,rfl,hF7,fk⟩));have Ag:=(bP.trans (bf.mono bP.size)).trans (fk.mono (bP.trans (bf.mono bP.size)).size)
 have HX:=zh (HX.o.below Ag HX.o.lt);have HB:=zh (HB.o.trans (Ag.mono HB.o.size));have Ek:=zh ((hF6.below Ag (yA _)).mono Ag.size);have HFc:=zh hF7;clear hS4 bP bf fk Ag hF6 hF7;obtain⟨y0,y1⟩:=HX.o.c2;have u0:=YL y0;have u1:=YL y1;clear y0 y1;refine af 29 (fun jx=>if jx=4 then some (RL (.agg #[.int .i64 10,.int .i64 1])) else if jx=15 then some (qkT [⟨15,2⟩,⟨15,2⟩]) else if jx=16 then some (RL (.bool true)) else if jx=26 then some (qkU [⟨1,⟨#[49]⟩⟩,⟨1,⟨#[50]⟩⟩]) else if jx=27 then some (RL (.bool true)) else none) (by kernel_rfl) (by kernel_rfl) ?_
 simp only[aO,aR,aP,aQ]
 first|refine ay (by first|rfl|go_simp) rfl rfl ?_|refine aM rfl (by first|rfl|go_simp) rfl ?_
 go_big_quiet_step (fail);refine YE ?_
 first|refine ay (by first|rfl|go_simp) rfl rfl ?_|refine aM rfl (by first|rfl|go_simp) rfl ?_
 go_big_quiet_step (fail);refine YE ?_
 first|refine ay (by first|rfl|go_simp) rfl rfl ?_|refine aM rfl (by first|rfl|go_simp) rfl ?_
 go_big_quiet_step (fail);refine YE ?_
 first|refine ay (by first|rfl|go_simp) rfl rfl ?_|refine aM rfl (by first|rfl|go_simp) rfl ?_
 go_big_quiet_step (fail);refine YE ?_;refine jF (by first|rfl|go_simp) rfl (fun w1 ak _=>⟨15,#[.int .i64 10],by go_simp,Kh 10 w1⟩) ?_;rintro _ rfl;simp only[Act.put,aw,av,au]
 first|refine ay (by first|rfl|go_simp) rfl rfl ?_|refine aM rfl (by first|rfl|go_simp) rfl ?_
 go_big_quiet_step (fail);refine YE ?_
 first|refine ay (by first|rfl|go_simp) rfl rfl ?_|refine aM rfl (by first|rfl|go_simp) rfl ?_
 go_big_quiet_step (fail);refine YE ?_
 first|refine ay (by first|rfl|go_simp) rfl rfl ?_|refine aM rfl (by first|rfl|go_simp) rfl ?_
 go_big_quiet_step (fail);refine YE ?_
 first|refine ay (by first|rfl|go_simp) rfl rfl ?_|refine aM rfl (by first|rfl|go_simp) rfl ?_
 go_big_quiet_step (fail);refine YE ?_
 first|refine ay (by first|rfl|go_simp) rfl rfl ?_|refine aM rfl (by first|rfl|go_simp) rfl ?_
 go_big_quiet_step (fail);refine YE ?_
 first|refine ay (by first|rfl|go_simp) rfl rfl ?_|refine aM rfl (by first|rfl|go_simp) rfl ?_
 go_big_quiet_step (fail);refine YE ?_
 first|refine ay (by first|rfl|go_simp) rfl rfl ?_|refine aM rfl (by first|rfl|go_simp) rfl ?_
 go_big_quiet_step (fail);refine YE ?_
 first|refine ay (by first|rfl|go_simp) rfl rfl ?_|refine aM rfl (by first|rfl|go_simp) rfl ?_
 go_big_quiet_step (fail);refine YE ?_
 first|refine ay (by first|rfl|go_simp) rfl rfl ?_|refine aM rfl (by first|rfl|go_simp) rfl ?_
 go_big_quiet_step (fail);refine YE ?_
 first|refine ay (by first|rfl|go_simp) rfl rfl ?_|refine aM rfl (by first|rfl|go_simp) rfl ?_
 go_big_quiet_step (fail);refine YE ?_;refine By (by first|rfl|go_simp) rfl (fun w1 ak _=>RI (T:=23) (l:=[⟨15,2⟩,⟨15,2⟩]) (by decide) (by go_simp;first|rfl|exact⟨rfl,rfl⟩)) ?_;rintro _ ⟨g39,rfl⟩;simp only[Act.put,aw,av,au];refine jF (by first|rfl|go_simp) rfl ?_ ?_
 ·intro w1 ak hk;have h39:FrsAt w1 w1.heap.size (.slice (some ⟨g39,0,none⟩) 2 2) [⟨15,2⟩,⟨15,2⟩]:=hk 39 zk;exact⟨28,#[.slice AS 2 cS,.slice (some ⟨g39,0,none⟩) 2 2],by go_simp,(yq _ _ _ _ w1.heap.size w1 ((Ek.o.below ak (yA _)).mono ak.size) h39).mono fun _ _ hp=>⟨_,hp.1,(let ⟨n,e⟩:=hp.2;e▸Zf (yB _ _) n),rfl,trivial⟩⟩
 rintro _ rfl;simp only[Act.put,aw,av,au]
 first|refine ay (by first|rfl|go_simp) rfl rfl ?_|refine aM rfl (by first|rfl|go_simp) rfl ?_
 go_big_quiet_step (fail);refine YE ?_
 first|refine ay (by first|rfl|go_simp) rfl rfl ?_|refine aM rfl (by first|rfl|go_simp) rfl ?_
 go_big_quiet_step (fail);refine YE ?_
 first|refine ay (by first|rfl|go_simp) rfl rfl ?_|refine aM rfl (by first|rfl|go_simp) rfl ?_
 go_big_quiet_step (fail);refine YE ?_
 first|refine ay (by first|rfl|go_simp) rfl rfl ?_|refine aM rfl (by first|rfl|go_simp) rfl ?_
 go_big_quiet_step (fail);refine YE ?_
 first|refine ay (by first|rfl|go_simp) rfl rfl ?_|refine aM rfl (by first|rfl|go_simp) rfl ?_
 go_big_quiet_step (fail);refine YE ?_
 first|refine ay (by first|rfl|go_simp) rfl rfl ?_|refine aM rfl (by first|rfl|go_simp) rfl ?_
 go_big_quiet_step (fail);refine YE ?_
 first|refine ay (by first|rfl|go_simp) rfl rfl ?_|refine aM rfl (by first|rfl|go_simp) rfl ?_
 go_big_quiet_step (fail);refine YE ?_
 first|refine ay (by first|rfl|go_simp) rfl rfl ?_|refine aM rfl (by first|rfl|go_simp) rfl ?_
 go_big_quiet_step (fail);refine YE ?_
 first|refine ay (by first|rfl|go_simp) rfl rfl ?_|refine aM rfl (by first|rfl|go_simp) rfl ?_
 go_big_quiet_step (fail);refine YE ?_;refine By (by first|rfl|go_simp) rfl (fun w1 ak _=>RJ (T:=49) (l:=[⟨1,⟨#[49]⟩⟩,⟨1,⟨#[50]⟩⟩]) (by decide) (by go_simp;first|rfl|exact⟨rfl,rfl⟩)) ?_;rintro _ ⟨g50,rfl⟩;simp only[Act.put,aw,av,au];refine jF (by first|rfl|go_simp) rfl ?_ ?_
 ·intro w1 ak hk;have h50:FindsAt w1 w1.heap.size (.slice (some ⟨g50,0,none⟩) 2 2) [⟨1,⟨#[49]⟩⟩,⟨1,⟨#[50]⟩⟩]:=hk 50 zk;exact⟨27,#[.slice AC 2 cC,.slice (some ⟨g50,0,none⟩) 2 2],by go_simp,(yr _ _ _ _ w1.heap.size w1 ((HFc.o.below ak (yA _)).mono ak.size) h50).mono fun _ _ hp=>⟨_,hp.1,(let ⟨n,e⟩:=hp.2;e▸Zf (yB _ _) n),rfl,trivial⟩⟩
 rintro _ rfl;simp only[Act.put,aw,av,au]
 first|refine ay (by first|rfl|go_simp) rfl rfl ?_|refine aM rfl (by first|rfl|go_simp) rfl ?_
 go_big_quiet_step (fail);refine YE ?_;refine Zc ?_;intro w8 aT hF;clear hF;go_wp2_with fail;go_ret;exact⟨rfl,HB.o.trans (aT.mono HB.o.size)⟩
def vqr (w:World) (e:Ending) (w':World):Prop:=∃q:Bool,e=.returned (.bool q)∧Below w.heap.size w w'
theorem Nj (v:Value) (s:SetT) (n:Int) (w:World) (hv:SetAt w w.heap.size v s) (_fO:s.name.size≤maxLen) (lR:∀x∈s.items,x.name.size≤maxLen) (hbm:∀x∈s.bricks,x.name.size≤maxLen) :
  Calls Tryz.prog 41 #[v,.int .i64 n] w (vqr w):=by
 obtain⟨Al,cl,Ai,ci,Ab,cb,rfl,hL,hI,hB⟩:=hv;obtain⟨_,_,e,Be,CV,-⟩:=hL.open_;injection e with e1 _ e2;subst e1 e2;obtain⟨_,_,e,Ms,X3,Rh⟩:=hI.open_;injection e with e1 _ e2;subst e1 e2;obtain⟨_,_,e,UE,CX,hkc⟩:=hB.open_;injection e with e1 _ e2;subst e1 e2;have HI:=zh Rh;have HK:=zh hkc;have HN:=zh lR;have HM:=zh hbm;have HD:=zh (Blk.new w 37 (zA s Al cl Ai ci Ab cb));have cw:=zh ((yB _ w).alloc (yA _) (.cells (zA s Al cl Ai ci Ab cb) 37))
 unfold maxLen at CV X3 CX;unfold dO;clear hL hI hB Rh hkc lR hbm;by_cases c0:60<(s.name.size:Int)
 ·have d0:decide (60<(s.name.size:Int))=true:=yD c0;go_enter Tryz.func41,Tryz.ntmps41;go_wp2;go_ret;exact⟨_,rfl,cw.o⟩
 have d0:decide (60<(s.name.size:Int))=false:=yC c0;by_cases c1:12<(s.lines.length:Int)
 ·have d1:decide (12<(s.lines.length:Int))=true:=yD c1;go_enter Tryz.func41,Tryz.ntmps41;go_wp2;go_ret;exact⟨_,rfl,cw.o⟩
 have d1:decide (12<(s.lines.length:Int))=false:=yC c1;by_cases c2:n<(s.items.length:Int)
 ·have d2:decide (n<(s.items.length:Int))=true:=yD c2;by_cases c3:(s.items.length:Int)≤40
  ·have d3:decide ((s.items.length:Int)≤40)=true:=yD c3;go_enter Tryz.func41,Tryz.ntmps41;go_wp2;go_ret;exact⟨_,rfl,cw.o⟩
  have d3:decide ((s.items.length:Int)≤40)=false:=yC c3;by_cases c4:45<(s.items.length:Int)
  ·have d4:decide (45<(s.items.length:Int))=true:=yD c4;go_enter Tryz.func41,Tryz.ntmps41;go_wp2;go_ret;exact⟨_,rfl,cw.o⟩
  have d4:decide (45<(s.items.length:Int))=false:=yC c4;by_cases c5:10<(s.bricks.length:Int)
  ·have d5:decide (10<(s.bricks.length:Int))=true:=yD c5;go_enter Tryz.func41,Tryz.ntmps41;go_wp2;go_ret;exact⟨_,rfl,cw.o⟩
  have d5:decide (10<(s.bricks.length:Int))=false:=yC c5;go_enter Tryz.func41,Tryz.ntmps41;go_wp2;generalize w.alloc (.cells (zA s Al cl Ai ci Ab cb) 37)=W1 at*;have dN:=HD.o.cell 11;have fa:=HD.o.cell 12;simp only[aB,aD,aA] at dN fa;go_loopw [5] (fun x wr=>∃k:Nat,k≤s.items.length∧x=.int .i64 k∧W1=wr) (fun x _=>s.items.length-(intOf x).toNat)
  case atStart=>exact⟨0,yI _,rfl,rfl⟩
  obtain⟨k,hk,rfl,rfl⟩:=hrel;by_cases aK:k<s.items.length
  ·obtain⟨b,off,rfl,hb,hc⟩:=HI.o k aK;have y0:=(cw.o.cell (p:=⟨b,off+k*7,none⟩) hb).trans (hc k aK).1;have hz:=HN.o _ (yV aK);unfold maxLen at hz;have i1:(0:Int)≤(k:Int):=yE _;have i2:(k:Int)<(s.items.length:Int):=by omega
   clear hc;by_cases g:60<(s.items[k].name.size:Int)
   ·have gd:=yD g;go_wp2;go_ret;exact⟨_,rfl,cw.o⟩
   have gd:=yC g;go_wp2;go_roundw
   case rel=>exact⟨k+1,by omega,by go_num,by trivial⟩
   simp[intOf];omega
  obtain rfl:k=s.items.length:=by omega
  go_wp2;go_loopw [6] (fun x wr=>∃k:Nat,k≤s.bricks.length∧x=.int .i64 k∧W1=wr) (fun x _=>s.bricks.length-(intOf x).toNat)
  case atStart=>exact⟨0,yI _,rfl,rfl⟩
  obtain⟨k,hk,rfl,rfl⟩:=hrel;by_cases aK:k<s.bricks.length
  ·obtain⟨b,off,rfl,hb,hc⟩:=HK.o k aK;have y0:=(cw.o.cell (p:=⟨b,off+k*3,none⟩) hb).trans (hc k aK).1;have hz:=HM.o _ (yV aK);unfold maxLen at hz;have i1:(0:Int)≤(k:Int):=yE _;have i2:(k:Int)<(s.bricks.length:Int):=by omega
   clear hc;by_cases g:60<(s.bricks[k].name.size:Int)
   ·have gd:=yD g;go_wp2;go_ret;exact⟨_,rfl,cw.o⟩
   have gd:=yC g;go_wp2;go_roundw
   case rel=>exact⟨k+1,by omega,by go_num,by trivial⟩
   simp[intOf];omega
  obtain rfl:k=s.bricks.length:=by omega
  go_wp2;go_ret;exact⟨_,rfl,cw.o⟩
 have d2:decide (n<(s.items.length:Int))=false:=yC c2;by_cases c4:45<(s.items.length:Int)
 ·have d4:decide (45<(s.items.length:Int))=true:=yD c4;go_enter Tryz.func41,Tryz.ntmps41;go_wp2;go_ret;exact⟨_,rfl,cw.o⟩
 have d4:decide (45<(s.items.length:Int))=false:=yC c4;by_cases c5:10<(s.bricks.length:Int)
 ·have d5:decide (10<(s.bricks.length:Int))=true:=yD c5;go_enter Tryz.func41,Tryz.ntmps41;go_wp2;go_ret;exact⟨_,rfl,cw.o⟩
 have d5:decide (10<(s.bricks.length:Int))=false:=yC c5;go_enter Tryz.func41,Tryz.ntmps41;go_wp2;generalize w.alloc (.cells (zA s Al cl Ai ci Ab cb) 37)=W1 at*;have dN:=HD.o.cell 11;have fa:=HD.o.cell 12;simp only[aB,aD,aA] at dN fa;go_loopw [5] (fun x wr=>∃k:Nat,k≤s.items.length∧x=.int .i64 k∧W1=wr) (fun x _=>s.items.length-(intOf x).toNat)
 case atStart=>exact⟨0,yI _,rfl,rfl⟩
 obtain⟨k,hk,rfl,rfl⟩:=hrel;by_cases aK:k<s.items.length
 ·obtain⟨b,off,rfl,hb,hc⟩:=HI.o k aK;have y0:=(cw.o.cell (p:=⟨b,off+k*7,none⟩) hb).trans (hc k aK).1;have hz:=HN.o _ (yV aK);unfold maxLen at hz;have i1:(0:Int)≤(k:Int):=yE _;have i2:(k:Int)<(s.items.length:Int):=by omega
  clear hc;by_cases g:60<(s.items[k].name.size:Int)
  ·have gd:=yD g;go_wp2;go_ret;exact⟨_,rfl,cw.o⟩
  have gd:=yC g;go_wp2;go_roundw
  case rel=>exact⟨k+1,by omega,by go_num,by trivial⟩
  simp[intOf];omega
 obtain rfl:k=s.items.length:=by omega
 go_wp2;go_loopw [6] (fun x wr=>∃k:Nat,k≤s.bricks.length∧x=.int .i64 k∧W1=wr) (fun x _=>s.bricks.length-(intOf x).toNat)
 case atStart=>exact⟨0,yI _,rfl,rfl⟩
 obtain⟨k,hk,rfl,rfl⟩:=hrel;by_cases aK:k<s.bricks.length
 ·obtain⟨b,off,rfl,hb,hc⟩:=HK.o k aK;have y0:=(cw.o.cell (p:=⟨b,off+k*3,none⟩) hb).trans (hc k aK).1;have hz:=HM.o _ (yV aK);unfold maxLen at hz;have i1:(0:Int)≤(k:Int):=yE _;have i2:(k:Int)<(s.bricks.length:Int):=by omega
  clear hc;by_cases g:60<(s.bricks[k].name.size:Int)
  ·have gd:=yD g;go_wp2;go_ret;exact⟨_,rfl,cw.o⟩
  have gd:=yC g;go_wp2;go_roundw
  case rel=>exact⟨k+1,by omega,by go_num,by trivial⟩
  simp[intOf];omega
 obtain rfl:k=s.bricks.length:=by omega
 go_wp2;go_ret;exact⟨_,rfl,cw.o⟩
