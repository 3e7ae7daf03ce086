/- Lemmas. -/
import Derived.LaidMore
import Derived.Stop.Joined
import Derived.Test.YtmmhehgajkaniaaGreatDoorRows
import Derived.Test.YtmmhehgajkaniaaGreatDoorZ31
import Derived.Test.YtmmhehgajkaniaaGreatDoorZ32
import Derived.Test.YtmmhehgajkaniaaGreatDoorZ39
namespace Go.Proofs.YtmmhehgajkaniaaGreatDoor
set_option maxRecDepth 100000
set_option maxHeartbeats 40000000
open Go.RowKit Go.Shelf
def b51:BeamT:=⟨⟨#[98]⟩,1000,[0,1000],[⟨500,10⟩],0⟩
def r51:List FrT:=[⟨5,1⟩,⟨5,1⟩]
def m51:List FrT:=[⟨0,1⟩,⟨0,1⟩]
theorem ZO:jM b51 r51 m51=true:=by decide +kernel
theorem qjB:nj b51 r51 m51=true:=by decide +kernel
theorem Ug (n:Int) (w:World):Calls Tryz.prog 13 #[.int .i64 n] w fun e w'=>e=.returned (.agg #[.int .i64 n,.int .i64 1])∧Below w.heap.size w w':=by
 go_enter Tryz.func13,Tryz.ntmps13;go_wp2_with fail;refine YF (v:=.agg #[.int .i64 n,.int .i64 1]) (by simp[results,Tryz.results13,go_sem]) rfl ?_;exact⟨rfl,(yB _ _).alloc (yA _) _⟩
def gC (v0:Value):GPost:=⟨fun v=>v=v0,fun _ _=>True,⟨_,rfl⟩,fun _ _ _ _ _=>trivial,false⟩
def gF (l:List FrT):GPost:=⟨fun v=>∃g,v=.slice (some ⟨g,0,none⟩) l.length l.length,fun v w=>FrsAt w w.heap.size v l,⟨_,0,rfl⟩,fun _ _ _ hb h=>(FrsAt.below h hb (yA _)).mono hb.size,false⟩
theorem Zt (w:World) (T:TypeId) (l:List FrT) (hl:l.length≤100):FrsAt (w.alloc (.cells (l.flatMap FrT.cells).toArray T)) (w.alloc (.cells (l.flatMap FrT.cells).toArray T)).heap.size (.slice (some ⟨w.heap.size,0,none⟩) l.length l.length) l:=by
 refine⟨some ⟨w.heap.size,0,none⟩,l.length,rfl,yA _,by unfold maxLen;omega,fun _=>⟨w.heap.size,0,rfl,by simp,fun j u hu=>?_⟩⟩;rw[yR,(Blk.new w T _).cell];simpa using hu
theorem Vj {P:Program} {o:Oper} {a:Act} {w:World} {T:TypeId} {l:List FrT} (hl:l.length≤100) (h:(execOp a.eval o).run P w=.ok (.value (.slice (some ⟨w.heap.size,0,none⟩) l.length l.length)) (w.alloc (.cells (l.flatMap FrT.cells).toArray T))):kX P o a (gF l) w :=
 ⟨_,_,h,(yB _ _).alloc (yA _) _,⟨_,rfl⟩,Zt w T l hl,fun h=>by cases h⟩
theorem vx (n:Int) (w:World):Calls Tryz.prog 13 #[.int .i64 n] w fun e w'=>∃v,e=.returned v∧Below w.heap.size w w'∧(gC (.agg #[.int .i64 n,.int .i64 1])).σ v∧(gC (.agg #[.int .i64 n,.int .i64 1])).φ v w' :=
 (Ug n w).mono fun _ _ ⟨he,hb⟩=>⟨_,he,hb,rfl,trivial⟩
theorem NQ (w:World) (T:TypeId) (l:List LoadT) (hl:l.length≤100):LoadsAt (w.alloc (.cells (l.flatMap LoadT.cells).toArray T)) (w.alloc (.cells (l.flatMap LoadT.cells).toArray T)).heap.size (.slice (some ⟨w.heap.size,0,none⟩) l.length l.length) l:=by
 refine⟨some ⟨w.heap.size,0,none⟩,l.length,rfl,yA _,by unfold maxLen;omega,fun _=>⟨w.heap.size,0,rfl,by simp,fun j u hu=>?_⟩⟩;rw[yR,(Blk.new w T _).cell];simpa using hu
theorem Iu (w:World):TasksAt (w.alloc (.cells #[.string ⟨#[116]⟩,.int .i64 7,.int .i64 0,.int .i64 0,.slice none 0 0] 48)) (w.alloc (.cells #[.string ⟨#[116]⟩,.int .i64 7,.int .i64 0,.int .i64 0,.slice none 0 0] 48)).heap.size (.slice (some ⟨w.heap.size,0,none⟩) 1 1) il:=by
 refine⟨⟨some ⟨w.heap.size,0,none⟩,1,rfl,yA _,by unfold maxLen;omega,fun _=>⟨w.heap.size,0,rfl,by simp,fun j u hu=>?_⟩⟩,fun t ht=>?_,fun t ht=>?_⟩
 ·rw[yR,(Blk.new w _ _).cell];rw[List.getElem?_toArray];exact hu
 ·simp only[il,List.mem_cons,List.not_mem_nil,or_false] at ht;subst ht;exact⟨none,0,rfl,yA _,yI _,fun h=>absurd h (by simp[lh])⟩
 simp only[il,List.mem_cons,List.not_mem_nil,or_false] at ht;subst ht;exact⟨by decide,by simp[lh],by simp only[lh];omega,by simp only[lh];omega,by simp only[lh];omega⟩
theorem Uj:fK il 1 1 [0] 7=true:=by
 unfold fK;rw[Gi];decide +kernel
theorem Yq:fK il 1 1 [1] 8=false:=by
 unfold fK;rw[Gi,show ((7:Int)==8)=false from rfl,Bool.and_false,Bool.and_false,Bool.and_false]
theorem qjX (x:Int) (h:x=0∨x=1):OU [x]:=fun y hy=>by
 rw[List.mem_singleton] at hy;subst hy;omega
theorem VW (v v1 v2:Value) (w:World) (hv:BeamAt w w.heap.size v b51) (h1:FrsAt w w.heap.size v1 r51) (h2:FrsAt w w.heap.size v2 m51) :
  Calls Tryz.prog 12 #[v,v1,v2] w fun e w'=>∃u,e=.returned u∧Below w.heap.size w w'∧(gC (.tuple #[.bool true,.int .i64 0])).σ u∧(gC (.tuple #[.bool true,.int .i64 0])).φ u w' :=
 (qqd v v1 v2 b51 r51 m51 w hv (by decide) h1 h2).mono fun e w' ⟨hb,h⟩=>by
  rcases h with⟨h,-⟩|⟨-,rfl⟩
  ·rw[ZO] at h;cases h
  rw[qjB];exact⟨_,rfl,hb,rfl,trivial⟩
theorem Lp (v u:Value) (x n:Int) (r:Bool) (w:World) (hx:x=0∨x=1) (hr:fK il 1 1 [x] n=r) (hv:TasksAt w w.heap.size v il) (hu:bg w w.heap.size u [x]) :
  Calls Tryz.prog 14 #[v,.int .i64 1,.int .i64 1,u,.int .i64 n] w fun e w'=>e=.returned (.tuple #[.bool r,.int .i64 0])∧Below w.heap.size w w':=by
 have h:=Il v u il 1 1 [x] n w hv hu (qjX x hx);rw[O5,hr] at h;exact h
theorem Ki (w:World):Calls Tryz.prog 4 #[] w fun e w'=>e=.returned (.bool true)∧Below w.heap.size w w':=by
 have ak:Below w.heap.size w (w.alloc (.cells #[.int .i64 0,.int .i64 1000] 3)):=(yB _ _).alloc (yA _) _;have aU:Below (w.alloc (.cells #[.int .i64 0,.int .i64 1000] 3)).heap.size (w.alloc (.cells #[.int .i64 0,.int .i64 1000] 3)) ((w.alloc (.cells #[.int .i64 0,.int .i64 1000] 3)).alloc (.cells #[.int .i64 500,.int .i64 10] 40)):=(yB _ _).alloc (yA _) _;have bM:Below ((w.alloc (.cells #[.int .i64 0,.int .i64 1000] 3)).alloc (.cells #[.int .i64 500,.int .i64 10] 40)).heap.size ((w.alloc (.cells #[.int .i64 0,.int .i64 1000] 3)).alloc (.cells #[.int .i64 500,.int .i64 10] 40)) (((w.alloc (.cells #[.int .i64 0,.int .i64 1000] 3)).alloc (.cells #[.int .i64 500,.int .i64 10] 40)).alloc (.cells #[.string ⟨#[98]⟩,.int .i64 1000,.slice (some ⟨w.heap.size,0,none⟩) 2 2,.slice (some ⟨w.heap.size+1,0,none⟩) 1 1,.int .i64 0] 43)):=(yB _ _).alloc (yA _) _
 have HV:Y0 (BeamAt (((w.alloc (.cells #[.int .i64 0,.int .i64 1000] 3)).alloc (.cells #[.int .i64 500,.int .i64 10] 40)).alloc (.cells #[.string ⟨#[98]⟩,.int .i64 1000,.slice (some ⟨w.heap.size,0,none⟩) 2 2,.slice (some ⟨w.heap.size+1,0,none⟩) 1 1,.int .i64 0] 43)) (((w.alloc (.cells #[.int .i64 0,.int .i64 1000] 3)).alloc (.cells #[.int .i64 500,.int .i64 10] 40)).alloc (.cells #[.string ⟨#[98]⟩,.int .i64 1000,.slice (some ⟨w.heap.size,0,none⟩) 2 2,.slice (some ⟨w.heap.size+1,0,none⟩) 1 1,.int .i64 0] 43)).heap.size (.agg #[.string ⟨#[98]⟩,.int .i64 1000,.slice (some ⟨w.heap.size,0,none⟩) 2 2,.slice (some ⟨w.heap.size+1,0,none⟩) 1 1,.int .i64 0]) b51):=by
  have hI:=gb w 3 [0,1000] (by decide);have hL:=NQ (w.alloc (.cells #[.int .i64 0,.int .i64 1000] 3)) 40 [⟨500,10⟩] (by decide);rw[show (w.alloc (.cells #[.int .i64 0,.int .i64 1000] 3)).heap.size=w.heap.size+1 by simp] at hL;have hI':=((RowAt.below hI aU (yA _)).mono aU.size);exact⟨_,_,_,_,rfl,((RowAt.below hI' bM (yA _)).mono bM.size),(hL.below bM (yA _)).mono bM.size⟩
 have HB:=zh ((ak.trans (aU.mono ak.size)).trans (bM.mono (ak.trans (aU.mono ak.size)).size));have HD:=zh (Blk.new ((w.alloc (.cells #[.int .i64 0,.int .i64 1000] 3)).alloc (.cells #[.int .i64 500,.int .i64 10] 40)) 43 #[.string ⟨#[98]⟩,.int .i64 1000,.slice (some ⟨w.heap.size,0,none⟩) 2 2,.slice (some ⟨w.heap.size+1,0,none⟩) 1 1,.int .i64 0]);have de:((w.alloc (.cells #[.int .i64 0,.int .i64 1000] 3)).alloc (.cells #[.int .i64 500,.int .i64 10] 40)).heap.size=w.heap.size+1+1:=by simp
 rw[de] at HD;clear ak aU bM de;go_enter Tryz.func4,Tryz.ntmps4;go_wp2_with fail;generalize (((w.alloc (.cells #[.int .i64 0,.int .i64 1000] 3)).alloc (.cells #[.int .i64 500,.int .i64 10] 40)).alloc (.cells #[.string ⟨#[98]⟩,.int .i64 1000,.slice (some ⟨w.heap.size,0,none⟩) 2 2,.slice (some ⟨w.heap.size+1,0,none⟩) 1 1,.int .i64 0] 43))=W3 at*;obtain⟨y0,y1,y2,y3,y4⟩:=HD.o.c5;have u0:=YL y0;have u1:=YL y1
 have u2:=YL y2;have u3:=YL y3;have u4:=YL y4;clear y0 y1 y2 y3 y4;refine af 12 (fun jx=>if jx=1 then some (gC (.agg #[.int .i64 5,.int .i64 1])) else if jx=2 then some (gC (.agg #[.int .i64 5,.int .i64 1])) else if jx=3 then some (gF r51) else if jx=4 then some (gC (.agg #[.int .i64 0,.int .i64 1])) else if jx=5 then some (gC (.agg #[.int .i64 0,.int .i64 1])) else if jx=6 then some (gF m51) else if jx=7 then some (gC (.tuple #[.bool true,.int .i64 0])) else none) (by kernel_rfl) (by kernel_rfl) ?_
 simp only[aM,aP,aN,aO];refine zw 1 ?_;simp only[aM,aP,aN,aO]
 repeat (go_big_quiet_step (fail))
 refine YE ?_;refine ae rfl rfl ?_ ?_
 ·intro w1 ak hk;have hC:=vx 5 w1;exact zc hC
 rintro _ rfl;simp only[Act.put,aC,aB,aA];refine ae rfl rfl ?_ ?_
 ·intro w1 ak hk;have hC:=vx 5 w1;exact zc hC
 rintro _ rfl;simp only[Act.put,aC,aB,aA];refine aV rfl rfl (fun w1 ak _=>Vj (T:=29) (l:=r51) (by decide) (by go_simp;exact⟨rfl,rfl⟩)) ?_;rintro _ ⟨g17,rfl⟩;simp only[Act.put,aC,aB,aA];refine ae rfl rfl ?_ ?_
 ·intro w1 ak hk;have hC:=vx 0 w1;exact zc hC
 rintro _ rfl;simp only[Act.put,aC,aB,aA];refine ae rfl rfl ?_ ?_
 ·intro w1 ak hk;have hC:=vx 0 w1;exact zc hC
 rintro _ rfl;simp only[Act.put,aC,aB,aA];refine aV rfl rfl (fun w1 ak _=>Vj (T:=29) (l:=m51) (by decide) (by go_simp;exact⟨rfl,rfl⟩)) ?_;rintro _ ⟨g20,rfl⟩;simp only[Act.put,aC,aB,aA];refine ae rfl rfl ?_ ?_
 ·intro w1 ak hk;have h17:FrsAt w1 w1.heap.size (.slice (some ⟨g17,0,none⟩) 2 2) r51:=hk 17 zk;have Mu:FrsAt w1 w1.heap.size (.slice (some ⟨g20,0,none⟩) 2 2) m51:=hk 20 zk;have hC:=VW (.agg #[.string ⟨#[98]⟩,.int .i64 1000,.slice (some ⟨w.heap.size,0,none⟩) 2 2,.slice (some ⟨w.heap.size+1,0,none⟩) 1 1,.int .i64 0]) _ _ w1 (HV.o.grow ak) h17 Mu;exact⟨12,#[.agg #[.string ⟨#[98]⟩,.int .i64 1000,.slice (some ⟨w.heap.size,0,none⟩) 2 2,.slice (some ⟨w.heap.size+1,0,none⟩) 1 1,.int .i64 0],.slice (some ⟨g17,0,none⟩) 2 2,.slice (some ⟨g20,0,none⟩) 2 2],by go_simp;exact⟨rfl,rfl⟩,hC⟩
 rintro _ rfl;simp only[Act.put,aC,aB,aA];refine zw 4 ?_;simp only[aM,aP,aN,aO]
 repeat (go_big_quiet_step (fail))
 refine YE ?_;refine Zc ?_;intro w8 aJ hF;have ep:=zh (HB.o.trans (aJ.mono HB.o.size));clear hF aJ;have hT:=Iu w8;have YV:=fun W (hb:Below (w8.alloc (.cells #[.string ⟨#[116]⟩,.int .i64 7,.int .i64 0,.int .i64 0,.slice none 0 0] 48)).heap.size (w8.alloc (.cells #[.string ⟨#[116]⟩,.int .i64 7,.int .i64 0,.int .i64 0,.slice none 0 0] 48)) W)=>(hT.below hb (yA _)).mono hb.size;have hbT:Below w8.heap.size w8 (w8.alloc (.cells #[.string ⟨#[116]⟩,.int .i64 7,.int .i64 0,.int .i64 0,.slice none 0 0] 48)):=(yB _ _).alloc (yA _) _
 have hI0:=gb (w8.alloc (.cells #[.string ⟨#[116]⟩,.int .i64 7,.int .i64 0,.int .i64 0,.slice none 0 0] 48)) 3 [0] (by decide);have hbI:Below (w8.alloc (.cells #[.string ⟨#[116]⟩,.int .i64 7,.int .i64 0,.int .i64 0,.slice none 0 0] 48)).heap.size (w8.alloc (.cells #[.string ⟨#[116]⟩,.int .i64 7,.int .i64 0,.int .i64 0,.slice none 0 0] 48)) ((w8.alloc (.cells #[.string ⟨#[116]⟩,.int .i64 7,.int .i64 0,.int .i64 0,.slice none 0 0] 48)).alloc (.cells #[.int .i64 0] 3)):=(yB _ _).alloc (yA _) _
 rw[show (w8.alloc (.cells #[.string ⟨#[116]⟩,.int .i64 7,.int .i64 0,.int .i64 0,.slice none 0 0] 48)).heap.size=w8.heap.size+1 by simp] at hI0;have hS:=Lp _ _ 0 7 true _ (.inl rfl) Uj (YV _ hbI) hI0;go_wp2_with fail;refine hS.mono ?_;rintro e w9 ⟨rfl,jz⟩;have t7:=hbI.trans (jz.mono hbI.size);have hI1:=gb w9 3 [1] (by decide);have YQ:=t7.alloc t7.size (.cells #[.int .i64 1] 3);have Xh:=Lp _ _ 1 8 false _ (.inr rfl) Yq (YV _ YQ) hI1
 clear hS hI0 hI1 jz hbI t7;go_wp2_with fail;refine Xh.mono ?_;rintro e X3 ⟨rfl,pT⟩;have Kr:=ep.o.trans ((hbT.trans ((YQ.trans (pT.mono YQ.size)).mono hbT.size)).mono ep.o.size);clear Xh pT YQ;go_wp2_with fail;go_ret;exact⟨rfl,Kr⟩
theorem NT (v v1:Value) (s:SetT) (l:List FrT) (f:FrT) (w:World) (hv:SetAt w w.heap.size v s) (hn:SetNames s) (hl:FrsAt w w.heap.size v1 l) :
  Calls Tryz.prog 3 #[v,v1,f.val] w fun e w'=>e=.returned (.bool true)∧Below w.heap.size w w':=by
 have vwT:=zh fun W (hb:Below w.heap.size w W)=>Qy v s 12 W (hv.grow hb) hn.name hn.items hn.bricks;unfold vx8 at vwT;have aS:=zh fun W u (hb:Below w.heap.size w W) (h:FrsAt W W.heap.size u l)=>qjY v u s l f W (hv.grow hb) hn h;have BQ:=zh fun W (hb:Below w.heap.size w W)=>qk v s W (hv.grow hb) hn;have Xo:=zh fun W u (hb:Below w.heap.size w W) (h:FrsAt W W.heap.size u l)=>XQ v u s l f W (hv.grow hb) hn h
 have HFv:=zh fun W=>wO f W;have HFi:=zh fun W (h:au f=true)=>wQ f W h;have HAw:=zh fun W=>Ki W;have Xs:Y0 (bk [f]=au f):=by unfold Y0 bk;rw[List.all_cons,List.all_nil,Bool.and_true]
 obtain⟨Al,cl,Ai,ci,Ab,cb,rfl,-,-,-⟩:=hv;obtain⟨A1,c1,rfl,-⟩:=hl.open_;have Xr:=zh hl;obtain⟨fn,fd⟩:=f
 try simp only[FrT.val] at*
 obtain⟨ve,hve⟩:=zo (wA s l ⟨fn,fd⟩);obtain⟨si,Pu⟩:=zo (wJ s l ⟨fn,fd⟩);have WY:kJ s l ⟨fn,fd⟩=.tuple #[.bool (decide (ve=0)&&si),.int .i64 ve]:=by unfold kJ;rw[hve,Pu]
 rw[WY] at aS;rw[Pu] at Xo;unfold wA mF at hve;rw[Xs.o] at hve;have HVe:=zh hve;generalize fp ⟨fn,fd⟩=fe at*;generalize au ⟨fn,fd⟩=gf at*;obtain⟨gl,Ml⟩:=zo (bk l);rw[Ml] at HVe;have HGl:=zh fun W u (h:FrsAt W W.heap.size u l)=>qqp u l W h;rw[Ml] at HGl;generalize cD s=sb at*;have HD:=zh ((Blk.new w 26 (zA s Al cl Ai ci Ab cb)).alloc (.cells #[.int .i64 fn,.int .i64 fd] 29));have hE:=Blk.new (w.alloc (.cells (zA s Al cl Ai ci Ab cb) 26)) 29 #[.int .i64 fn,.int .i64 fd]
 rw[yZ] at hE;have HE:=zh hE;have HB:=zh (((yB _ w).alloc (yA _) (.cells (zA s Al cl Ai ci Ab cb) 26)).alloc (by simp) (.cells #[.int .i64 fn,.int .i64 fd] 29));clear hE hn hl WY hve Pu Ml Xs;unfold fc at*;go_enter Tryz.func3,Tryz.ntmps3;go_upto_region 1 with fail;generalize (w.alloc (.cells (zA s Al cl Ai ci Ab cb) 26)).alloc (.cells #[.int .i64 fn,.int .i64 fd] 29)=W1 at*;go_upto_region 3 with (first|(go_at_call 4;refine (HAw.o _).mono ?_;rintro e w1 ⟨rfl,ak⟩))
 have cP:=zh (HB.o.trans (ak.mono HB.o.size));have sL:=zh (HD.o.below ak HD.o.lt);have tR:=zh (HE.o.below ak HE.o.lt);clear ak HAw HB HD HE;obtain⟨z0,z1,z2,z3,z4,z5,z6,z7,z8,z9,j8,fS,iT⟩:=sL.o.c13;have Mc:=vwT.o _ cP.o;go_wp2_with (first|(go_at_call 5;exact zX));refine Mc.mono ?_;rintro e w2 ⟨q,rfl,aU⟩;have dZ:=zh (cP.o.trans (aU.mono cP.o.size));have cY:=zh (sL.o.below aU sL.o.lt);have iq:=zh (tR.o.below aU tR.o.lt)
 clear aU Mc vwT z0 z1 z2 z3 z4 z5 z6 z7 z8 z9 j8 fS iT cP sL tR;cases q
 ·go_wp2_with fail;go_ret;exact⟨rfl,dZ.o⟩
 by_cases c15:(15:Int)<(l.length:Int)
 ·have d15:decide ((15:Int)<(l.length:Int))=true:=yD c15;clear c15;go_wp2_with fail;go_ret;exact⟨rfl,dZ.o⟩
 have d15:decide ((15:Int)<(l.length:Int))=false:=yC c15;clear c15;obtain⟨z0,z1,z2,z3,z4,z5,z6,z7,z8,z9,j8,fS,iT⟩:=cY.o.c13;obtain⟨e0,e1⟩:=iq.o.c2;have ly:=aS.o _ _ dZ.o (Xr.o.grow dZ.o);go_upto_region 6 with (first|(go_at_call 6;refine ly.mono ?_;rintro e w3 ⟨rfl,bM⟩));have cZ:=zh (dZ.o.trans (bM.mono dZ.o.size));have d9:=zh (cY.o.below bM cY.o.lt);have H7:=zh (iq.o.below bM iq.o.lt);clear bM ly aS z0 z1 z2 z3 z4 z5 z6 z7 z8 z9 j8 fS iT e0 e1 d15 dZ cY iq
 obtain⟨z0,z1,z2,z3,z4,z5,z6,z7,z8,z9,j8,fS,iT⟩:=d9.o.c13;obtain⟨e0,e1⟩:=H7.o.c2;have nJ:=BQ.o _ cZ.o;go_wp2_with (first|(go_at_call 7;exact zX));refine nJ.mono ?_;rintro e w4 ⟨rfl,bU⟩;have fI:=zh (cZ.o.trans (bU.mono cZ.o.size));have jC:=zh (d9.o.below bU d9.o.lt);have HE4:=zh (H7.o.below bU H7.o.lt);clear bU nJ BQ z0 z1 z2 z3 z4 z5 z6 z7 z8 z9 j8 fS iT e0 e1 cZ d9 H7;cases sb
 ·obtain rfl:1=ve:=HVe.o;go_wp2_with fail;go_ret;exact⟨rfl,fI.o⟩
 have Kt:=HGl.o _ _ (Xr.o.grow fI.o);go_wp2_with (first|(go_at_call 8;exact zX));refine Kt.mono ?_;rintro e w5 ⟨rfl,aR⟩;have cJ:=zh (fI.o.trans (aR.mono fI.o.size));have pK:=zh (jC.o.below aR jC.o.lt);have Ax:=zh (HE4.o.below aR HE4.o.lt);clear aR Kt HGl fI jC HE4;cases gl
 ·obtain rfl:1=ve:=HVe.o;go_wp2_with fail;go_ret;exact⟨rfl,cJ.o⟩
 obtain⟨e0,e1⟩:=Ax.o.c2;go_wp2_with (first|(go_at_call 9;exact zX));refine (HFv.o _).mono ?_;rintro e w6 ⟨rfl,ie⟩;have kH:=zh (cJ.o.trans (ie.mono cJ.o.size));have ri:=zh (pK.o.below ie pK.o.lt);have WI:=zh (Ax.o.below ie Ax.o.lt);clear ie HFv e0 e1 cJ pK Ax;cases gf
 ·obtain rfl:1=ve:=HVe.o;go_wp2_with fail;go_ret;exact⟨rfl,kH.o⟩
 obtain⟨e0,e1⟩:=WI.o.c2;go_wp2_with (first|(go_at_call 10;exact zX));refine (HFi.o _ (by first|rfl|trivial)).mono ?_;rintro e w7 ⟨rfl,lF⟩;have pd:=zh (kH.o.trans (lF.mono kH.o.size));have Lc:=zh (ri.o.below lF ri.o.lt);have HE7:=zh (WI.o.below lF WI.o.lt);clear lF HFi e0 e1 kH ri WI;by_cases cf:fe=0;rotate_left
 ·obtain rfl:2=ve:=by have:=HVe.o;rw[if_pos (show (true&&(true&&true))=true from rfl),if_neg cf] at this;exact this
  have df:decide (fe=0)=false:=yC cf;rw[df];clear cf df;go_wp2_with fail;go_ret;exact⟨rfl,pd.o⟩
 obtain rfl:0=ve:=by have:=HVe.o;rw[if_pos (show (true&&(true&&true))=true from rfl),if_pos cf] at this;exact this
 have df:decide (fe=0)=true:=yD cf;rw[df];clear cf df;obtain⟨z0,z1,z2,z3,z4,z5,z6,z7,z8,z9,j8,fS,iT⟩:=Lc.o.c13;obtain⟨e0,e1⟩:=HE7.o.c2;have hrs:=Xo.o _ _ pd.o (Xr.o.grow pd.o);go_wp2_with (first|(go_at_call 11;exact zX));refine hrs.mono ?_;rintro e w8 ⟨rfl,aJ⟩;have ep:=zh (pd.o.trans (aJ.mono pd.o.size));clear aJ hrs Xo z0 z1 z2 z3 z4 z5 z6 z7 z8 z9 j8 fS iT e0 e1 pd Lc HE7;cases si
 all_goals
  go_wp2_with fail;go_ret;exact⟨rfl,ep.o⟩
open Go.RowKit Go.Shelf Go.ChangeShapes Go.WideShapes Go.Deep
theorem jq (b off k:Nat):(Addr.mk b off none).add k=⟨b,off+k,none⟩:=by
 unfold Addr.add;split
 ·rename_i h;subst h;rfl
 rfl
theorem vX {w:World} {a:Addr} {v:Value} (h:w.cell? a=some v):a.block<w.heap.size:=by
 unfold World.cell? at h;split at h
 ·rename_i c t z hh
  exact (Array.getElem?_eq_some_iff.1 hh).1
 cases h
theorem pj {w:World} {b off:Nat} {s:Option Nat} {v:Value} (h:w.cell? ((Addr.mk b off s).add 0)=some v):s=none:=by
 simpa[Addr.add] using World.cell?_spot h
section
variable {H:Type} {enc:TypeId×Value→H} {w:World} {base:Nat} {spare:Nat→Bool} {held:Bool}
theorem aT {fuel:Nat} {v:Value} {x:DataW H×List MemPlace} (h:DataW.trod enc Tryz.prog w base spare held fuel 3 [v]=some x) :
  ∃n:Int,v=.int .i64 n ∧ -9223372036854775808≤n∧n≤9223372036854775807:=by
 obtain⟨n,hv,-,hw⟩:=DataW.trod_int Tryz.underlying3 h;simp[Lit.wf,IntKind.min,IntKind.max,IntKind.signed,IntKind.bits] at hw;exact⟨n,by simpa using hv,by omega,by omega⟩
theorem nT {fuel:Nat} {v:Value} {x:DataW H×List MemPlace} (h:DataW.trod enc Tryz.prog w base spare held fuel 9 [v]=some x) :
  ∃s:ByteArray,v=.string s∧s.size≤maxLen:=by
 obtain⟨s,hv,-,hw⟩:=DataW.trod_string Tryz.underlying9 h;exact⟨s,by simpa using hv,hw⟩
end
instance:Inhabited Task:=⟨⟨⟨#[]⟩,0,0,0,none,0,[]⟩⟩
section
variable {H:Type} {enc:TypeId×Value→H} {w:World} {base:Nat} {spare:Nat→Bool} {held:Bool}
end
open Go.ChangeShapes Go.WideShapes Go.ChangeAt Go.RowKit
theorem Tryz.own:ownKnob Tryz.prog.godebug=none:=by kernel_rfl
theorem Tryz.laidOut:laidOutB Tryz.prog=true:=by kernel_rfl
section
variable {H:Type} {enc:TypeId×Value→H} {P:Program}
theorem zT {f:Func} {s:ChangeSpec} {apart fresh YR again:Bool} {W W':World} {args:Array Value} {v:Value} {ds gs:List (DataW H)} {before pa pv:List MemPlace}
  (hW:DataW.Whole enc P f.params.toList s.vars apart W args.toList ds gs before)
  (FC:∀(b:Nat) (sp:Nat→Bool) (hd:Bool),DataW.TrodAll enc P W' b sp hd f.resultTypes.toList (v.resultList f.resultTypes.size) (s.fn H (ds++gs)).results [])
  (UJ:∀sp:Nat→Bool,(∀p∈before,sp p.block=true)→DataW.TrodAll enc P W' 0 sp true f.params.toList args.toList (s.fn H (ds++gs)).args pa)
  (F9:∀sp:Nat→Bool,(∀p∈before,sp p.block=true)→DataW.TrodVars enc P W' sp s.vars (s.fn H (ds++gs)).vars pv)
  (hps:before=pa++pv) (hb:Below W.heap.size W W')
  (bL:∀(j:Nat) (t:TypeId) (r:Value),f.resultTypes[j]?=some t→(v.resultList f.resultTypes.size)[j]?=some r→Value.okWide P W' .any 0 t r) :
  s.post enc P f apart fresh YR again W args v W':=by
 have ao:∀p∈before,p.block<W.heap.size:=fun p hp=>hW.lt p hp;have hold:∀p∈before,(fun b=>decide (b<W.heap.size)) p.block=true:=fun p hp=>by simpa using ao p hp
 refine⟨ds,gs,before,[],pa,pv,hW,FC _ _ _,UJ _ hold,F9 _ hold,World.keptBut_mono (fun p hp=>⟨hp,?_⟩) (hb.frame (· ∈ before)),fun _=>?_⟩
 ·rw[hps,List.mem_append] at hp;exact Or.inr hp
 obtain⟨_,_,_,_,_,hz,hn⟩:=hW;refine⟨bL,_,_,([]++pa)++pv,⟨[]++pa,pv,trodAll_append (UJ _ (fun _ _=>rfl)) (FC _ _ _),F9 _ (fun _ _=>rfl),rfl,?_,?_⟩,?_⟩
 ·intro b off hp;have Ag:MemPlace.cell b off∈before:=by rw[hps];simpa using hp
  rw[hb.frozen (ao _ Ag)];exact hz b off Ag
 ·intro ha
  have:=hn ha;rw[hps] at this;simpa using this
 intro p hp _;rw[hps];simpa using hp
theorem tX {W:World} {base:Nat} {sp:Nat→Bool} {held:Bool}:∀ {ts:List TypeId} {vs:List Value} {ds:List (DataW H)} {ps:List MemPlace},DataW.TrodAll enc P W base sp held ts vs ds ps→ds.length=ts.length
 | [],[],[],_,_=>rfl
 | _::ts,_::vs,_::ds,_,⟨_,_,_,h2,_⟩=>by rw[List.length_cons,List.length_cons,tX h2]
theorem AJ (hl:laidOutB P=true) {W W':World} {sp:Nat→Bool} (hb:Below W.heap.size W W'):∀ {ts:List TypeId} {vs:List Value} {ds:List (DataW H)} {ps:List MemPlace},
  (∀t∈ts,P.readableRec t=true∧t<P.types.size)→DataW.TrodAll enc P W 0 (fun _=>true) true ts vs ds ps→(∀p∈ps,p.block<W.heap.size)→(∀p∈ps,sp p.block=true)→DataW.TrodAll enc P W' 0 sp true ts vs ds ps
 | [],[],[],_,_,h,_,_=>h
 | t::_,_::_,_::_,_,ht,⟨p,q,h1,h2,e⟩,ao,hs=>⟨p,q,
   WideElems.Trod_stays hl (ht t List.mem_cons_self).1 (ht t List.mem_cons_self).2 h1 (fun x hx=>hb.same (ao x (by rw[e];exact List.mem_append_left _ hx))) (fun x hx=>hs x (by rw[e];exact List.mem_append_left _ hx)),
   AJ hl hb (fun t ht'=>ht t (List.mem_cons_of_mem _ ht')) h2 (fun x hx=>ao x (by rw[e];exact List.mem_append_right _ hx)) (fun x hx=>hs x (by rw[e];exact List.mem_append_right _ hx)),e⟩
end
theorem Fz {Uh:List (String×DataW Unit)} {K:FuncId} {fn:Func} {s:ChangeSpec} {H:Type} {enc:TypeId×Value→H} {os:Os} (started:os.Started) (qv4:Tryz.prog.inits.idxOf? K=none) (Xe:Tryz.prog.funcs[K]?=some fn)
  (F9:s.vars=[]) (FC:fn.resultTypes=#[4]) (hrd:∀t∈fn.params.toList,Tryz.prog.readableRec t=true∧t<Tryz.prog.types.size)
  (vq0:∀ds:List (DataW H),ds.length=fn.params.size→(s.fn H ds).results=[.lit (.bool true)]∧(s.fn H ds).args=ds∧(s.fn H ds).vars=[])
  (witness:∃(w:World) (tape:Tape) (i:Input),w.os=os∧(w.forCall tape i).Shaped Tryz.prog∧i.vars=[]∧Input.okWide Tryz.prog (w.forCall tape i) .any w.heap.size K i ∧
   ((s.pre enc Tryz.prog fn [] false (w.forCall tape i).memory i.args∧laidMetH Tryz.prog Uh (w.forCall tape i).memory)∧sizedMet enc Tryz.prog fn (OpenSpec.ofChange s) false (w.forCall tape i).memory i.args)∧({}:Assume).holds Tryz.prog (lone (Frame.enter Tryz.prog K i.args .normal) [] (w.forCall tape i)))
  (call:∀(W:World) (base:Nat) (args:Array Value) (ds:List (DataW H)) (ps:List MemPlace),(∀(j:Nat) t v,fn.params[j]?=some t→args[j]?=some v→Value.okWide Tryz.prog W .any base t v) →
   DataW.TrodAll enc Tryz.prog W 0 (fun _=>true) true fn.params.toList args.toList ds ps→Calls Tryz.prog K args W fun e W'=>e=.returned (.bool true)∧Below W.heap.size W W') :
  ReturnsInHanded {} Tryz.checked os K .any (fun w args=>(s.pre enc Tryz.prog fn [] false w args∧laidMetH Tryz.prog Uh w)∧sizedMet enc Tryz.prog fn (OpenSpec.ofChange s) false w args) (s.post enc Tryz.prog fn false true false false):=by
 refine returnsInHanded_of_change_and (C:=Tryz.checked) (X:=fun w _=>laidMetH Tryz.prog Uh w) (fun _ _ _ hh h=>h.of_heap hh) Tryz.own started qv4 Xe witness ?_;intro W base args ds gs before xK hW _ _ _ _;have hW':=hW;obtain⟨p,q,hA,hV,rfl,Xd,hnd⟩:=hW;rw[F9] at hV;obtain⟨rfl,rfl⟩:=trodVars_none hV;rw[List.append_nil] at hW';have cI:ds.length=fn.params.size:=by rw[tX hA,Array.length_toList]
 obtain⟨e1,e2,e3⟩:=vq0 ds cI;refine (call W base args ds p xK hA).mono fun e W' ⟨he,hb⟩=>?_;subst he;have ao:∀x∈p,x.block<W.heap.size:=fun x hx=>hW'.lt x hx;refine⟨_,rfl,zT (pa:=p) (pv:=[]) hW' (fun _ _ _=>?_) (fun sp hsp=>?_) (fun _ _=>?_) (by simp) hb ?_⟩
 ·rw[List.append_nil,e1,FC];exact trodAll_mk1 (shut_bool Tryz.underlying4 _)
 ·rw[List.append_nil,e2];exact AJ Tryz.laidOut hb hrd hA ao hsp
 ·rw[List.append_nil,e3,F9];rfl
 exact ok_one FC rfl (okWide_bool_mk Tryz.underlying4 _)
open Go.RowKit Go.Shelf Go.ChangeShapes Go.WideShapes Go.Deep
theorem qjd {α:Type}:∀ {cs:List α},cs.length=3→∃a b c,cs=[a,b,c]
 | [a,b,c],_=>⟨a,b,c,rfl⟩
theorem qjc {α:Type}:∀ {cs:List α},cs.length=7→∃a b c d e f g,cs=[a,b,c,d,e,f,g]
 | [a,b,c,d,e,f,g],_=>⟨a,b,c,d,e,f,g,rfl⟩
theorem Ub {α:Type}:∀ {cs:List α},cs.length=13→∃a0 a1 a2 a3 a4 a5 a6 a7 a8 a9 a10 a11 a12,cs=[a0,a1,a2,a3,a4,a5,a6,a7,a8,a9,a10,a11,a12]
 | [a0,a1,a2,a3,a4,a5,a6,a7,a8,a9,a10,a11,a12],_=>⟨a0,a1,a2,a3,a4,a5,a6,a7,a8,a9,a10,a11,a12,rfl⟩
theorem CU {α:Type} (f:α→List Value) (k:Nat) (hk:0<k) (hf:∀x,(f x).length=k) (l:List α) (x:Nat) (u:Value) (hu:(l.flatMap f)[x]?=some u):∃(hj:x/k<l.length),(f l[x/k])[x%k]?=some u:=by
 have cI:(l.flatMap f).length=l.length*k:=by
  clear hu
  induction l with
  | nil=>simp
  | cons t l ih=>rw[List.flatMap_cons,yQ,ih,hf,List.length_cons,Nat.succ_mul];omega
 have hx:=(List.getElem?_eq_some_iff.1 hu).1;rw[cI] at hx;have hj:x/k<l.length:=by rw[Nat.div_lt_iff_lt_mul hk];exact hx
 refine⟨hj,?_⟩;rw[←vR f k hf l (x/k) (x%k) hj (YJ _ hk),Nat.div_add_mod' x k];exact hu
section
variable {H:Type} {enc:TypeId×Value→H} {w:World} {base:Nat} {spare:Nat→Bool} {held:Bool}
theorem cv {fuel T k:Nat} {cs l:List Value} {v:Value} {y:DataW H×List MemPlace} (h:DataW.trod enc Tryz.prog w base spare held fuel T (List.take (Tryz.prog.cellsOf T) (List.drop k cs))=some y)
  (hT:Tryz.prog.cellsOf T=1:=by kernel_rfl) (hd:List.drop k cs=v::l:=by rfl):DataW.trod enc Tryz.prog w base spare held fuel T [v]=some y:=by
 rw[hd,hT] at h;exact h
theorem zY {fuel:Nat} {v:Value} {x:DataW H×List MemPlace} (h:DataW.trod enc Tryz.prog w base spare held fuel 22 [v]=some x) :
  ∃(s:List Int) (A:Option Addr) (c:Nat),v=.slice A s.length c∧bg w w.heap.size v s:=by
 rcases open_slice1 Tryz.underlying22 (by kernel_rfl) h with⟨jJ,-⟩|⟨a,len,cap,m,n,V,D,Pl,jJ,_,hl,hm,Xb,-,hi⟩
 ·obtain rfl:v=.slice none 0 0:=by simpa using jJ
  exact⟨[],none,0,rfl,none,0,rfl,yA _,yI _,fun h=>absurd h (by simp)⟩
 obtain rfl:v=.slice (some a) len cap:=by simpa using jJ
 have ko:len≤m:=by rw[Xb];split <;> omega
 have each:∀i,i<len→∃z:Int,w.cell? (a.add i)=some (.int .i64 z):=fun i ff=>by
  obtain⟨h1,h2⟩:=hi i (by omega);obtain⟨z,hz,-⟩:=aT h2;exact⟨z,by rw[h1,hz]⟩
 obtain⟨Z,hZ⟩:=choose_lt each;have hL:((List.range len).map Z).length=len:=by simp
 refine⟨(List.range len).map Z,some a,cap,by rw[hL],some a,cap,by rw[hL],by rw[hL];exact hl,hm,fun hn=>?_⟩;rw[hL] at hn;obtain⟨b,off,sp⟩:=a;have h0:=hZ 0 hn;obtain rfl:=pj h0;have ao:b<w.heap.size:=by simpa[jq] using vX h0
 refine⟨b,off,rfl,ao,fun j u hu=>?_⟩;rw[YC,Option.map_eq_some_iff] at hu;obtain⟨z,hz,rfl⟩:=hu;have hj:j<len:=by have:=(List.getElem?_eq_some_iff.1 hz).1;simpa using this
 have Ma:Z j=z:=by simpa[hj] using hz
 have:=hZ j hj;rw[jq,Ma] at this;exact this
instance:Inhabited ItemT:=⟨⟨⟨#[]⟩,0,0,0,0,0,0⟩⟩
theorem zW {fuel:Nat} {v:Value} {x:DataW H×List MemPlace} (h:DataW.trod enc Tryz.prog w base spare held fuel 23 [v]=some x) :
  ∃(l:List ItemT) (A:Option Addr) (c:Nat),v=.slice A l.length c∧Flat w w.heap.size v l.length (l.flatMap ItemT.cells)∧∀t∈l,t.name.size≤maxLen:=by
 rcases open_slice Tryz.underlying23 h with⟨jJ,-⟩|⟨a,len,cap,m,n,D,Pl,jJ,_,hl,hm,Xb,-,hi⟩
 ·obtain rfl:v=.slice none 0 0:=by simpa using jJ
  exact⟨[],none,0,rfl,⟨none,0,rfl,yA _,yI _,fun h=>absurd h (by simp)⟩,by simp⟩
 obtain rfl:v=.slice (some a) len cap:=by simpa using jJ
 have ko:len≤m:=by rw[Xb];split <;> omega
 have hC:Tryz.prog.cellsOf 52=7:=by kernel_rfl
 rw[hC] at hi;have each:∀i,i<len→∃t:ItemT,(∀k u,t.cells[k]?=some u→w.cell? (a.add (i*7+k))=some u)∧t.name.size≤maxLen:=fun i ff=>by
  obtain⟨cs,hc,ht⟩:=hi i (by omega);obtain⟨ys,n',hn',hy,cI,GV,hf⟩:=DataW.trod_struct Tryz.underlying52 ht;obtain⟨_,eG,DF⟩:=World.cells?_some hc;obtain⟨c0,c1,c2,c3,c4,c5,c6,rfl⟩:=qjc eG;obtain⟨y0,y1,y2,y3,y4,y5,y6,rfl⟩:=qjc GV;obtain⟨f0,rfl,iu⟩:=nT (v:=c0) (cv (k:=0) (hf 0 _ rfl));obtain⟨f1,rfl,-⟩:=aT (v:=c1) (cv (k:=1) (hf 1 _ rfl));obtain⟨f2,rfl,-⟩:=aT (v:=c2) (cv (k:=2) (hf 2 _ rfl));obtain⟨f3,rfl,-⟩:=aT (v:=c3) (cv (k:=3) (hf 3 _ rfl))
  obtain⟨f4,rfl,-⟩:=aT (v:=c4) (cv (k:=4) (hf 4 _ rfl));obtain⟨f5,rfl,-⟩:=aT (v:=c5) (cv (k:=5) (hf 5 _ rfl));obtain⟨f6,rfl,-⟩:=aT (v:=c6) (cv (k:=6) (hf 6 _ rfl));refine⟨⟨f0,f1,f2,f3,f4,f5,f6⟩,fun k u hk=>?_,iu⟩;have hk5:k<7:=(List.getElem?_eq_some_iff.1 hk).1;rw[←add_add,DF k hk5];exact hk
 obtain⟨T,hT⟩:=choose_lt each;have hL:((List.range len).map T).length=len:=by simp
 refine⟨(List.range len).map T,some a,cap,by rw[hL],⟨some a,cap,by rw[hL],by rw[hL];exact hl,hm,fun hn=>?_⟩,fun t ht=>?_⟩
 ·rw[hL] at hn;obtain⟨b,off,sp⟩:=a;have h0:=(hT 0 hn).1 0 _ rfl;obtain rfl:=pj h0;have ao:b<w.heap.size:=by simpa[jq] using vX h0
  refine⟨b,off,rfl,ao,fun j u hu=>?_⟩;obtain⟨hj,Mb⟩:=CU ItemT.cells 7 (by decide) (fun _=>rfl) _ _ _ hu;rw[hL] at hj
  have:=(hT _ hj).1 (j%7) u (by simpa using Mb);rw[jq,Nat.div_add_mod' j 7] at this;exact this
 simp only[List.mem_map,List.mem_range] at ht;obtain⟨i,hi,rfl⟩:=ht;exact (hT i hi).2
instance:Inhabited BrickT:=⟨⟨⟨#[]⟩,0,0⟩⟩
theorem zi {fuel:Nat} {v:Value} {x:DataW H×List MemPlace} (h:DataW.trod enc Tryz.prog w base spare held fuel 24 [v]=some x) :
  ∃(l:List BrickT) (A:Option Addr) (c:Nat),v=.slice A l.length c∧Flat w w.heap.size v l.length (l.flatMap BrickT.cells)∧∀t∈l,t.name.size≤maxLen:=by
 rcases open_slice Tryz.underlying24 h with⟨jJ,-⟩|⟨a,len,cap,m,n,D,Pl,jJ,_,hl,hm,Xb,-,hi⟩
 ·obtain rfl:v=.slice none 0 0:=by simpa using jJ
  exact⟨[],none,0,rfl,⟨none,0,rfl,yA _,yI _,fun h=>absurd h (by simp)⟩,by simp⟩
 obtain rfl:v=.slice (some a) len cap:=by simpa using jJ
 have ko:len≤m:=by rw[Xb];split <;> omega
 have hC:Tryz.prog.cellsOf 54=3:=by kernel_rfl
 rw[hC] at hi;have each:∀i,i<len→∃t:BrickT,(∀k u,t.cells[k]?=some u→w.cell? (a.add (i*3+k))=some u)∧t.name.size≤maxLen:=fun i ff=>by
  obtain⟨cs,hc,ht⟩:=hi i (by omega);obtain⟨ys,n',hn',hy,cI,GV,hf⟩:=DataW.trod_struct Tryz.underlying54 ht;obtain⟨_,eG,DF⟩:=World.cells?_some hc;obtain⟨c0,c1,c2,rfl⟩:=qjd eG;obtain⟨y0,y1,y2,rfl⟩:=qjd GV;obtain⟨f0,rfl,iu⟩:=nT (v:=c0) (cv (k:=0) (hf 0 _ rfl));obtain⟨f1,rfl,-⟩:=aT (v:=c1) (cv (k:=1) (hf 1 _ rfl));obtain⟨f2,rfl,-⟩:=aT (v:=c2) (cv (k:=2) (hf 2 _ rfl));refine⟨⟨f0,f1,f2⟩,fun k u hk=>?_,iu⟩
  have hk5:k<3:=(List.getElem?_eq_some_iff.1 hk).1;rw[←add_add,DF k hk5];exact hk
 obtain⟨T,hT⟩:=choose_lt each;have hL:((List.range len).map T).length=len:=by simp
 refine⟨(List.range len).map T,some a,cap,by rw[hL],⟨some a,cap,by rw[hL],by rw[hL];exact hl,hm,fun hn=>?_⟩,fun t ht=>?_⟩
 ·rw[hL] at hn;obtain⟨b,off,sp⟩:=a;have h0:=(hT 0 hn).1 0 _ rfl;obtain rfl:=pj h0;have ao:b<w.heap.size:=by simpa[jq] using vX h0
  refine⟨b,off,rfl,ao,fun j u hu=>?_⟩;obtain⟨hj,Mb⟩:=CU BrickT.cells 3 (by decide) (fun _=>rfl) _ _ _ hu;rw[hL] at hj
  have:=(hT _ hj).1 (j%3) u (by simpa using Mb);rw[jq,Nat.div_add_mod' j 3] at this;exact this
 simp only[List.mem_map,List.mem_range] at ht;obtain⟨i,hi,rfl⟩:=ht;exact (hT i hi).2
theorem Ee {fuel:Nat} {cs:List Value} {x:DataW H×List MemPlace} (cI:cs.length=13) (h:DataW.trod enc Tryz.prog w base spare held fuel 26 cs=some x) :
  ∃s,SetAt w w.heap.size (.agg cs.toArray) s∧SetNames s:=by
 obtain⟨ys,n',hn',hy,vq6,GV,hf⟩:=DataW.trod_struct Tryz.underlying26 h;obtain⟨c0,c1,c2,c3,c4,c5,c6,c7,c8,c9,c10,c11,c12,rfl⟩:=Ub cI;obtain⟨y0,y1,y2,y3,y4,y5,y6,y7,y8,y9,y10,y11,y12,rfl⟩:=Ub GV;obtain⟨f0,rfl,iu⟩:=nT (v:=c0) (cv (k:=0) (hf 0 _ rfl));obtain⟨f1,rfl,-⟩:=aT (v:=c1) (cv (k:=1) (hf 1 _ rfl));obtain⟨f2,rfl,-⟩:=aT (v:=c2) (cv (k:=2) (hf 2 _ rfl));obtain⟨f3,rfl,-⟩:=aT (v:=c3) (cv (k:=3) (hf 3 _ rfl))
 obtain⟨f4,rfl,-⟩:=aT (v:=c4) (cv (k:=4) (hf 4 _ rfl));obtain⟨f5,Al,cl,rfl,hL⟩:=zY (v:=c5) (cv (k:=5) (hf 5 _ rfl));obtain⟨f6,rfl,-⟩:=aT (v:=c6) (cv (k:=6) (hf 6 _ rfl));obtain⟨f7,rfl,-⟩:=aT (v:=c7) (cv (k:=7) (hf 7 _ rfl));obtain⟨f8,rfl,-⟩:=aT (v:=c8) (cv (k:=8) (hf 8 _ rfl));obtain⟨f9,rfl,-⟩:=aT (v:=c9) (cv (k:=9) (hf 9 _ rfl));obtain⟨f10,rfl,-⟩:=aT (v:=c10) (cv (k:=10) (hf 10 _ rfl));obtain⟨f11,Ai,ci,rfl,hI,hIn⟩:=zW (v:=c11) (cv (k:=11) (hf 11 _ rfl))
 obtain⟨f12,Ab,cb,rfl,hB,hBn⟩:=zi (v:=c12) (cv (k:=12) (hf 12 _ rfl));exact⟨⟨f0,f1,f2,f3,f4,f5,f6,f7,f8,f9,f10,f11,f12⟩,⟨Al,cl,Ai,ci,Ab,cb,rfl,hL,hI,hB⟩,⟨iu,hIn,hBn⟩⟩
end
theorem LK {α:Type}:∀ {cs:List α},cs.length=2→∃a b,cs=[a,b]
 | [a,b],_=>⟨a,b,rfl⟩
section
variable {H:Type} {enc:TypeId×Value→H} {w:World} {base:Nat} {spare:Nat→Bool} {held:Bool}
theorem CS {fuel:Nat} {cs:Array Value} {x:DataW H×List MemPlace} (cI:cs.size=2) (h:DataW.trod enc Tryz.prog w base spare held fuel 29 (Value.agg cs).cells.toList=some x) :
  ∃t:FrT,Value.agg cs=t.val:=by
 obtain⟨l⟩:=cs;have h':DataW.trod enc Tryz.prog w base spare held fuel 29 l=some x:=h;obtain⟨ys,n',hn',hy,vq6,GV,hf⟩:=DataW.trod_struct Tryz.underlying29 h';obtain⟨c0,c1,rfl⟩:=LK (show l.length=2 from cI);obtain⟨y0,y1,rfl⟩:=LK GV;have g0:DataW.trod enc Tryz.prog w base spare held n' 3 (List.take (Tryz.prog.cellsOf 3) (List.drop 0 [c0,c1]))=some y0:=hf 0 _ rfl;have g1:DataW.trod enc Tryz.prog w base spare held n' 3 (List.take (Tryz.prog.cellsOf 3) (List.drop 1 [c0,c1]))=some y1:=hf 1 _ rfl
 rw[show Tryz.prog.cellsOf 3=1 from by kernel_rfl] at g0;rw[show Tryz.prog.cellsOf 3=1 from by kernel_rfl] at g1;obtain⟨f0,rfl,-⟩:=aT (v:=c0) g0;obtain⟨f1,rfl,-⟩:=aT (v:=c1) g1;exact⟨⟨f0,f1⟩,rfl⟩
end
section
variable {H:Type} {enc:TypeId×Value→H} {w:World} {base:Nat} {spare:Nat→Bool} {held:Bool}
instance:Inhabited FrT:=⟨⟨0,0⟩⟩
theorem Ak {fuel:Nat} {v:Value} {x:DataW H×List MemPlace} (h:DataW.trod enc Tryz.prog w base spare held fuel 27 [v]=some x) :
  ∃l:List FrT,FrsAt w w.heap.size v l:=by
 rcases open_slice Tryz.underlying27 h with⟨jJ,-⟩|⟨a,len,cap,m,n,D,Pl,jJ,_,hl,hm,Xb,-,hi⟩
 ·obtain rfl:v=.slice none 0 0:=by simpa using jJ
  exact⟨[],none,0,rfl,yA _,yI _,fun h=>absurd h (by simp)⟩
 obtain rfl:v=.slice (some a) len cap:=by simpa using jJ
 have ko:len≤m:=by rw[Xb];split <;> omega
 have hC:Tryz.prog.cellsOf 29=2:=by kernel_rfl
 rw[hC] at hi;have each:∀i,i<len→∃t:FrT,(∀k u,t.cells[k]?=some u→w.cell? (a.add (i*2+k))=some u):=fun i ff=>by
  obtain⟨cs,hc,ht⟩:=hi i (by omega);obtain⟨ys,n',hn',hy,cI,GV,hf⟩:=DataW.trod_struct Tryz.underlying29 ht;obtain⟨_,eG,DF⟩:=World.cells?_some hc;obtain⟨c0,c1,rfl⟩:=LK eG;obtain⟨y0,y1,rfl⟩:=LK GV;have g0:DataW.trod enc Tryz.prog w base spare held n' 3 (List.take (Tryz.prog.cellsOf 3) (List.drop 0 [c0,c1]))=some y0:=hf 0 _ rfl;rw[show Tryz.prog.cellsOf 3=1 from by kernel_rfl] at g0;have g1:DataW.trod enc Tryz.prog w base spare held n' 3 (List.take (Tryz.prog.cellsOf 3) (List.drop 1 [c0,c1]))=some y1:=hf 1 _ rfl
  rw[show Tryz.prog.cellsOf 3=1 from by kernel_rfl] at g1;obtain⟨f0,rfl,-⟩:=aT (v:=c0) g0;obtain⟨f1,rfl,-⟩:=aT (v:=c1) g1;refine⟨⟨f0,f1⟩,fun k u hk=>?_⟩;have hk5:k<2:=(List.getElem?_eq_some_iff.1 hk).1;rw[←add_add,DF k hk5];exact hk
 obtain⟨T,hT⟩:=choose_lt each;have hL:((List.range len).map T).length=len:=by simp
 refine⟨(List.range len).map T,⟨some a,cap,by rw[hL],by rw[hL];exact hl,hm,fun hn=>?_⟩⟩;rw[hL] at hn;obtain⟨b,off,sp⟩:=a;have h0:=(hT 0 hn) 0 _ rfl;obtain rfl:=pj h0;have ao:b<w.heap.size:=by simpa[jq] using vX h0
 refine⟨b,off,rfl,ao,fun j u hu=>?_⟩;obtain⟨hj,Mb⟩:=CU FrT.cells 2 (by decide) (fun _=>rfl) _ _ _ hu;rw[hL] at hj
 have:=(hT _ hj) (j%2) u (by simpa using Mb);rw[jq,Nat.div_add_mod' j 2] at this;exact this
end
