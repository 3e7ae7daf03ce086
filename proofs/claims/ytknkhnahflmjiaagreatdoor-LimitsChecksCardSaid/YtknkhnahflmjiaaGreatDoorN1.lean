/- Lemmas. -/
import Derived.Test.YtknkhnahflmjiaaGreatDoorW3
namespace Go.Proofs.YtknkhnahflmjiaaGreatDoor
set_option maxRecDepth 100000
set_option maxHeartbeats 40000000
open Go.RowKit Go.Shelf
def AtU (B:Nat) (v:Value) (w:World):Prop:=∃g,v=.pointer (some ⟨g,0,none⟩)∧B≤g∧Blk w g 133 #[.int .u64 0,.int .u64 0]
def gU (B:Nat):GPost:=⟨fun v=>∃g,v=.pointer (some ⟨g,0,none⟩),AtU B,⟨_,0,rfl⟩,fun _ _ _ hb h=>by
 obtain⟨g,h1,h2,h3⟩:=h;exact⟨g,h1,h2,h3.below hb h3.lt⟩,true⟩
theorem vV {P:Program} {o:Oper} {a:Act} {w:World} {B:Nat} (hB:B≤w.heap.size) (h:(execOp a.eval o).run P w=.ok (.value (.pointer (some ⟨w.heap.size,0,none⟩))) (w.alloc (.cells #[.int .u64 0,.int .u64 0] 133))):jv P o a (gU B) w :=
 ⟨_,_,h,(yB _ _).alloc (yA _) _,⟨_,rfl⟩,⟨_,rfl,hB,Blk.new _ _ _⟩,fun _=>⟨w.heap.size,rfl,yA _,by simp⟩⟩
theorem tU {n:Int} (w:World) (h1 : -1152921504606846976≤n) (h2:n≤1152921504606846976) :
  Calls Tryz.prog 95 #[.int .i64 n] w fun e w'=>∃v,e=.returned v∧Below w.heap.size w w'∧(gV (.int .u64 (n.natAbs:Nat))).σ v∧(gV (.int .u64 (n.natAbs:Nat))).φ v w' :=
 (II n w h1 h2).mono fun _ _ ⟨he,hw⟩=>⟨_,he,hw▸yB _ _,rfl,trivial⟩
theorem Nb {x y:Nat} (w:World) (hx:x<18446744073709551616) (hy:y<18446744073709551616) :
  Calls Tryz.prog 98 #[.int .u64 x,.int .u64 y] w fun e w'=>∃v,e=.returned v∧Below w.heap.size w w'∧(gV (cF (x*y))).σ v∧(gV (cF (x*y))).φ v w' :=
 (Nk x y hx hy w).mono fun _ _ ⟨he,hb⟩=>⟨_,he,hb,rfl,trivial⟩
theorem Ki {o w W:World} {g6 g7:Nat} {xn xd yn yd:Value} (hB:Below w.heap.size w W) (h6:w.heap.size + 1 < g6) (h7:w.heap.size + 1 < g7) (fS:g7 ≠ g6) (b6:Blk W g6 133 #[.int .u64 0,.int .u64 0]) (b7:Blk W g7 133 #[.int .u64 0,.int .u64 0])
  (d0:Blk W w.heap.size 23 #[xn,xd]) (d1:Blk W (w.heap.size+1) 23 #[yn,yd]) (x0 x1 y0 y1:Value) (hW:o=((((W.setCell ⟨g6,0,none⟩ x0).setCell ⟨g6,1,none⟩ x1).setCell ⟨g7,0,none⟩ y0).setCell ⟨g7,1,none⟩ y1)) :
  Below w.heap.size w o∧Blk o g6 133 #[x0,x1]∧Blk o g7 133 #[y0,y1]∧Blk o w.heap.size 23 #[xn,xd]∧Blk o (w.heap.size+1) 23 #[yn,yd]:=by
 subst hW;have k4:=fun {g:Nat} {t:TypeId} {c:Array Value} (hb:Blk W g t c) (h1:g≠g6) (h2:g≠g7)=>(((hb.far (p:=⟨g6,0,none⟩) h1 x0).far (p:=⟨g6,1,none⟩) h1 x1).far (p:=⟨g7,0,none⟩) h2 y0).far (p:=⟨g7,1,none⟩) h2 y1;exact⟨(((hB.setCell (by show w.heap.size≤g6;omega) _).setCell (by show w.heap.size≤g6;omega) _).setCell (by show w.heap.size≤g7;omega) _).setCell (by show w.heap.size≤g7;omega) _,
  (((b6.set_ 0 x0).set_ 1 x1).far (p:=⟨g7,0,none⟩) (Ne.symm fS) y0).far (p:=⟨g7,1,none⟩) (Ne.symm fS) y1,(((b7.far (p:=⟨g6,0,none⟩) fS x0).far (p:=⟨g6,1,none⟩) fS x1).set_ 0 y0).set_ 1 y1,k4 d0 (by omega) (by omega),k4 d1 (by omega) (by omega)⟩
theorem IJ (m n:Nat) (w:World):Calls Tryz.prog 138 #[cF m,cF n] w fun e w'=>e=.returned (.bool (decide (m<n)))∧Below w.heap.size w w':=by
 have HV:Y0 ((m<n)↔_):=yt (m:=m) (n:=n) (K:=18446744073709551616) (by decide);have HD:=zh (Blk.new w 133 #[.int .u64 ((m/18446744073709551616:Nat):Int),.int .u64 ((m%18446744073709551616:Nat):Int)]);have cP:=zh ((Blk.new w 133 #[.int .u64 ((m/18446744073709551616:Nat):Int),.int .u64 ((m%18446744073709551616:Nat):Int)]).alloc (.cells #[.int .u64 ((n/18446744073709551616:Nat):Int),.int .u64 ((n%18446744073709551616:Nat):Int)] 133))
 have HB:=zh (((yB _ w).alloc (yA _) (.cells #[.int .u64 ((m/18446744073709551616:Nat):Int),.int .u64 ((m%18446744073709551616:Nat):Int)] 133)).alloc (by simp) (.cells #[.int .u64 ((n/18446744073709551616:Nat):Int),.int .u64 ((n%18446744073709551616:Nat):Int)] 133));unfold cF;generalize m/18446744073709551616=mh at*;generalize m%18446744073709551616=ml at*;generalize n/18446744073709551616=nh at*;generalize n%18446744073709551616=nl at*
 by_cases h1:mh<nh
 ·have d1:decide (mh<nh)=true:=yD h1;have HR:Y0 (decide (m<n)=true):=yD (HV.o.2 (.inl h1));clear h1;go_enter Tryz.func138,Tryz.ntmps138;go_wp2;go_ret;exact⟨Ze HR.o.symm,HB.o⟩
 have d1:decide (mh<nh)=false:=yC h1;by_cases h2:mh=nh
 ·subst h2;have HR:Y0 (decide (m<n)=decide (ml<nl)):=by
   unfold Y0;rw[Bool.eq_iff_iff,yP,yP,HV.o];omega
  clear h1;go_enter Tryz.func138,Tryz.ntmps138;go_wp2;go_ret;exact⟨Ze HR.o.symm,HB.o⟩
 have d2:((mh:Int)==(nh:Int))=false:=zb (by omega);have HR:Y0 (decide (m<n)=false):=yC (by rw[HV.o];omega);clear h1 h2;go_enter Tryz.func138,Tryz.ntmps138;go_wp2;go_ret;exact⟨Ze HR.o.symm,HB.o⟩
theorem IK (a b:FrT) (w:World) (ha:aj a=true) (hb:aj b=true) :
  Calls Tryz.prog 110 #[a.val,b.val] w fun e w'=>e=.returned (.int .i64 (eI a b))∧Below w.heap.size w w':=by
 have HX:=zh (DF ha hb);obtain⟨a1,a2,a3,a4⟩:=bB ha;obtain⟨b1,b2,b3,b4⟩:=bB hb;have hDa:=fun W=>tU (n:=a.den) W (by omega) a2;have hDb:=fun W=>tU (n:=b.den) W (by omega) b2;have hSa:=fun W=>tU (n:=a.num) W a3 a4;have hSb:=fun W=>tU (n:=b.num) W b3 b4;have hP1:=fun W=>Nb (x:=a.num.natAbs) (y:=b.den.natAbs) W (by omega) (by omega);have hP2:=fun W=>Nb (x:=b.num.natAbs) (y:=a.den.natAbs) W (by omega) (by omega)
 clear ha hb a1 a2 a3 a4 b1 b2 b3 b4;generalize eI a b=cr at*;obtain⟨an,ad⟩:=a;obtain⟨bn,bd⟩:=b;simp only at*;have zl:=zh hSa;have HDa:=zh hDa;have HDb:=zh hDb;have Bl:=zh hSb;have Bn:=zh hP1;have Bm:=zh hP2;clear hSa hSb hP1 hP2 hDa hDb;have D0:=(Blk.new w 23 #[.int .i64 an,.int .i64 ad]).alloc (.cells #[.int .i64 bn,.int .i64 bd] 23);have D1:=Blk.new (w.alloc (.cells #[.int .i64 an,.int .i64 ad] 23)) 23 #[.int .i64 bn,.int .i64 bd]
 rw[yZ] at D1;have hB:=((yB _ w).alloc (yA _) (.cells #[.int .i64 an,.int .i64 ad] 23)).alloc (by simp) (.cells #[.int .i64 bn,.int .i64 bd] 23);have hs:((w.alloc (.cells #[.int .i64 an,.int .i64 ad] 23)).alloc (.cells #[.int .i64 bn,.int .i64 bd] 23)).heap.size=w.heap.size+1+1:=by simp
 go_enter Tryz.func110,Tryz.ntmps110;go_wp2_with (exact zX);generalize (w.alloc (.cells #[.int .i64 an,.int .i64 ad] 23)).alloc (.cells #[.int .i64 bn,.int .i64 bd] 23)=w3 at*;have D0:=zh D0;have D1:=zh D1;have HB:=zh hB;have Hs:Y0 (w.heap.size+1<w3.heap.size):=by unfold Y0;omega
 clear hB hs;have y0:=D0.o.cell 0;have y1:=D0.o.cell 1;have y2:=D1.o.cell 0;have y3:=D1.o.cell 1;simp only[aB,aD,aA] at y0 y1 y2 y3;have u0:=YL y0;have u1:=YL y1;have u2:=YL y2;have u3:=YL y3;clear y0 y1 y2 y3;refine dt 16 (fun jx=>if jx=2 then some (gV (.int .u64 (an.natAbs:Nat))) else if jx=5 then some (gV (.int .u64 (bd.natAbs:Nat))) else if jx=6 then some (gV (cF (an.natAbs*bd.natAbs))) else if jx=9 then some (gV (.int .u64 (bn.natAbs:Nat))) else if jx=12 then some (gV (.int .u64 (ad.natAbs:Nat))) else if jx=13 then some (gV (cF (bn.natAbs*ad.natAbs))) else if jx=14 then some (gU w3.heap.size) else if jx=15 then some (gU w3.heap.size) else none) [5,6] (by kernel_rfl) (by kernel_rfl) (by kernel_rfl) (kV rfl rfl) ?_
 simp only[aO,aR,aP,aQ];refine zw 2 ?_;simp only[aO,aR,aP,aQ]
 repeat (go_big_quiet_step (fail))
 refine YE ?_;refine ae rfl rfl (fun w1 _ _=>zc (zl.o w1)) ?_;rintro _ rfl;simp only[Act.put,aw,av,au];refine zw 2 ?_;simp only[aO,aR,aP,aQ]
 repeat (go_big_quiet_step (fail))
 refine YE ?_;refine ae rfl rfl (fun w1 _ _=>zc (HDb.o w1)) ?_;rintro _ rfl;simp only[Act.put,aw,av,au];refine ae rfl rfl (fun w1 _ _=>zc (Bn.o w1)) ?_;rintro _ rfl;simp only[Act.put,aw,av,au];refine zw 2 ?_;simp only[aO,aR,aP,aQ]
 repeat (go_big_quiet_step (fail))
 refine YE ?_;refine ae rfl rfl (fun w1 _ _=>zc (Bl.o w1)) ?_;rintro _ rfl;simp only[Act.put,aw,av,au];refine zw 2 ?_;simp only[aO,aR,aP,aQ]
 repeat (go_big_quiet_step (fail))
 refine YE ?_;refine ae rfl rfl (fun w1 _ _=>zc (HDa.o w1)) ?_;rintro _ rfl;simp only[Act.put,aw,av,au];refine ae rfl rfl (fun w1 _ _=>zc (Bm.o w1)) ?_;rintro _ rfl;simp only[Act.put,aw,av,au];refine aX rfl rfl (fun w1 ak _=>vV ak.size (by go_simp)) ?_;rintro _ ⟨g6,rfl⟩;simp only[Act.put,aw,av,au];refine aX rfl rfl (fun w1 ak _=>vV ak.size (by go_simp)) ?_;rintro _ ⟨g7,rfl⟩;simp only[Act.put,aw,av,au]
 refine Zc ?_;intro w8 aT hF hA;have h6:AtU w3.heap.size (.pointer (some ⟨g6,0,none⟩)) w8:=hF 5;have h7:AtU w3.heap.size (.pointer (some ⟨g7,0,none⟩)) w8:=hF 6;have yf:g7≠g6:=fun e=>(hA 5 (by simp) g6 rfl).2 6 (by simp) (by decide) (by rw[e];rfl);have Ts:=D0.o.below aT D0.o.lt;have Tr:=D1.o.below aT D1.o.lt;have B8:=HB.o.trans (aT.mono HB.o.size);obtain⟨_,e6,l6,b6⟩:=h6;obtain⟨_,e7,l7,b7⟩:=h7;injection e6 with e6
 injection e6 with e6;injection e6 with e6 _ _;injection e7 with e7;injection e7 with e7;injection e7 with e7 _ _;subst e6 e7;have xi:=Hs.o;obtain⟨B9,p6,p7,p0,p1⟩:=Ki B8 (by omega) (by omega) yf b6 b7 Ts Tr (.int .u64 ((an.natAbs*bd.natAbs/18446744073709551616:Nat):Int)) (.int .u64 ((an.natAbs*bd.natAbs%18446744073709551616:Nat):Int)) (.int .u64 ((bn.natAbs*ad.natAbs/18446744073709551616:Nat):Int)) (.int .u64 ((bn.natAbs*ad.natAbs%18446744073709551616:Nat):Int)) rfl
 have kl:Y0 ((an<0→0≤bn→cr=-1)∧(0≤an→bn<0→cr=1)∧(0≤an→0≤bn→cr=sI (an.natAbs*bd.natAbs) (bn.natAbs*ad.natAbs))∧(an<0→bn<0→cr=sI (bn.natAbs*ad.natAbs) (an.natAbs*bd.natAbs))):=HX.o;have Du:=b6.frozen 0;have Dt:=b6.frozen 1;have AI:=(b7.far (p:=⟨g6,0,none⟩) yf (.int .u64 ((an.natAbs*bd.natAbs/18446744073709551616:Nat):Int))).far (p:=⟨g6,1,none⟩) yf (.int .u64 ((an.natAbs*bd.natAbs%18446744073709551616:Nat):Int))
 have zf:=AI.set_ 0 (.int .u64 ((bn.natAbs*ad.natAbs/18446744073709551616:Nat):Int));have TF:=AI.frozen 0;have TE:=zf.frozen 1;have LL:=AI.cell 0;have DY:=zf.cell 1;have Ev:=p6.cell 0;have Eu:=p6.cell 1;have Et:=p7.cell 0;have Es:=p7.cell 1;have Uq:=p0.cell 0;have gT:=p1.cell 0;have TH:=b6.cell 0;have SG:=b6.cell 1;simp only[aw,av] at DY;simp only[aB,aD,aA] at Ev Eu Et Es Uq gT TH SG LL DY;generalize an.natAbs*bd.natAbs=m at*
 generalize bn.natAbs*ad.natAbs=n at*;have Dd:=fun W=>IJ m n W;have H7:=fun W=>IJ n m W;have fX:Y0 (m=n→((m/18446744073709551616:Nat):Int)=((n/18446744073709551616:Nat):Int)∧((m%18446744073709551616:Nat):Int)=((n%18446744073709551616:Nat):Int)):=fun h=>by subst h;exact⟨rfl,rfl⟩
 have gn:Y0 (m≠n→(((m/18446744073709551616:Nat):Int)==((n/18446744073709551616:Nat):Int))=false∨(((m%18446744073709551616:Nat):Int)==((n%18446744073709551616:Nat):Int))=false):=fun h=>by
  by_cases h1:m/18446744073709551616=n/18446744073709551616
  ·refine .inr (zb fun h2=>h ?_);have e1:=YI m 18446744073709551616;have e2:=YI n 18446744073709551616;rw[h1] at e1;omega
  exact .inl (zb fun h2=>h1 (by omega))
 unfold cF at*;generalize ((m/18446744073709551616:Nat):Int)=mh at*;generalize ((m%18446744073709551616:Nat):Int)=ml at*;generalize ((n/18446744073709551616:Nat):Int)=nh at*;generalize ((n%18446744073709551616:Nat):Int)=nl at*;have P6:=zh p6;have P7:=zh p7;have B9:=zh B9;clear AI zf HX zl Bl HDa HDb Bn Bm yf xi Hs l6 l7 b6 b7 p6 p7 p0 p1 B8 Ts Tr hA hF aT HB D0 D1 u0 u1 u2 u3;by_cases c0:an<0
 case' neg=>
  have d0:decide (an<0)=false:=yC c0;have e0:decide (0≤an)=true:=yD (by omega);by_cases cb:bn<0
  case' neg=>
   have d1:decide (bn<0)=false:=yC cb;have e1:decide (0≤bn)=true:=yD (by omega);have e9:=kl.o.2.2.1 (by omega) (by omega);have HF:Y0 ((m=n→cr=0)∧(decide (m<n)=true→cr=-1)∧(m≠n→decide (m<n)=false→cr=1)):=⟨fun h=>e9.trans (AB (by omega)),fun h=>e9.trans (Az (yG h)),fun h0 h=>e9.trans (AA (by have:=of_decide_eq_false h;omega))⟩;clear c0 cb kl e9
  case pos=>
   have d1:decide (bn<0)=true:=yD cb;have e1:decide (0≤bn)=false:=yC (by omega);have CZ:=kl.o.2.1 (by omega) cb;subst CZ;clear kl;go_wp2_with fail;go_ret;exact⟨rfl,B9.o⟩
 case' pos=>
  have d0:decide (an<0)=true:=yD c0;have e0:decide (0≤an)=false:=yC (by omega);by_cases cb:bn<0
  case neg=>
   have d1:decide (bn<0)=false:=yC cb;have e1:decide (0≤bn)=true:=yD (by omega);have CZ:=kl.o.1 c0 (by omega);subst CZ;clear kl;go_wp2_with fail;go_ret;exact⟨rfl,B9.o⟩
  have d1:decide (bn<0)=true:=yD cb;have e1:decide (0≤bn)=false:=yC (by omega);have e9:=kl.o.2.2.2 c0 cb;have HF:Y0 ((m=n→cr=0)∧(decide (m<n)=true→cr=1)∧(m≠n→decide (m<n)=false→cr=-1)):=⟨fun h=>e9.trans (AB (by omega)),fun h=>e9.trans (AA (yG h)),fun h0 h=>e9.trans (Az (by have:=of_decide_eq_false h;omega))⟩;clear c0 cb kl e9
 all_goals
  have Q10:=zh Uq;by_cases Le:m=n
  ·obtain⟨rfl,rfl⟩:=fX.o Le;have CZ:=HF.o.1 Le;subst CZ;clear Le fX gn HF H7 Dd;go_wp2_with fail;go_ret;exact⟨rfl,B9.o⟩
  have oR:=gn.o Le;have qkM:∀W,Calls Tryz.prog 138 #[.agg #[.int .u64 mh,.int .u64 ml],.agg #[.int .u64 nh,.int .u64 nl]] W fun e w'=>∃v,e=.returned v∧Below W.heap.size W w'∧(gV (.bool (decide (m<n)))).σ v∧(gV (.bool (decide (m<n)))).φ v w':=fun W=>(Dd W).mono fun _ _ ⟨he,hb⟩=>⟨_,he,hb,rfl,trivial⟩;have xy:Y0 ((decide (m<n)=true→_)∧(decide (m<n)=false→_)):=⟨HF.o.2.1,HF.o.2.2 Le⟩;have Hmn:=zh Le;generalize decide (m<n)=lt at*
  clear Le fX gn HF H7 Dd;have HLs:=zh qkM;clear qkM;rcases oR with e1|e1
  all_goals
   go_wp2_with (exact zX);have u1:=YL Ev;have u2:=YL Eu;have u3:=YL Et;have u4:=YL Es;have u5:=YL Uq;clear Ev Eu Et Es Uq gT TH SG LL DY Du Dt TF TE;refine af 6 (fun jx=>if jx=2 then some (gV (.bool lt)) else none) (by kernel_rfl) (by kernel_rfl) ?_;simp only[aO,aR,aP,aQ];refine zw 2 ?_;simp only[aO,aR,aP,aQ]
   repeat (go_big_quiet_step (fail))
   refine YE ?_;refine ae rfl rfl (fun w1 _ _=>zc (HLs.o w1)) ?_;rintro _ rfl;simp only[Act.put,aw,av,au];refine zw 3 ?_;simp only[aO,aR,aP,aQ]
   repeat (go_big_quiet_step (fail))
   refine YE ?_;refine Zc ?_;intro zp sw _;have hbz:=B9.o.trans (sw.mono B9.o.size);clear sw u1 u2 u3 u4 u5;cases lt
   case' true=>have CZ:=xy.o.1 rfl
   case' false=>have CZ:=xy.o.2 rfl
   all_goals
    subst CZ;go_wp2_with fail;go_ret;exact⟨rfl,hbz⟩
theorem YU (a b:FrT) (w:World) (ha:aj a=true) (hb:aj b=true) (_:0≤b.num) :
  Calls Tryz.prog 110 #[a.val,b.val] w fun e w'=>e=.returned (.int .i64 (eI a b))∧Below w.heap.size w w':=IK a b w ha hb
def Jp (m:Int) (f a:FrT):Value:=if aC (aU a*aU f)=true then .tuple #[.bool (!cB m f a),.int .i64 0] else .tuple #[.bool false,.int .i64 5]
theorem YR (a f:FrT) (m:Int) (w:World) (ha:aj a=true) (hf:aj f=true) (hm:0≤m∧m≤67108864) :
  Calls Tryz.prog 72 #[a.val,f.val,.int .i64 m] w fun e w'=>e=.returned (Jp m f a)∧Below w.heap.size w w':=by
 have hM:=fun W=>Ng a f W ha hf;have HV:Y0 (Jp m f a=if aC (aU a*aU f)=true then .tuple #[.bool (!cB m f a),.int .i64 0] else .tuple #[.bool false,.int .i64 5]):=rfl;have gZ:Y0 (aC (aU a*aU f)=true→(!cB m f a)=decide (eI (dM (aU a*aU f)) ⟨m,1⟩≤0)):=fun h=>by
  unfold cB;rw[h,Bool.true_and,Bool.eq_iff_iff,Bool.not_eq_true',YD,decide_eq_true_eq];omega
 obtain⟨fx,fy,fz,hv⟩:=cX (aU a*aU f);have HX:Y0 (aC (aU a*aU f)=true→aj ⟨fx,fy⟩=true∧dM (aU a*aU f)=⟨fx,fy⟩∧fz=0):=fun h=>by
  have h2:=jY h;rw[hv] at h2;injection h2 with h2;injection h2 with h2;injection h2 with h3 h4;injection h3 with h3;injection h3 with h3;injection h3 with h5 h6;injection h5 with _ h5;injection h6 with h6 _;injection h6 with _ h6;injection h4 with h4 _;injection h4 with _ h4;have e:dM (aU a*aU f)=⟨fx,fy⟩:=by unfold dM;rw[h5,h6]
  exact⟨by rw[←e];exact qa h,e,h4⟩
 have HN:Y0 (aC (aU a*aU f)=false→fz=5):=fun h=>by
  have h2:=lG h;rw[hv] at h2;injection h2 with h2;injection h2 with h2;injection h2 with h3 h4;injection h4 with h4 _;injection h4 with _ h4
 rw[hv] at hM;have En:=zh fun W (h:aj ⟨fx,fy⟩=true)=>YU ⟨fx,fy⟩ ⟨m,1⟩ W h (nR (by omega) (by omega)) (by show (0:Int)≤m;omega);have HO:=zh fun W=>YP m W;have HM:=zh hM;generalize cB m f a=ob at*;generalize Jp m f a=kv at*;generalize dM (aU a*aU f)=fo at*;generalize aC (aU a*aU f)=ok at*;clear ha hf hm hM hv;obtain⟨an,ad⟩:=a;obtain⟨fn,fd⟩:=f
 try simp only at*
 have s9:=(Blk.new w 23 #[.int .i64 an,.int .i64 ad]).alloc (.cells #[.int .i64 fn,.int .i64 fd] 23);have lF:=Blk.new (w.alloc (.cells #[.int .i64 an,.int .i64 ad] 23)) 23 #[.int .i64 fn,.int .i64 fd];rw[yZ] at lF;have D0:=zh s9;have D1:=zh lF;have HB:=zh (((yB _ w).alloc (yA _) (.cells #[.int .i64 an,.int .i64 ad] 23)).alloc (by simp) (.cells #[.int .i64 fn,.int .i64 fd] 23));clear s9 lF;go_enter Tryz.func72,Tryz.ntmps72
 go_upto_region 1 with fail;generalize (w.alloc (.cells #[.int .i64 an,.int .i64 ad] 23)).alloc (.cells #[.int .i64 fn,.int .i64 fd] 23)=W1 at*;have y0:=D0.o.cell 0;have y1:=D0.o.cell 1;have y2:=D1.o.cell 0;have y3:=D1.o.cell 1;simp only[aB,aD,aA] at y0 y1 y2 y3;go_upto_region 2 with (first|(go_at_call 109;refine (HM.o _).mono ?_;rintro e w2 ⟨rfl,bg⟩));clear y0 y1 y2 y3;have fC:=bg.alloc bg.size (.cells #[.int .i64 fx,.int .i64 fy] 23)
 have HB:=zh (HB.o.trans (fC.mono HB.o.size));have kl:=zh (Blk.new w2 23 #[.int .i64 fx,.int .i64 fy]);clear fC bg D0 D1 HM;generalize w2.alloc (.cells #[.int .i64 fx,.int .i64 fy] 23)=W2 at*;generalize w2.heap.size=n1 at kl⊢;cases ok
 ·have hz:=HN.o rfl;subst hz;have HE:Y0 (kv=.tuple #[.bool false,.int .i64 5]):=HV.o;clear HV gZ HX HN;go_wp2_with fail;refine YF (results_tmp2 rfl _ _ _) (by rfl) ?_;exact⟨by rw[HE.o];rfl,HB.o⟩
 obtain⟨hg,GZ,hz⟩:=HX.o rfl;subst GZ hz;have HE:Y0 (kv=.tuple #[.bool (!ob),.int .i64 0]):=HV.o;have HO2:Y0 ((!ob)=decide (eI ⟨fx,fy⟩ ⟨m,1⟩≤0)):=gZ.o rfl;have En:=zh fun W=>En.o W hg;generalize eI ⟨fx,fy⟩ ⟨m,1⟩=c at*;clear HV gZ HX HN hg;go_upto_region 4 with fail;obtain⟨y0,y1⟩:=kl.o.c2;have u0:=YL y0;have u1:=YL y1;clear y0 y1;refine af 5 (fun jx=>if jx=2 then some (gV (.agg #[.int .i64 m,.int .i64 1])) else if jx=3 then some (gV (.int .i64 c)) else none) (by kernel_rfl) (by kernel_rfl) ?_
 simp only[aO,aR,aP,aQ];refine zw 2 ?_;simp only[aO,aR,aP,aQ]
 repeat (go_big_quiet_step (fail))
 refine YE ?_;refine ae rfl rfl (fun w1 _ _=>⟨53,#[.int .i64 m],by go_simp,(HO.o w1).mono fun _ _ ⟨he,hb⟩=>⟨_,he,hb,rfl,trivial⟩⟩) ?_;rintro _ rfl;simp only[Act.put,aw,av,au];refine ae rfl rfl (fun w1 _ _=>⟨110,#[.agg #[.int .i64 fx,.int .i64 fy],.agg #[.int .i64 m,.int .i64 1]],by go_simp,(En.o w1).mono fun _ _ ⟨he,hb⟩=>⟨_,he,hb,rfl,trivial⟩⟩) ?_;rintro _ rfl;simp only[Act.put,aw,av,au];refine zw 1 ?_
 simp only[aO,aR,aP,aQ]
 repeat (go_big_quiet_step (fail))
 refine YE ?_;refine Zc ?_;intro w4 bP hF;have dw:=zh (HB.o.trans (bP.mono HB.o.size));clear bP hF u0 u1 HB kl En HO;go_wp2_with fail;refine YF (results_tmp2 rfl _ _ _) (by rfl) ?_;exact⟨by rw[HE.o,HO2.o];rfl,dw.o⟩
theorem Fa (f:FrT) (w:World) (hf:aj f=true):Calls Tryz.prog 46 #[f.val] w fun e w'=>e=.returned (.bool (decide (ga f=0)))∧Below w.heap.size w w':=by
 have HE:Y0 (decide (ga f=0)=decide (f.den≤f.num∧f.num≤100∧f.den≤100)):=by
  unfold Y0 ga;rw[if_pos hf,decide_eq_decide];by_cases h:f.den≤f.num∧f.num≤100∧f.den≤100
  ·rw[if_pos h];exact⟨fun _=>h,fun _=>rfl⟩
  rw[if_neg h];exact⟨fun h2=>absurd h2 (by decide),fun h2=>absurd h2 h⟩
 have HB:=zh ((yB _ w).alloc (yA _) (.cells #[.int .i64 f.num,.int .i64 f.den] 23));generalize decide (ga f=0)=b at*;clear hf;obtain⟨n,d⟩:=f;simp only at*;by_cases c1:d≤n
 ·have d1:decide (d≤n)=true:=yD c1;by_cases c2:n≤100
  ·have d2:decide (n≤100)=true:=yD c2;have gn:Y0 (b=decide (d≤100)):=by unfold Y0;rw[HE.o,decide_eq_decide];omega
   clear c1 c2 HE;go_enter Tryz.func46,Tryz.ntmps46;go_wp2_with fail;go_ret;exact⟨Ze gn.o.symm,HB.o⟩
  have d2:decide (n≤100)=false:=yC c2;have gn:Y0 (b=false):=by unfold Y0;rw[HE.o];exact yC (by omega)
  clear c1 c2 HE;go_enter Tryz.func46,Tryz.ntmps46;go_wp2_with fail;go_ret;exact⟨Ze gn.o.symm,HB.o⟩
 have d1:decide (d≤n)=false:=yC c1;have gn:Y0 (b=false):=by unfold Y0;rw[HE.o];exact yC (by omega)
 clear c1 HE;go_enter Tryz.func46,Tryz.ntmps46;go_wp2_with fail;go_ret;exact⟨Ze gn.o.symm,HB.o⟩
