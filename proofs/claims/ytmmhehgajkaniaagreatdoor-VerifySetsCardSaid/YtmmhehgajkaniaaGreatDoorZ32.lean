/- Lemmas. -/
import Derived.Test.YtmmhehgajkaniaaGreatDoorZ15
namespace Go.Proofs.YtmmhehgajkaniaaGreatDoor
set_option maxRecDepth 100000
set_option maxHeartbeats 40000000
open Go.RowKit Go.Shelf
def vx8 (w:World) (e:Ending) (w':World):Prop:=∃q:Bool,e=.returned (.bool q)∧Below w.heap.size w w'
theorem Qy (v:Value) (s:SetT) (n:Int) (w:World) (hv:SetAt w w.heap.size v s) (_de:s.name.size≤maxLen) (iu:∀x∈s.items,x.name.size≤maxLen) (hbm:∀x∈s.bricks,x.name.size≤maxLen) :
  Calls Tryz.prog 5 #[v,.int .i64 n] w (vx8 w):=by
 obtain⟨Al,cl,Ai,ci,Ab,cb,rfl,hL,hI,hB⟩:=hv;obtain⟨_,_,e,rV,sO,-⟩:=hL.open_;injection e with e1 _ e2;subst e1 e2;obtain⟨_,_,e,Py,hi2,U6⟩:=hI.open_;injection e with e1 _ e2;subst e1 e2;obtain⟨_,_,e,Oi,GZ,hkc⟩:=hB.open_;injection e with e1 _ e2;subst e1 e2;have HI:=zh U6;have HK:=zh hkc;have HN:=zh iu;have HM:=zh hbm;have HD:=zh (Blk.new w 26 (zA s Al cl Ai ci Ab cb));have cP:=zh ((yB _ w).alloc (yA _) (.cells (zA s Al cl Ai ci Ab cb) 26))
 unfold maxLen at sO hi2 GZ;unfold fc;clear hL hI hB U6 hkc iu hbm;by_cases c0:60<(s.name.size:Int)
 ·have d0:decide (60<(s.name.size:Int))=true:=yD c0;go_enter Tryz.func5,Tryz.ntmps5;go_wp2;go_ret;exact⟨_,rfl,cP.o⟩
 have d0:decide (60<(s.name.size:Int))=false:=yC c0;by_cases c1:12<(s.lines.length:Int)
 ·have d1:decide (12<(s.lines.length:Int))=true:=yD c1;go_enter Tryz.func5,Tryz.ntmps5;go_wp2;go_ret;exact⟨_,rfl,cP.o⟩
 have d1:decide (12<(s.lines.length:Int))=false:=yC c1;by_cases c2:n<(s.items.length:Int)
 case' pos=>
  have d2:decide (n<(s.items.length:Int))=true:=yD c2;by_cases c3:(s.items.length:Int)≤40
  ·have d3:decide ((s.items.length:Int)≤40)=true:=yD c3;go_enter Tryz.func5,Tryz.ntmps5;go_wp2;go_ret;exact⟨_,rfl,cP.o⟩
  have d3:decide ((s.items.length:Int)≤40)=false:=yC c3
 case' neg=>
  have d2:decide (n<(s.items.length:Int))=false:=yC c2
 all_goals
  by_cases c4:45<(s.items.length:Int)
  ·have d4:decide (45<(s.items.length:Int))=true:=yD c4;go_enter Tryz.func5,Tryz.ntmps5;go_wp2;go_ret;exact⟨_,rfl,cP.o⟩
  have d4:decide (45<(s.items.length:Int))=false:=yC c4;by_cases c5:10<(s.bricks.length:Int)
  ·have d5:decide (10<(s.bricks.length:Int))=true:=yD c5;go_enter Tryz.func5,Tryz.ntmps5;go_wp2;go_ret;exact⟨_,rfl,cP.o⟩
  have d5:decide (10<(s.bricks.length:Int))=false:=yC c5;go_enter Tryz.func5,Tryz.ntmps5;go_wp2;generalize w.alloc (.cells (zA s Al cl Ai ci Ab cb) 26)=W1 at*;have fS:=HD.o.cell 11;have iT:=HD.o.cell 12;simp only[aG,aH,aD] at fS iT;go_loopw [5] (fun x wr=>∃k:Nat,k≤s.items.length∧x=.int .i64 k∧W1=wr) (fun x _=>s.items.length-(intOf x).toNat)
  case atStart=>exact⟨0,yI _,rfl,rfl⟩
  obtain⟨k,hk,rfl,rfl⟩:=hrel;by_cases ay:k<s.items.length
  ·obtain⟨b,off,rfl,hb,hc⟩:=HI.o k ay;have y0:=(cP.o.cell (p:=⟨b,off+k*7,none⟩) hb).trans (hc k ay).1;have hz:=HN.o _ (yV ay);unfold maxLen at hz;have i1:(0:Int)≤(k:Int):=yE _;have i2:(k:Int)<(s.items.length:Int):=by omega
   clear hc;by_cases g:60<(s.items[k].name.size:Int)
   ·have gd:=yD g;go_wp2;go_ret;exact⟨_,rfl,cP.o⟩
   have gd:=yC g;go_wp2;go_roundw
   case rel=>exact⟨k+1,by omega,by go_num,by trivial⟩
   simp[intOf];omega
  obtain rfl:k=s.items.length:=by omega
  go_wp2;go_loopw [6] (fun x wr=>∃k:Nat,k≤s.bricks.length∧x=.int .i64 k∧W1=wr) (fun x _=>s.bricks.length-(intOf x).toNat)
  case atStart=>exact⟨0,yI _,rfl,rfl⟩
  obtain⟨k,hk,rfl,rfl⟩:=hrel;by_cases ay:k<s.bricks.length
  ·obtain⟨b,off,rfl,hb,hc⟩:=HK.o k ay;have y0:=(cP.o.cell (p:=⟨b,off+k*3,none⟩) hb).trans (hc k ay).1;have hz:=HM.o _ (yV ay);unfold maxLen at hz;have i1:(0:Int)≤(k:Int):=yE _;have i2:(k:Int)<(s.bricks.length:Int):=by omega
   clear hc;by_cases g:60<(s.bricks[k].name.size:Int)
   ·have gd:=yD g;go_wp2;go_ret;exact⟨_,rfl,cP.o⟩
   have gd:=yC g;go_wp2;go_roundw
   case rel=>exact⟨k+1,by omega,by go_num,by trivial⟩
   simp[intOf];omega
  obtain rfl:k=s.bricks.length:=by omega
  go_wp2;go_ret;exact⟨_,rfl,cP.o⟩
def jM (b:BeamT) (r m:List FrT):Bool:=cF b&&(bk r&&bk m)
def nj (b:BeamT) (r m:List FrT):Bool:=bN b&&dM (cd b)&&dM (jw b)&&decide (r=(cd b).map fM)&&decide (m=(jw b).map fM)
def OW (b:BeamT) (r m:List FrT) (w:World) (e:Ending) (w':World):Prop :=
 Below w.heap.size w w'∧((jM b r m=false∧e=.returned (.tuple #[.bool false,.int .i64 1]))∨(jM b r m=true∧e=.returned (.tuple #[.bool (nj b r m),.int .i64 0])))
theorem KQ {b:BeamT} {r m:List FrT} (h1:bN b=true) (h2:dM (cd b)=true) (h3:dM (jw b)=true):nj b r m=(decide (r=(cd b).map fM)&&decide (m=(jw b).map fM)):=by
 unfold nj;rw[h1,h2,h3];rfl
theorem wG {f:FuncId} {args:Array Value} {W:World} {b:BeamT} {l:List Rat} (h:Calls Tryz.prog f args W (oY b l W)) (h1:cF b=true) (h2:bN b=true) (h3:dM l=true) :
  Calls Tryz.prog f args W fun e w'=>∃u,e=.returned (.tuple #[u,.int .i64 0])∧Y0 (Below W.heap.size W w')∧Y0 (FrsAt w' w'.heap.size u (l.map fM)):=by
 refine h.mono ?_;rintro e w' ⟨hb,⟨-,-,-,u,rfl,h⟩|⟨k,hk,h|h,-⟩⟩
 ·exact⟨u,rfl,hb,h⟩
 ·exact absurd (by unfold cR;rw[h1,h2];rfl) h
 rw[h3] at h;cases h
theorem Ln {f:FuncId} {args:Array Value} {W:World} {b:BeamT} {l:List Rat} (h:Calls Tryz.prog f args W (oY b l W)) (h1:(bN b&&dM l)=false) :
  Calls Tryz.prog f args W fun e w'=>∃k,k≠0∧e=.returned (.tuple #[.slice none 0 0,.int .i64 k])∧Y0 (Below W.heap.size W w'):=by
 refine h.mono ?_;rintro e w' ⟨hb,⟨-,h2,h3,u,rfl,h⟩|⟨k,hk,-,h,-⟩⟩
 ·rw[h2,h3] at h1;cases h1
 exact⟨k,hk,h,hb⟩
theorem qqd (v v1 v2:Value) (b:BeamT) (r m:List FrT) (w:World) (hv:BeamAt w w.heap.size v b) (hn:b.name.size≤maxLen) (hr:FrsAt w w.heap.size v1 r) (hm:FrsAt w w.heap.size v2 m) :
  Calls Tryz.prog 12 #[v,v1,v2] w (OW b r m w):=by
 have BQ:=fun W h=>MC v b W h hn;have sJ:=fun W h=>uM v b W h hn;have Dt:=fun W h=>KP v b W h hn;have HV:=zh hv;obtain⟨A1,c1,rfl,-⟩:=hr.open_;obtain⟨A2,c2,rfl,-⟩:=hm.open_;have HR:=zh hr;have HM:=zh hm;obtain⟨As,cs,Al,cl,rfl,hS,hL⟩:=hv;have HD:=zh (Blk.new w 43 (zC b As cs Al cl));have HB:=zh ((yB _ w).alloc (yA _) (.cells (zC b As cs Al cl) 43));clear hS hL hr hm;go_enter Tryz.func12,Tryz.ntmps12
 go_wp2_with (exact zX);generalize w.alloc (.cells (zC b As cs Al cl) 43)=W1 at*;have nJ:=BQ W1 (HV.o.grow HB.o);replace sJ:=zh sJ
 replace Dt:=zh Dt
 obtain⟨y0,y1,y2,y3,y4⟩:=HD.o.c5;clear BQ;rcases yL (cF b) with bL|bL;rotate_left
 ·rw[bL] at nJ;have HE:Y0 (jM b r m=false):=by unfold Y0 jM;rw[bL];rfl
  clear bL;go_wp2_with (go_at_call 29;refine nJ.mono ?_;rintro e w2 ⟨rfl,aU⟩);go_ret2;exact⟨HB.o.trans (aU.mono HB.o.size),.inl ⟨HE.o,rfl⟩⟩
 rw[bL] at nJ;have qY:=zh bL;clear bL;have HVV:=zh fun W D T hb hD=>Lk (.slice A1 r.length c1) (.slice A2 m.length c2) r m D T W hD ((HR.o.below hb (yA _)).mono (Below.size hb)) ((HM.o.below hb (yA _)).mono (Below.size hb));rcases yL (bk r&&bk m) with hg|hg;rotate_left
 ·have HE:Y0 (jM b r m=false):=by unfold Y0 jM;rw[hg,Bool.and_false]
  rw[hg] at HVV;clear hg;go_wp2_with (first|(go_at_call 29;refine nJ.mono ?_;rintro e w2 ⟨rfl,aU⟩;have dZ:=zh ((HB.o.trans (aU.mono HB.o.size)).alloc (yH HB.o.size aU.size) (.cells #[.slice A1 r.length c1,.slice A2 m.length c2] 27));have cY:=zh ((HD.o.below aU HD.o.lt).alloc (.cells #[.slice A1 r.length c1,.slice A2 m.length c2] 27));have WY:=HVV.o _ _ _ dZ.o (Blk.new w2 27 #[.slice A1 r.length c1,.slice A2 m.length c2]))|(go_at_call 16;refine WY.mono ?_;rintro e w3 ⟨rfl,bM⟩))
  go_ret2;exact⟨dZ.o.trans (bM.mono dZ.o.size),.inl ⟨HE.o,rfl⟩⟩
 have HE:Y0 (jM b r m=true):=by unfold Y0 jM;rw[hg,qY.o];rfl
 rw[hg] at HVV;clear hg;rcases yL (bN b&&dM (cd b)) with ha|ha;rotate_left
 ·have HI:Y0 (nj b r m=false):=by unfold Y0 nj;rw[ha];rfl
  have Ha:=zh ha;clear ha;go_wp2_with (first|(go_at_call 29;refine nJ.mono ?_;rintro e w2 ⟨rfl,aU⟩;have dZ:=zh ((HB.o.trans (aU.mono HB.o.size)).alloc (yH HB.o.size aU.size) (.cells #[.slice A1 r.length c1,.slice A2 m.length c2] 27));have cY:=zh ((HD.o.below aU HD.o.lt).alloc (.cells #[.slice A1 r.length c1,.slice A2 m.length c2] 27));have WY:=HVV.o _ _ _ dZ.o (Blk.new w2 27 #[.slice A1 r.length c1,.slice A2 m.length c2]))|(go_at_call 16;refine WY.mono ?_;rintro e w3 ⟨rfl,bM⟩;have cZ:=zh (dZ.o.trans (bM.mono dZ.o.size));have d9:=zh (cY.o.below bM cY.o.lt);clear bM;have z0:=d9.o.cell 0;have z1:=d9.o.cell 1;have z2:=d9.o.cell 2;have z3:=d9.o.cell 3;have z4:=d9.o.cell 4;simp only[aG,aH,aD] at z0 z1 z2 z3 z4;have Yw:=Ln (sJ.o w3 (HV.o.grow cZ.o)) Ha.o)|(go_at_call 30;refine Yw.mono ?_;rintro e w4 ⟨k,hk,rfl,bU⟩;have Oi:(k==0)=false:=zb hk;have GZ:(k != 0)=true:=bne_iff_ne.2 hk))
  go_ret2;exact⟨cZ.o.trans (bU.o.mono cZ.o.size),.inr ⟨HE.o,by rw[HI.o];rfl⟩⟩
 have Ha:Y0 (bN b=true∧dM (cd b)=true):=by unfold Y0;simpa using ha
 clear ha;rcases yL (dM (jw b)) with hm|hm;rotate_left
 ·have HI:Y0 (nj b r m=false):=by unfold Y0 nj;rw[hm,Bool.and_false];rfl
  have Hm:=zh hm;clear hm;go_wp2_with (first|(go_at_call 29;refine nJ.mono ?_;rintro e w2 ⟨rfl,aU⟩;have dZ:=zh ((HB.o.trans (aU.mono HB.o.size)).alloc (yH HB.o.size aU.size) (.cells #[.slice A1 r.length c1,.slice A2 m.length c2] 27));have cY:=zh ((HD.o.below aU HD.o.lt).alloc (.cells #[.slice A1 r.length c1,.slice A2 m.length c2] 27));have WY:=HVV.o _ _ _ dZ.o (Blk.new w2 27 #[.slice A1 r.length c1,.slice A2 m.length c2]))|(go_at_call 16;refine WY.mono ?_;rintro e w3 ⟨rfl,bM⟩;have cZ:=zh (dZ.o.trans (bM.mono dZ.o.size));have d9:=zh (cY.o.below bM cY.o.lt);clear bM;have z0:=d9.o.cell 0;have z1:=d9.o.cell 1;have z2:=d9.o.cell 2;have z3:=d9.o.cell 3;have z4:=d9.o.cell 4;simp only[aG,aH,aD] at z0 z1 z2 z3 z4;have Yw:=wG (sJ.o w3 (HV.o.grow cZ.o)) qY.o Ha.o.1 Ha.o.2)|(go_at_call 30;refine Yw.mono ?_;rintro e w4 ⟨u4,rfl,bU,hF4⟩;have fI:=zh (cZ.o.trans (bU.o.mono cZ.o.size));have jC:=zh (d9.o.below bU.o d9.o.lt);clear bU;have x0:=jC.o.cell 0;have x1:=jC.o.cell 1;have x2:=jC.o.cell 2;have x3:=jC.o.cell 3;have x4:=jC.o.cell 4;simp only[aG,aH,aD] at x0 x1 x2 x3 x4;have Uy:=Ln (Dt.o w4 (HV.o.grow fI.o)) (by rw[Hm.o,Bool.and_false]))|(go_at_call 31;refine Uy.mono ?_;rintro e w5 ⟨k,hk,rfl,aR⟩;have Oi:(k==0)=false:=zb hk;have GZ:(k != 0)=true:=bne_iff_ne.2 hk))
  go_ret2;exact⟨fI.o.trans (aR.o.mono fI.o.size),.inr ⟨HE.o,by rw[HI.o];rfl⟩⟩
 have HI:Y0 (nj b r m=(decide (r=(cd b).map fM)&&decide (m=(jw b).map fM))):=KQ Ha.o.1 Ha.o.2 hm;have Hm:=zh hm;clear hm;rcases yL (decide (r=(cd b).map fM)) with p1|p1 <;> rcases yL (decide (m=(jw b).map fM)) with p2|p2
 all_goals
  have P1:=zh p1;have P2:=zh p2;rw[p1,p2] at HI;clear p1 p2;go_wp2_with (first|(go_at_call 29;refine nJ.mono ?_;rintro e w2 ⟨rfl,aU⟩;have dZ:=zh ((HB.o.trans (aU.mono HB.o.size)).alloc (yH HB.o.size aU.size) (.cells #[.slice A1 r.length c1,.slice A2 m.length c2] 27));have cY:=zh ((HD.o.below aU HD.o.lt).alloc (.cells #[.slice A1 r.length c1,.slice A2 m.length c2] 27));have WY:=HVV.o _ _ _ dZ.o (Blk.new w2 27 #[.slice A1 r.length c1,.slice A2 m.length c2]))|(go_at_call 16;refine WY.mono ?_;rintro e w3 ⟨rfl,bM⟩;have cZ:=zh (dZ.o.trans (bM.mono dZ.o.size));have d9:=zh (cY.o.below bM cY.o.lt);clear bM;have z0:=d9.o.cell 0;have z1:=d9.o.cell 1;have z2:=d9.o.cell 2;have z3:=d9.o.cell 3;have z4:=d9.o.cell 4;simp only[aG,aH,aD] at z0 z1 z2 z3 z4;have Yw:=wG (sJ.o w3 (HV.o.grow cZ.o)) qY.o Ha.o.1 Ha.o.2)|(go_at_call 30;refine Yw.mono ?_;rintro e w4 ⟨u4,rfl,bU,hF4⟩;have fI:=zh (cZ.o.trans (bU.o.mono cZ.o.size));have jC:=zh (d9.o.below bU.o d9.o.lt);clear bU;have x0:=jC.o.cell 0;have x1:=jC.o.cell 1;have x2:=jC.o.cell 2;have x3:=jC.o.cell 3;have x4:=jC.o.cell 4;simp only[aG,aH,aD] at x0 x1 x2 x3 x4;have Uy:=wG (Dt.o w4 (HV.o.grow fI.o)) qY.o Ha.o.1 Hm.o)|(go_at_call 31;refine Uy.mono ?_;rintro e w5 ⟨u5,rfl,aR,hF5⟩;have cJ:=zh (fI.o.trans (aR.o.mono fI.o.size));have kZ:=Im (.slice A1 r.length c1) u4 r ((cd b).map fM) _ w5 ((HR.o.below cJ.o (yA _)).mono cJ.o.size) ((hF4.o.below aR.o (yA _)).mono aR.o.size);have jT:=fun n=>Im (.slice A2 m.length c2) u5 m ((jw b).map fM) _ (w5.drewN n) ((HM.o.below (Zf cJ.o n) (yA _)).mono cJ.o.size) (hF5.o.below (Zf (yB _ _) n) (yA _));rw[P1.o] at kZ;rw[P2.o] at jT)|(go_at_call 18;refine kZ.mono ?_;rintro e w6 ⟨rfl,n6,rfl⟩)|(go_at_call 18;refine (jT _).mono ?_;rintro e w7 ⟨rfl,n7,rfl⟩))
  go_ret2;exact⟨Zf cJ.o _,.inr ⟨HE.o,by rw[HI.o];rfl⟩⟩
