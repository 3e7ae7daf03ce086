/- Lemmas. -/
import Derived.Laws.AppendOwnNone
import Derived.Shelf.Spec.SlicesGrow
import Derived.Test.YtmmhehgajkaniaaGreatDoorZ12
import Derived.Test.YtmmhehgajkaniaaGreatDoorZ14
namespace Go.Proofs.YtmmhehgajkaniaaGreatDoor
set_option maxRecDepth 100000
set_option maxHeartbeats 40000000
open Go.RowKit Go.Shelf
def cR (b:BeamT):Int:=if cF b then (if bN b then 0 else 22) else 1
def Pp (b:BeamT) (w:World) (e:Ending) (w':World):Prop :=
 Below w.heap.size w w'∧((cF b=true∧bN b=true∧∃v,e=.returned (.tuple #[v,.int .i64 0])∧ExsAt w' v (jw b))∨(cR b≠0∧e=.returned (.tuple #[.slice none 0 0,.int .i64 (cR b)])))
def oY (b:BeamT) (l:List Rat) (w:World) (e:Ending) (w':World):Prop :=
 Below w.heap.size w w'∧((cF b=true∧bN b=true∧dM l=true∧∃v,e=.returned (.tuple #[v,.int .i64 0])∧FrsAt w' w'.heap.size v (l.map fM))∨(∃k,k≠0∧(cR b≠0∨dM l=false)∧e=.returned (.tuple #[.slice none 0 0,.int .i64 k])∧(cR b=0→k=5)))
theorem FracsPost.tell {b:BeamT} {l:List Rat} {w w1 w':World} {e:Ending} (h:FracsPost l w1 e w') (hb:Below w.heap.size w w1) (h1:cF b=true) (h2:bN b=true):oY b l w e w':=by
 obtain⟨ev,⟨h3,v,rfl,h4⟩|⟨h3,rfl⟩⟩:=h
 ·refine⟨hb.trans (ev.mono hb.size),.inl ⟨h1,h2,h3,v,rfl,?_⟩⟩
  have:=Flat.of_own h4;unfold FrsAt;rw[yP];exact this
 exact⟨hb.trans (ev.mono hb.size),.inr ⟨5,by decide,.inr h3,rfl,fun _=>rfl⟩⟩
theorem ME (v:Value) (b:BeamT) (w:World) (hv:BeamAt w w.heap.size v b) (hn:b.name.size≤maxLen):Calls Tryz.prog 63 #[v] w (Pp b w):=by
 have BQ:=fun W h=>MC v b W h hn;have Dt:=fun h W h1=>OI v b W h1 h;obtain⟨As,cs,Al,cl,rfl,hS,hL⟩:=hv;have HV:Y0 (BeamAt w w.heap.size (.agg (zC b As cs Al cl)) b):=⟨As,cs,Al,cl,rfl,hS,hL⟩;have HD:=zh (Blk.new w 43 (zC b As cs Al cl));have HB:=zh ((yB _ w).alloc (yA _) (.cells (zC b As cs Al cl) 43));clear hS hL;go_enter Tryz.func63,Tryz.ntmps63;go_wp2_with (exact zX);generalize w.alloc (.cells (zC b As cs Al cl) 43)=W1 at*
 have nJ:=BQ W1 (HV.o.grow HB.o);have Dt:=zh Dt;obtain⟨y0,y1,y2,y3,y4⟩:=HD.o.c5;clear BQ;cases bL:cF b
 ·rw[bL] at nJ;have HE:Y0 (cR b=1):=by unfold Y0 cR;rw[bL];rfl
  go_wp2_with (go_at_call 29;refine nJ.mono ?_;rintro e w2 ⟨rfl,aU⟩);go_ret2;exact⟨HB.o.trans (aU.mono HB.o.size),.inr ⟨by rw[HE.o];decide,by rw[HE.o];rfl⟩⟩
 rw[bL] at nJ;have qY:=zh bL;clear bL;cases ht:bN b
 ·have HT:=zh ht;clear ht;have HE:Y0 (cR b=22):=by unfold Y0 cR;rw[qY.o,HT.o];rfl
  go_wp2_with (first|(go_at_call 29;refine nJ.mono ?_;rintro e w2 ⟨rfl,aU⟩;have dZ:=zh (HB.o.trans (aU.mono HB.o.size));have cY:=zh (HD.o.below aU HD.o.lt);clear aU;have z0:=cY.o.cell 0;have z1:=cY.o.cell 1;have z2:=cY.o.cell 2;have z3:=cY.o.cell 3;have z4:=cY.o.cell 4;simp only[aG,aH,aD] at z0 z1 z2 z3 z4;have Uy:=Dt.o (ja qY.o) w2 (HV.o.grow dZ.o);unfold Dq at Uy;rw[HT.o] at Uy)|(go_at_call 108;refine Uy.mono ?_;rintro e w3 ⟨bM,v3,rfl,h3⟩))
  go_ret2;exact⟨dZ.o.trans (bM.mono dZ.o.size),.inr ⟨by rw[HE.o];decide,by rw[HE.o];rfl⟩⟩
 have HT:=zh ht;clear ht;go_wp2_with (first|(go_at_call 29;refine nJ.mono ?_;rintro e w2 ⟨rfl,aU⟩;have dZ:=zh (HB.o.trans (aU.mono HB.o.size));have cY:=zh (HD.o.below aU HD.o.lt);clear aU;have z0:=cY.o.cell 0;have z1:=cY.o.cell 1;have z2:=cY.o.cell 2;have z3:=cY.o.cell 3;have z4:=cY.o.cell 4;simp only[aG,aH,aD] at z0 z1 z2 z3 z4;have Uy:=Dt.o (ja qY.o) w2 (HV.o.grow dZ.o);unfold Dq at Uy;rw[HT.o] at Uy)|(go_at_call 108;refine Uy.mono ?_;rintro e w3 ⟨bM,v3,rfl,h3⟩))
 go_ret2;exact⟨dZ.o.trans (bM.mono dZ.o.size),.inl ⟨qY.o,HT.o,v3,rfl,h3⟩⟩
theorem uM (v:Value) (b:BeamT) (w:World) (hv:BeamAt w w.heap.size v b) (hn:b.name.size≤maxLen):Calls Tryz.prog 30 #[v] w (oY b (cd b) w):=by
 have HGi:=fun W h=>ME v b W h hn;have sJ:=fun h W u h1 hu=>VM v u b W h1 hu h;have HV:=zh hv;obtain⟨As,cs,Al,cl,rfl,hS,hL⟩:=hv;have HD:=zh (Blk.new w 43 (zC b As cs Al cl));have HB:=zh ((yB _ w).alloc (yA _) (.cells (zC b As cs Al cl) 43));clear hS hL;go_enter Tryz.func30,Tryz.ntmps30;go_wp2_with (exact zX);generalize w.alloc (.cells (zC b As cs Al cl) 43)=W1 at*;have Mm:=HGi W1 (HV.o.grow HB.o);have sJ:=zh sJ
 obtain⟨y0,y1,y2,y3,y4⟩:=HD.o.c5;clear HGi;by_cases hc:cF b=true∧bN b=true
 ·obtain⟨bL,FA⟩:=hc;have HE:Y0 (¬cR b≠0):=by unfold Y0 cR;rw[bL,FA];simp
  have qY:=zh bL;have Htl:=zh FA;clear bL FA;have Ko:Calls Tryz.prog 63 #[.agg (zC b As cs Al cl)] W1 fun e w'=>∃u,e=.returned (.tuple #[u,.int .i64 0])∧Y0 (Below W1.heap.size W1 w')∧Y0 (ExsAt w' u (jw b)):=by
   refine Mm.mono ?_;rintro e w' ⟨h1,⟨-,-,u,rfl,h2⟩|⟨h2,-⟩⟩
   ·exact⟨u,rfl,h1,h2⟩
   exact absurd h2 HE.o
  clear Mm;go_wp2_with (first|(go_at_call 63;refine Ko.mono ?_;rintro e w2 ⟨u,rfl,aU,zO⟩;have dZ:=zh (HB.o.trans (aU.o.mono HB.o.size));have cY:=zh (HD.o.below aU.o HD.o.lt);clear aU;have z0:=cY.o.cell 0;have z1:=cY.o.cell 1;have z2:=cY.o.cell 2;have z3:=cY.o.cell 3;have z4:=cY.o.cell 4;simp only[aG,aH,aD] at z0 z1 z2 z3 z4;have Yw:=sJ.o (ja qY.o) w2 u (HV.o.grow dZ.o) zO.o)|(go_at_call 65;refine Yw.mono ?_;rintro e w3 ⟨bM,v3,rfl,hE3⟩;have cZ:=zh (dZ.o.trans (bM.mono dZ.o.size));have Y6:=MF v3 (cd b) w3 hE3 (by have:=(ja qY.o).sup1;unfold cd;simp;omega);clear bM hE3)|(go_at_call 64;refine Y6.mono ?_;intro e w4 h4;have hT:=FracsPost.tell h4 cZ.o qY.o Htl.o;obtain⟨-,⟨-,v4,rfl,-⟩|⟨-,rfl⟩⟩:=h4))
  all_goals
   go_ret2;exact hT
 have HE:Y0 (¬(cF b=true∧bN b=true)):=hc;clear hc;have Ko:Calls Tryz.prog 63 #[.agg (zC b As cs Al cl)] W1 fun e w'=>cR b≠0∧e=.returned (.tuple #[.slice none 0 0,.int .i64 (cR b)])∧Y0 (Below W1.heap.size W1 w'):=by
  refine Mm.mono ?_;rintro e w' ⟨h1,⟨h3,h4,-⟩|⟨h2,rfl⟩⟩
  ·exact absurd ⟨h3,h4⟩ HE.o
  exact⟨h2,rfl,h1⟩
 clear Mm;generalize hk:cR b=k at*;have HK:=zh hk;clear hk;go_wp2_with (go_at_call 63;refine Ko.mono ?_;rintro e w2 ⟨hk,rfl,aU⟩;have Oi:(k==0)=false:=zb hk;have GZ:(k != 0)=true:=bne_iff_ne.2 hk);go_ret2;exact⟨HB.o.trans (aU.o.mono HB.o.size),.inr ⟨k,hk,.inl (by rw[HK.o];exact hk),rfl,fun h=>absurd h (by rw[HK.o];exact hk)⟩⟩
theorem KP (v:Value) (b:BeamT) (w:World) (hv:BeamAt w w.heap.size v b) (hn:b.name.size≤maxLen):Calls Tryz.prog 31 #[v] w (oY b (jw b) w):=by
 have HGi:=fun W h=>ME v b W h hn;have HV:=zh hv;obtain⟨As,cs,Al,cl,rfl,hS,hL⟩:=hv;have HD:=zh (Blk.new w 43 (zC b As cs Al cl));have HB:=zh ((yB _ w).alloc (yA _) (.cells (zC b As cs Al cl) 43));clear hS hL;go_enter Tryz.func31,Tryz.ntmps31;go_wp2_with (exact zX);generalize w.alloc (.cells (zC b As cs Al cl) 43)=W1 at*;have Mm:=HGi W1 (HV.o.grow HB.o);obtain⟨y0,y1,y2,y3,y4⟩:=HD.o.c5;clear HGi;by_cases hc:cF b=true∧bN b=true
 ·obtain⟨bL,FA⟩:=hc;have HE:Y0 (¬cR b≠0):=by unfold Y0 cR;rw[bL,FA];simp
  have qY:=zh bL;have Htl:=zh FA;clear bL FA;have Ko:Calls Tryz.prog 63 #[.agg (zC b As cs Al cl)] W1 fun e w'=>∃u,e=.returned (.tuple #[u,.int .i64 0])∧Y0 (Below W1.heap.size W1 w')∧Y0 (ExsAt w' u (jw b)):=by
   refine Mm.mono ?_;rintro e w' ⟨h1,⟨-,-,u,rfl,h2⟩|⟨h2,-⟩⟩
   ·exact⟨u,rfl,h1,h2⟩
   exact absurd h2 HE.o
  clear Mm;go_wp2_with (first|(go_at_call 63;refine Ko.mono ?_;rintro e w2 ⟨u,rfl,aU,zO⟩;have dZ:=zh (HB.o.trans (aU.o.mono HB.o.size));have Y6:=MF u (jw b) w2 zO.o (by have:=(ja qY.o).sup1;unfold jw;simp;omega);clear aU zO)|(go_at_call 64;refine Y6.mono ?_;intro e w4 h4;have hT:=FracsPost.tell h4 dZ.o qY.o Htl.o;obtain⟨-,⟨-,v4,rfl,-⟩|⟨-,rfl⟩⟩:=h4))
  all_goals
   go_ret2;exact hT
 have HE:Y0 (¬(cF b=true∧bN b=true)):=hc;clear hc;have Ko:Calls Tryz.prog 63 #[.agg (zC b As cs Al cl)] W1 fun e w'=>cR b≠0∧e=.returned (.tuple #[.slice none 0 0,.int .i64 (cR b)])∧Y0 (Below W1.heap.size W1 w'):=by
  refine Mm.mono ?_;rintro e w' ⟨h1,⟨h3,h4,-⟩|⟨h2,rfl⟩⟩
  ·exact absurd ⟨h3,h4⟩ HE.o
  exact⟨h2,rfl,h1⟩
 clear Mm;generalize hk:cR b=k at*;have HK:=zh hk;clear hk;go_wp2_with (go_at_call 63;refine Ko.mono ?_;rintro e w2 ⟨hk,rfl,aU⟩;have Oi:(k==0)=false:=zb hk;have GZ:(k != 0)=true:=bne_iff_ne.2 hk);go_ret2;exact⟨HB.o.trans (aU.o.mono HB.o.size),.inr ⟨k,hk,.inl (by rw[HK.o];exact hk),rfl,fun h=>absurd h (by rw[HK.o];exact hk)⟩⟩
def bR (s:SetT):List FrT:=(cd (eZ s)).map fM
def Zs (s:SetT):Int:=if cD s then (if dM (cd (eZ s)) then 0 else 5) else 1
def LinesPost (s:SetT) (w:World) (e:Ending) (w':World):Prop :=
 Below w.heap.size w w'∧((Zs s=0∧∃v,e=.returned (.tuple #[v,.int .i64 0])∧FrsAt w' w'.heap.size v (bR s))∨(Zs s≠0∧e=.returned (.tuple #[.slice none 0 0,.int .i64 (Zs s)])))
theorem Eb {b:BeamT} (h:2≤b.sup.length):bN b=true:=by unfold bN;rw[if_neg (by omega)]
theorem Ce {s:SetT} (h:cD s=true):2≤s.lines.length∧s.lines.length≤10:=by
 have h1:=(Zm h).lines;unfold fw at h1;simp only[Bool.and_eq_true] at h1
 have:=Zh h1.1;omega
theorem uO {s:SetT} (h:cD s=true):cR (eZ s)=0:=by
 unfold cR;rw[oW h,Eb (Ce h).1];rfl
theorem Kf {v:Value} {s:SetT} {w:World} (hv:BeamAt w w.heap.size v (eZ s)) (hn:s.name.size≤maxLen) (bL:cD s=true) :
  Calls Tryz.prog 30 #[v] w (LinesPost s w):=by
 refine (uM v (eZ s) w hv hn).mono ?_;rintro e w' ⟨hb,⟨-,-,h3,v',rfl,h4⟩|⟨k,hk,h,rfl,h5⟩⟩
 ·exact⟨hb,.inl ⟨by unfold Zs;rw[bL,h3];rfl,v',rfl,h4⟩⟩
 obtain rfl:=h5 (uO bL);have h3:dM (cd (eZ s))=false:=by
  rcases h with h|h
  ·exact absurd (uO bL) h
  exact h
 have hE:Zs s=5:=by unfold Zs;rw[bL,h3];rfl
 exact⟨hb,.inr ⟨by rw[hE];decide,by rw[hE]⟩⟩
theorem OM (v:Value) (s:SetT) (w:World) (hv:SetAt w w.heap.size v s) (hn:SetNames s):Calls Tryz.prog 43 #[v] w (LinesPost s w):=by
 have BQ:=fun W (hb:Below w.heap.size w W)=>zp v s W ((hv.below hb (yA _)).mono hb.size) hn;have HBo:=zh fun (bL:cD s=true) W (hb:Below w.heap.size w W)=>OQ v s W ((hv.below hb (yA _)).mono hb.size) bL;have BV:=zh fun (bL:cD s=true) v W (h:BeamAt W W.heap.size v (eZ s))=>Kf h hn.name bL;obtain⟨Al,cl,Ai,ci,Ab,cb,rfl,-,-,-⟩:=hv;have HD:=zh (Blk.new w 26 (zA s Al cl Ai ci Ab cb));have cP:=zh ((yB _ w).alloc (yA _) (.cells (zA s Al cl Ai ci Ab cb) 26))
 clear hn;have nJ:=BQ _ cP.o;clear BQ;unfold fc at*;rcases yL (cD s) with bL|bL
 ·have DD:=HBo.o bL;have U1:=BV.o bL;rw[bL] at nJ;clear bL HBo BV;go_enter Tryz.func43,Tryz.ntmps43;go_wp2_with (first|(go_at_call 15;refine nJ.mono ?_;rintro e w2 ⟨rfl,aU⟩;have ic:=cP.o.trans (aU.mono cP.o.size);have cY:=zh (HD.o.below aU HD.o.lt);have z0:=cY.o.cell 0;have z1:=cY.o.cell 1;have z2:=cY.o.cell 2;have z3:=cY.o.cell 3;have z4:=cY.o.cell 4;have z5:=cY.o.cell 5;have z6:=cY.o.cell 6;have z7:=cY.o.cell 7;have z8:=cY.o.cell 8;have z9:=cY.o.cell 9;have j8:=cY.o.cell 10;have fS:=cY.o.cell 11;have iT:=cY.o.cell 12;simp only[aG,aH,aD] at z0 z1 z2 z3 z4 z5 z6 z7 z8 z9 j8 fS iT)|(go_at_call 91;refine (DD _ ic).mono ?_;rintro e w3 ⟨bM,v3,rfl,hB3⟩;have cZ:=zh (ic.trans (bM.mono ic.size));have vzv:=U1 v3 w3 hB3)|(go_at_call 30;refine vzv.mono ?_;rintro e w4 ⟨bU,⟨hE,v4,rfl,h4⟩|⟨hE,rfl⟩⟩))
  ·go_ret2;exact⟨cZ.o.trans (bU.mono cZ.o.size),.inl ⟨hE,v4,rfl,h4⟩⟩
  go_ret2;exact⟨cZ.o.trans (bU.mono cZ.o.size),.inr ⟨hE,rfl⟩⟩
 have HE:Y0 (Zs s=1):=by unfold Y0 Zs;rw[bL];rfl
 rw[bL] at nJ;clear bL HBo BV;go_enter Tryz.func43,Tryz.ntmps43;go_wp2_with (go_at_call 15;refine nJ.mono ?_;rintro e w2 ⟨rfl,aU⟩);go_ret2;exact⟨cP.o.trans (aU.mono cP.o.size),.inr ⟨by rw[HE.o];decide,by rw[HE.o];rfl⟩⟩
theorem LV (v:Value) (s:SetT) (w:World) (hv:SetAt w w.heap.size v s) (hn:SetNames s):Calls Tryz.prog 17 #[v] w (LinesPost s w):=by
 have hL:=fun W (hb:Below w.heap.size w W)=>OM v s W (hv.grow hb) hn;obtain⟨Al,cl,Ai,ci,Ab,cb,rfl,-,-,-⟩:=hv;have cP:=zh ((yB _ w).alloc (yA _) (.cells (zA s Al cl Ai ci Ab cb) 26));have hl:=hL _ cP.o;clear hL hn;unfold fc at*;go_enter Tryz.func17,Tryz.ntmps17;go_wp2_with (go_at_call 43;refine hl.mono ?_;rintro e w2 ⟨aU,h⟩;rcases h with⟨hE,v4,rfl,h4⟩|⟨hE,rfl⟩)
 ·go_ret2;exact⟨cP.o.trans (aU.mono cP.o.size),.inl ⟨hE,v4,rfl,h4⟩⟩
 go_ret2;exact⟨cP.o.trans (aU.mono cP.o.size),.inr ⟨hE,rfl⟩⟩
def dD (s:SetT) (f:FrT):Int:=if cD s=true then (if fp f=0 then Zs s else fp f) else 1
def pe (s:SetT) (f:FrT) (w:World) (e:Ending) (w':World):Prop :=
 Below w.heap.size w w'∧((dD s f=0∧∃v,e=.returned (.tuple #[v,.int .i64 0])∧FrsAt w' w'.heap.size v (bR s))∨(dD s f≠0∧e=.returned (.tuple #[.slice none 0 0,.int .i64 (dD s f)])))
theorem Ym (v:Value) (s:SetT) (f:FrT) (w:World) (hv:SetAt w w.heap.size v s) (hn:SetNames s):Calls Tryz.prog 45 #[v,f.val] w (pe s f w):=by
 have BQ:=fun W (hb:Below w.heap.size w W)=>zp v s W (hv.grow hb) hn;have HL:=zh fun W (hb:Below w.heap.size w W)=>LV v s W (hv.grow hb) hn;have HF:=zh fun W=>Ke f W;have Pf:Y0 (dD s f=if cD s=true then (if fp f=0 then Zs s else fp f) else 1):=rfl;unfold pe;unfold LinesPost at HL;obtain⟨Al,cl,Ai,ci,Ab,cb,rfl,-,-,-⟩:=hv;generalize fp f=fe at*;generalize dD s f=ge at*;obtain⟨num,den⟩:=f
 try simp only at*
 have hD:=(Blk.new w 26 (zA s Al cl Ai ci Ab cb)).alloc (.cells #[.int .i64 num,.int .i64 den] 29);have hE:=Blk.new (w.alloc (.cells (zA s Al cl Ai ci Ab cb) 26)) 29 #[.int .i64 num,.int .i64 den];rw[yZ] at hE;have HD:=zh hD;have HE:=zh hE;have cP:=zh (((yB _ w).alloc (yA _) (.cells (zA s Al cl Ai ci Ab cb) 26)).alloc (by simp) (.cells #[.int .i64 num,.int .i64 den] 29));have nJ:=BQ _ cP.o;clear BQ hn hD hE
 unfold fc at*;go_enter Tryz.func45,Tryz.ntmps45;go_wp2_with (go_at_call 15;fail);generalize (w.alloc (.cells (zA s Al cl Ai ci Ab cb) 26)).alloc (.cells #[.int .i64 num,.int .i64 den] 29)=W1 at*;go_at_call 15;refine nJ.mono ?_;rintro e w2 ⟨rfl,aU⟩;have dZ:=zh (cP.o.trans (aU.mono cP.o.size));have cY:=zh (HD.o.below aU HD.o.lt);have iq:=zh (HE.o.below aU HE.o.lt);clear nJ aU cP HD HE;rcases yL (cD s) with h0|h0
 rotate_left
 ·have HR:Y0 (ge=1):=by unfold Y0;rw[Pf.o,if_neg (by rw[h0];simp)]
  rw[h0];clear h0 Pf;go_wp2_with fail;refine YF (results_tmp2 rfl _ _ _) (by rfl) ?_;exact⟨dZ.o,.inr ⟨by rw[HR.o];decide,by rw[HR.o];rfl⟩⟩
 rw[h0];have qjT:Y0 (ge=if fe=0 then Zs s else fe):=by unfold Y0;rw[Pf.o,if_pos h0]
 clear h0 Pf;obtain⟨e0,e1⟩:=iq.o.c2;have hf:=HF.o w2;go_wp2_with (go_at_call 92;fail);go_at_call 92;refine hf.mono ?_;rintro e w3 ⟨rfl,bM⟩;have cZ:=zh (dZ.o.trans (bM.mono dZ.o.size));have d9:=zh (cY.o.below bM cY.o.lt);clear hf bM dZ cY iq e0 e1 HF;by_cases c:fe=0;rotate_left
 ·have d1:(fe != 0)=true:=bne_iff_ne.2 c;have HR:Y0 (ge=fe):=by unfold Y0;rw[qjT.o,if_neg c]
  have HC:=zh c;clear c qjT;go_wp2_with fail;refine YF (results_tmp2 rfl _ _ _) (by rfl) ?_;exact⟨cZ.o,.inr ⟨by rw[HR.o];exact HC.o,by rw[HR.o];rfl⟩⟩
 have HR:Y0 (ge=Zs s):=by unfold Y0;rw[qjT.o,if_pos c]
 subst c;clear qjT;have z0:=d9.o.cell 0;have z1:=d9.o.cell 1;have z2:=d9.o.cell 2;have z3:=d9.o.cell 3;have z4:=d9.o.cell 4;have z5:=d9.o.cell 5;have z6:=d9.o.cell 6;have z7:=d9.o.cell 7;have z8:=d9.o.cell 8;have z9:=d9.o.cell 9;have j8:=d9.o.cell 10;have fS:=d9.o.cell 11;have iT:=d9.o.cell 12;simp only[aG,aH,aD] at z0 z1 z2 z3 z4 z5 z6 z7 z8 z9 j8 fS iT;have hl:=HL.o _ cZ.o;clear HL;go_wp2_with (go_at_call 17;fail)
 go_at_call 17;refine hl.mono ?_;rintro e w4 ⟨bU,h⟩;have fI:=zh (cZ.o.trans (bU.mono cZ.o.size));clear hl bU cZ d9 z0 z1 z2 z3 z4 z5 z6 z7 z8 z9 j8 fS iT;rcases h with⟨hE,v4,rfl,h4⟩|⟨hE,rfl⟩
 ·go_wp2_with fail;refine YF (results_tmp2 rfl _ _ _) (by rfl) ?_;exact⟨fI.o,.inl ⟨by rw[HR.o];exact hE,v4,rfl,h4⟩⟩
 have HX:=zh hE;clear hE;go_wp2_with fail;refine YF (results_tmp2 rfl _ _ _) (by rfl) ?_;exact⟨fI.o,.inr ⟨by rw[HR.o];exact HX.o,by rw[HR.o];rfl⟩⟩
structure FindT where
 kind:Int
 name:ByteArray
deriving DecidableEq
def FindT.cells (x:FindT):List Value:=[.int .i64 x.kind,.string x.name]
def FindsAt (w:World) (B:Nat) (v:Value) (l:List FindT):Prop:=Flat w B v l.length (l.flatMap FindT.cells)
theorem p8:(Tryz.prog.info? 91).map (fun i=>(i.zero,i.size,i.bytes))=some (some (.agg #[.int .i64 0,.string ⟨#[]⟩]),2,24):=by kernel_rfl
theorem Vo (l:List FindT) (j i:Nat) (hj:j<l.length) (hi:i<2):(l.flatMap FindT.cells)[j*2+i]?=l[j].cells[i]?:=vR FindT.cells 2 (fun _=>rfl) l j i hj hi
theorem FindsAt.open_ {w:World} {B:Nat} {v:Value} {l:List FindT} (h:FindsAt w B v l) :
  ∃A c,v=.slice A l.length c∧l.length≤c∧c≤maxLen∧∀k (_:k<l.length),∃b off,A=some ⟨b,off,none⟩∧b<B∧∀j (hj:j<l.length),w.cell? ⟨b,off+j*2,none⟩=some (.int .i64 l[j].kind)∧w.cell? ⟨b,off+j*2+1,none⟩=some (.string l[j].name):=by
 obtain⟨A,c,h1,h2,h3,h4⟩:=h;refine⟨A,c,h1,h2,h3,fun k hk=>?_⟩;obtain⟨b,off,e,ao,hc⟩:=h4 (by omega);refine⟨b,off,e,ao,fun j hj=>?_⟩;have f:=fun (i:Nat) (hi:i<2) u (hu:l[j].cells[i]?=some u)=>hc (j*2+i) u ((Vo l j i hj hi).trans hu);have g:=fun (i:Nat) (hi:i<2) u (hu:l[j].cells[i]?=some u)=>(congrArg (fun o=>w.cell? ⟨b,o,none⟩) (Nat.add_assoc off (j*2) i)).trans (f i hi u hu);exact⟨g 0 (by omega) _ rfl,g 1 (by omega) _ rfl⟩
theorem FindsAt.below {w w':World} {B B':Nat} {v:Value} {l:List FindT} (h:FindsAt w B v l) (hb:Below B' w w') (hB:B≤B'):FindsAt w' B v l:=Flat.below h hb hB
theorem FindsAt.mono {w:World} {B B':Nat} {v:Value} {l:List FindT} (h:FindsAt w B v l) (hB:B≤B'):FindsAt w B' v l:=Flat.mono h hB
abbrev FindT.val (x:FindT):Value:=.agg #[.int .i64 x.kind,.string x.name]
def ef (a:FrT):Bool:=decide (a.num<0)
def cV (kind:Int) (p:FrT→Bool) (l:List FrT):Nat→List FindT
 | 0=>[]
 | k+1=>cV kind p l k++(match l[k]? with|some f=>if p f then [⟨kind,F3 (k+1)⟩] else []|none=>[])
theorem p9 {kind:Int} {p:FrT→Bool} {l:List FrT} {k:Nat} (hk:k<l.length) (h:p l[k]=true):cV kind p l (k+1)=cV kind p l k++[⟨kind,F3 (k+1)⟩]:=by
 rw[cV,yM hk];dsimp only
 rw[if_pos h]
theorem rW {kind:Int} {p:FrT→Bool} {l:List FrT} {k:Nat} (hk:k<l.length) (h:p l[k]=false):cV kind p l (k+1)=cV kind p l k:=by
 rw[cV,yM hk];dsimp only
 rw[if_neg (by rw[h];simp),List.append_nil]
theorem lV {kind:Int} {p:FrT→Bool} {l:List FrT}:∀k,(cV kind p l k).length ≤ k
 | 0=>yA _
 | k+1=>by
  have:=lV (kind:=kind) (p:=p) (l:=l) k;rw[cV,yQ];split
  ·split <;> simp <;> omega
  simp;omega
def pB (m:Int) (f:FrT) (l:List FrT):List FindT:=cV 1 (ct m f) l l.length++cV 2 ef l l.length
def eQ (f:FrT) (l:List FrT):Bool:=l.all fun a=>bF (dI a*dI f)
def Zo:Ren:=⟨fun|4=>97|n=>n,fun|0=>0|3=>3|4=>4|9=>9|20=>20|22=>59|25=>91|n=>n,fun n=>n⟩
theorem FW:Lays8.n4 Tryz.prog Zo:={
 mixed:=by kernel_rfl
 f4:=⟨"slices.Grow[[]loftblock/api.Finding,loftblock/api.Finding]",rfl,Tryz.func97.trans (congrArg some (by kernel_rfl))⟩
 t0:=Tryz.underlying0
 a0:=Tryz.isAgg0
 z0:=Tryz.sizeOf0
 v0:=Tryz.zeroValue0
 t3:=Tryz.underlying3
 a3:=Tryz.isAgg3
 z3:=Tryz.sizeOf3
 v3:=Tryz.zeroValue3
 t4:=Tryz.underlying4
 a4:=Tryz.isAgg4
 z4:=Tryz.sizeOf4
 v4:=Tryz.zeroValue4
 t9:=Tryz.underlying9
 a9:=Tryz.isAgg9
 z9:=Tryz.sizeOf9
 v9:=Tryz.zeroValue9
 t20:=Tryz.underlying20
 a20:=Tryz.isAgg20
 z20:=Tryz.sizeOf20
 v20:=Tryz.zeroValue20
 t22:=Tryz.underlying59
 a22:=Tryz.isAgg59
 z22:=Tryz.sizeOf59
 v22:=Tryz.zeroValue59 }
theorem wj (z:Array Value) (n:Nat):(Builtin.zeroCells z n).size=n*z.size:=by
 unfold Builtin.zeroCells;simp
theorem Va (n:Nat) (hn:n≤400) (w:World):Calls Tryz.prog 97 #[.slice none 0 0,.int .i64 n] w fun e w'=>∃v,e=.returned v∧w'.ownsRow w.heap.size 91 2 v 0 []∧Below w.heap.size w w':=by
 rcases Nat.eq_zero_or_pos n with h0|h0
 ·subst h0;exact (Any8.slices_Grow_room FW none 0 0 0 w (yA _) (by decide) (by decide) (yA _)).mono fun _ _ h=>⟨_,h.1,by rw[h.2];exact yJ _ _ _ _,by rw[h.2];exact yB _ _⟩
 obtain⟨iF,Bt,oC,oB,oA⟩:=info_parts p8;refine (Any8.slices_Grow_grow FW iF (.agg #[.int .i64 0,.string ⟨#[]⟩]) Bt oC (by rw[oB];decide) none 0 0 n [] w (yA _) (by omega) (by rw[oA];omega) (by omega) (by rw[Nat.zero_mul];rfl) (fun _=>rfl) (fun a h=>by cases h)).mono ?_;rintro e w' ⟨rfl,rfl⟩;have h1:=grownCap_ge w (0+n) 0 91;have h2:=grownCap_le_maxLen w (0+n) 0 91 (by unfold maxLen;omega);refine⟨_,rfl,?_,(yB _ w).drew.alloc (yA _) _⟩
 refine World.ownsRow_made w.drew _ _ (yA _) h2 ?_;rw[Array.size_append,Array.size_append,wj,wj];show 0+(0+n-0)*2+(grownCap w (0+n) 0 91-(0+n))*2=grownCap w (0+n) 0 91*2;omega
theorem Wm (b off k:Nat):(Addr.mk b off none).add k=⟨b,off+k,none⟩:=by
 unfold Addr.add;split
 ·rename_i h;subst h;rfl
 rfl
theorem Ix {w:World} {B:Nat} {v:Value} {l:List FindT} (h:w.ownsRow B 91 2 v l.length (l.flatMap FindT.cells)) :
  (v=.slice none 0 0∧l=[])∨∃g cap,v=.slice (some ⟨g,0,none⟩) l.length cap∧∀(j:Nat) u,(l.flatMap FindT.cells)[j]?=some u→w.cell? ((⟨g,0,none⟩:Addr).add j)=some u:=by
 obtain⟨hl,⟨rfl,h0⟩|⟨g,cap,cur,rfl,hb,hg,hnc,YM,jJ,ht⟩⟩:=h
 ·exact .inl ⟨rfl,List.length_eq_zero_iff.1 h0⟩
 refine .inr ⟨g,cap,rfl,fun j u hu=>?_⟩
 have:(⟨g,0,none⟩:Addr).add j=⟨g,j,none⟩:=by
  rw[Wm,yR]
 rw[this,cell_of_row w g j cur 91 (0,0) hg];rw[←ht,List.getElem?_take] at hu;split at hu
 ·simpa using hu
 cases hu
theorem qM (l:List FindT):(l.flatMap FindT.cells).length=l.length*2∧∀u∈l.flatMap FindT.cells,u.oneCell'=true:=by
 induction l with
 | nil=>simp
 | cons x l ih=>
  rw[List.flatMap_cons];refine⟨by rw[yQ,ih.1,List.length_cons,Nat.succ_mul];show 2+_=_;omega,fun u hu=>?_⟩;rcases List.mem_append.1 hu with h|h
  ·unfold FindT.cells at h;simp only[List.mem_cons,List.not_mem_nil,or_false] at h;rcases h with rfl|rfl <;> rfl
  exact ih.2 u h
def M9 (l1 l2:List FindT):Nat→List FindT
 | 0=>[]
 | 1=>l1
 | _=>l1++l2
theorem KH (v1 v2:Value) (l1 l2:List FindT) (g c B1 B2:Nat) (w:World) (h1:w.ownsRow B1 91 2 v1 l1.length (l1.flatMap FindT.cells)) (h2:w.ownsRow B2 91 2 v2 l2.length (l2.flatMap FindT.cells)) (cI:l1.length ≤ 100 ∧ l2.length ≤ 100)
  (hb:Blk w g 59 #[v1,v2]):Calls Tryz.prog 48 #[.slice (some ⟨g,0,none⟩) 2 c] w fun e w'=>∃v,e=.returned v∧FindsAt w' w'.heap.size v (l1++l2)∧Below w.heap.size w w':=by
 have e1:∃A1 c1,v1=.slice A1 l1.length c1:=by obtain⟨A,c,e,-⟩:=Flat.of_own h1;exact⟨A,c,e⟩
 have e2:∃A2 c2,v2=.slice A2 l2.length c2:=by obtain⟨A,c,e,-⟩:=Flat.of_own h2;exact⟨A,c,e⟩
 obtain⟨A1,c1,e1⟩:=e1;obtain⟨A2,c2,e2⟩:=e2;obtain⟨N,hN⟩:=zo (l1.length+l2.length);have HG:=zh fun W=>Va N (by omega) W;have zv:=zh h1;have iw:=zh h2;have Dy:=zh hb;obtain⟨iF,Bt,oC,oB,oA⟩:=info_parts p8;obtain⟨b0,b1⟩:=hb.c2;rw[e1] at b0;rw[e2] at b1;have s1:IntKind.i64.wrap (0+(l1.length:Int))=(l1.length:Int):=by rw[Int.zero_add];exact yF _ (by omega)
 have s2:IntKind.i64.wrap ((l1.length:Int)+(l2.length:Int))=(N:Int):=by rw[←Int.natCast_add,hN];exact yF _ (by omega)
 have s1':IntKind.i64.wrap (l1.length:Int)=(l1.length:Int):=yF _ (by omega);obtain⟨sz,de⟩:∃sz:Nat→Nat,sz 0=0∧sz 1=l1.length∧sz 2=N:=⟨fun k=>if k=0 then 0 else if k=1 then l1.length else N,rfl,rfl,rfl⟩;go_enter Tryz.func48,Tryz.ntmps48;go_wp2_with fail;go_loopw [11,3] (fun ix s wr=>∃k:Nat,k≤2∧ix=.int .i64 k∧s=.int .i64 (sz k:Nat)∧w=wr) (fun ix _ _=>2-(intOf ix).toNat)
 case atStart=>exact⟨0,by omega,rfl,by rw[de.1];rfl,rfl⟩
 obtain⟨k,hk,rfl,rfl,rfl⟩:=hrel;have hk3:k=0∨k=1∨k=2:=by omega
 rcases hk3 with rfl|rfl|rfl
 ·rw[de.1];have t6:decide ((l1.length:Int)<0)=false:=yC (by omega);go_wp2_with fail;go_roundw
  case rel=>exact⟨1,by omega,rfl,by rw[de.2.1],by first|rfl|trivial⟩
  simp[intOf]
 ·rw[de.2.1];have t6:decide ((N:Int)<0)=false:=yC (by omega);go_wp2_with fail;go_roundw
  case rel=>exact⟨2,by omega,rfl,by rw[de.2.2],by first|rfl|trivial⟩
  simp[intOf]
 rw[de.2.2];clear s1 s2 s1';go_upto_region 10 with (first|(go_at_call 97;refine (HG.o _).mono ?_;rintro e w2 ⟨v0,rfl,hO,hB⟩));have HO:=zh hO;have HB:=zh hB;clear hO hB HG;clear de;have hk9:∀k:Nat,k≤2→(M9 l1 l2 k).length≤200:=fun k hk=>by
  rcases (show k=0∨k=1∨k=2 by omega) with rfl|rfl|rfl
  ·exact yI _
  ·show l1.length≤200;omega
  show (l1++l2).length≤200;rw[yQ];omega
 go_wp2_with fail;go_loopw [27,6] (fun ix v wr=>∃k:Nat,k≤2∧ix=.int .i64 k∧Y0 (wr.ownsRow w.heap.size 91 2 v (M9 l1 l2 k).length ((M9 l1 l2 k).flatMap FindT.cells)∧Below w.heap.size w wr)) (fun ix _ _=>2-(intOf ix).toNat)
 case atStart=>exact⟨0,by omega,rfl,HO.o,HB.o⟩
 clear HO HB;obtain⟨k,hk,rfl,HR⟩:=hrel;have HO:=zh HR.o.1;have HB:=zh HR.o.2;have gg:=HB.o.size;have hB:=Dy.o.below HB.o Dy.o.lt;obtain⟨q0,q1⟩:=hB.c2;clear HR hB;rcases (show k=0∨k=1∨k=2 by omega) with rfl|rfl|rfl
 ·have HSk:=zh (dB zv.o HB.o);obtain⟨hnl,Me⟩:=qM l1;rcases Ix HSk.o with⟨hv,hl⟩|⟨gk,vxJ,hv,hnw⟩
  ·rw[hv] at q0;go_wp2_with (at_builtin;refine wpList_append_own_none rfl _ _ 59 rfl w.heap.size 91 iF 2 Tryz.underlying59 Bt _ _ _ rfl HO.o rfl ?_);go_roundw
   case rel=>exact⟨1,by omega,rfl,by rw[hl] at*;exact HO.o,HB.o⟩
   simp[intOf]
  rw[hv] at q0;have ko:=hk9 0 (by omega);go_wp2_with (at_builtin;refine wpList_append_own _ rfl _ _ 59 rfl w.heap.size 91 iF (.agg #[.int .i64 0,.string ⟨#[]⟩]) 2 24 Tryz.underlying59 Bt oC oB oA rfl (by decide) _ _ _ rfl HO.o _ _ _ _ rfl hnl hnw Me (by unfold maxLen;omega) (by omega) gg ?_;intro v9 w9 uw oF _;have HO9:=zh uw;have nG:=zh (HB.o.grown oF gg (fun k e=>(HO.o.lt k e).1));clear uw oF);go_roundw
  case rel=>exact⟨1,by omega,rfl,by have h:=HO9.o;rw[show (M9 l1 l2 0).length+l1.length=l1.length by show 0+_=_;omega] at h;exact h,nG.o⟩
  simp[intOf]
 ·have HSk:=zh (dB iw.o HB.o);obtain⟨hnl,Me⟩:=qM l2;rcases Ix HSk.o with⟨hv,hl⟩|⟨gk,vxJ,hv,hnw⟩
  ·rw[hv] at q1;go_wp2_with (at_builtin;refine wpList_append_own_none rfl _ _ 59 rfl w.heap.size 91 iF 2 Tryz.underlying59 Bt _ _ _ rfl HO.o rfl ?_);go_roundw
   case rel=>exact⟨2,by omega,rfl,by have h:=HO.o;rw[hl];show World.ownsRow _ _ _ _ _ (l1++[]).length ((l1++[]).flatMap FindT.cells);rw[List.append_nil];exact h,HB.o⟩
   simp[intOf]
  rw[hv] at q1;have ko:=hk9 1 (by omega);go_wp2_with (at_builtin;refine wpList_append_own _ rfl _ _ 59 rfl w.heap.size 91 iF (.agg #[.int .i64 0,.string ⟨#[]⟩]) 2 24 Tryz.underlying59 Bt oC oB oA rfl (by decide) _ _ _ rfl HO.o _ _ _ _ rfl hnl hnw Me (by unfold maxLen;omega) (by omega) gg ?_;intro v9 w9 uw oF _;have HO9:=zh uw;have nG:=zh (HB.o.grown oF gg (fun k e=>(HO.o.lt k e).1));clear uw oF);go_roundw
  case rel=>exact⟨2,by omega,rfl,by have h:=HO9.o;show World.ownsRow _ _ _ _ _ (l1++l2).length ((l1++l2).flatMap FindT.cells);rw[yQ,List.flatMap_append];exact h,nG.o⟩
  simp[intOf]
 go_wp2_with fail;go_ret;exact⟨_,rfl,Flat.of_own HO.o,HB.o⟩
