/- Lemmas. -/
import Derived.Test.YtknkhnahflmjiaaGreatDoorT5
namespace Go.Proofs.YtknkhnahflmjiaaGreatDoor
set_option maxRecDepth 100000
set_option maxHeartbeats 40000000
open Go.RowKit Go.Shelf
structure FrT where
 num:Int
 den:Int
deriving DecidableEq
def FrT.cells (x:FrT):List Value:=[.int .i64 x.num,.int .i64 x.den]
abbrev FrT.val (x:FrT):Value:=.agg #[.int .i64 x.num,.int .i64 x.den]
def dM (q:Rat):FrT:=⟨q.num,(q.den:Int)⟩
def FrsAt (w:World) (B:Nat) (v:Value) (l:List FrT):Prop:=Flat w B v l.length (l.flatMap FrT.cells)
theorem FrsAt.below {w w':World} {B B':Nat} {v:Value} {l:List FrT} (h:FrsAt w B v l) (hb:Below B' w w') (hB:B≤B'):FrsAt w' B v l:=Flat.below h hb hB
theorem FrsAt.mono {w:World} {B B':Nat} {v:Value} {l:List FrT} (h:FrsAt w B v l) (hB:B≤B'):FrsAt w B' v l:=Flat.mono h hB
theorem qzd (l:List FrT) (j i:Nat) (hj:j<l.length) (hi:i<2):(l.flatMap FrT.cells)[j*2+i]?=l[j].cells[i]?:=by
 induction l generalizing j with
 | nil=>simp at hj
 | cons t l ih=>
  have h5:t.cells.length=2:=rfl;rw[List.flatMap_cons]
  cases j with
  | zero=>rw[List.getElem?_append_left (by rw[h5];omega)];simp
  | succ j=>
   rw[List.getElem?_append_right (by rw[h5];omega),h5]
   have:=ih j (by simpa using hj);rw[show (j+1)*2+i-2=j*2+i by omega,this];rfl
theorem FrsAt.open_ {w:World} {B:Nat} {v:Value} {l:List FrT} (h:FrsAt w B v l) :
  ∃A c,v=.slice A l.length c∧l.length≤c∧c≤maxLen∧∀k (_:k<l.length),∃b off,A=some ⟨b,off,none⟩∧b<B∧∀j (hj:j<l.length),w.cell? ⟨b,off+j*2,none⟩=some (.int .i64 l[j].num)∧w.cell? ⟨b,off+j*2+1,none⟩=some (.int .i64 l[j].den):=by
 obtain⟨A,c,h1,h2,h3,h4⟩:=h;refine⟨A,c,h1,h2,h3,fun k hk=>?_⟩;obtain⟨b,off,e,aI,hc⟩:=h4 (by omega);refine⟨b,off,e,aI,fun j hj=>?_⟩;have f:=fun (i:Nat) (hi:i<2) u (hu:l[j].cells[i]?=some u)=>hc (j*2+i) u ((qzd l j i hj hi).trans hu);have g:=fun (i:Nat) (hi:i<2) u (hu:l[j].cells[i]?=some u)=>(congrArg (fun o=>w.cell? ⟨b,o,none⟩) (Nat.add_assoc off (j*2) i)).trans (f i hi u hu);exact⟨g 0 (by omega) _ rfl,g 1 (by omega) _ rfl⟩
theorem oA:(Tryz.prog.info? 23).map (fun i=>(i.zero,i.size,i.bytes))=some (some (.agg #[.int .i64 0,.int .i64 0]),2,16):=by kernel_rfl
def gb (l:List Rat):Bool:=l.all aC
def FracsPost (l:List Rat) (w:World) (e:Ending) (w':World):Prop :=
 Below w.heap.size w w'∧((gb l=true∧∃v,e=.returned (.tuple #[v,.int .i64 0])∧w'.ownsRow w.heap.size 23 2 v l.length ((l.map dM).flatMap FrT.cells))∨(gb l=false∧e=.returned (.tuple #[.slice none 0 0,.int .i64 5])))
theorem tt {l:List Rat} {k:Nat} (hk:k<l.length) (h:aC l[k]=false):gb l=false:=by
 unfold gb;rw[List.all_eq_false];exact⟨l[k],yV hk,by rw[h];decide⟩
theorem jY {q:Rat} (h:aC q=true):bQ q=.tuple #[.agg #[.int .i64 q.num,.int .i64 (q.den:Int)],.int .i64 0]:=if_pos h
theorem lG {q:Rat} (h:aC q=false):bQ q=.tuple #[.agg #[.int .i64 0,.int .i64 0],.int .i64 5]:=if_neg (by rw[h];decide)
theorem pR {w w':World} {B e s n:Nat} {v:Value} {xs:List Value} (h:w.ownsRow B e s v n xs) (hb:Below w.heap.size w w'):w'.ownsRow B e s v n xs :=
 h.kept (kH (row:=none) hb) (by
  by_cases e:v.ownBlock=none
  ·exact .inl e
  exact .inr e)
theorem V1 (v:Value) (l:List Rat) (w:World) (hv:ExsAt w v l) (hl:l.length≤100):Calls Tryz.prog 144 #[v] w (FracsPost l w):=by
 obtain⟨g,rfl,hR⟩:=hv;have HR:=zh hR;obtain⟨iF,tY,kO,kN,kM⟩:=info_parts oA;clear hR;go_enter Tryz.func144,Tryz.ntmps144;go_wp2_with fail;go_loopw [4,11] (fun ox ix wr=>∃k:Nat,k≤l.length∧ix=.int .i64 k∧Y0 (wr.ownsRow w.heap.size 23 2 ox k (((l.take k).map dM).flatMap FrT.cells))∧Y0 (gb (l.take k)=true)∧Y0 (Below w.heap.size w wr)) (fun _ ix _=>l.length-(intOf ix).toNat)
 case atStart=>exact⟨0,yI _,rfl,yJ _ _ _ _,rfl,yB _ _⟩
 obtain⟨k,hk,rfl,HO,HA,HB⟩:=hrel;have k0:(0:Int)≤(k:Int):=yE _;by_cases aK:k<l.length
 ·have k1:(k:Int)<(l.length:Int):=by omega
  obtain⟨li,lk,kY,lg,lh,lj,kX,lf,y0,y1,y2,y3,hE⟩:=HR.o.read (i:=k) aK;have HE:=zh (hE l[k] (yN aK));have hg:=HR.o.lt;have y0:=(HB.o.cell (p:=⟨g,k*4,none⟩) hg).trans y0;have y1:=(HB.o.cell (p:=⟨g,k*4+1,none⟩) hg).trans y1;have y2:=(HB.o.cell (p:=⟨g,k*4+2,none⟩) hg).trans y2;have y3:=(HB.o.cell (p:=⟨g,k*4+3,none⟩) hg).trans y3;have LW:Y0 (l.take (k+1)=l.take k++[l[k]]):=bF l k aK;have iM:=zh (fun h:aC l[k]=false=>tt aK h)
  clear hE hg;generalize l[k]=q at*;go_wp2_with fail;have UQ:=(yB wr.heap.size wr).alloc (yA _) (.cells (zD li lk kY lg lh lj kX lf) 223);refine (qzh _ q _ ((HE.o.grow HB.o).grow UQ)).mono ?_;rintro e w5 ⟨rfl,bf⟩;have bf:=UQ.trans (bf.mono UQ.size);have dJ:=zh (HB.o.trans (bf.mono HB.o.size));have oJ:=zh (pR HO.o bf);clear bf UQ y0 y1 y2 y3;cases hq:aC q
  case true=>
   rw[jY hq];have HQ:=zh hq;have gL:=dJ.o.size;have Tb:=zh ((oJ.o.alloc (.cells #[.int .i64 q.num,.int .i64 (q.den:Int)] 23)).alloc (.cells #[.int .i64 q.num,.int .i64 (q.den:Int)] 23));have mS:=yL (Blk.new (w5.alloc (.cells #[.int .i64 q.num,.int .i64 (q.den:Int)] 23)) 23 #[.int .i64 q.num,.int .i64 (q.den:Int)]);rw[yZ] at mS;have jD:=zh mS;have HAl:Y0 (gb (l.take (k+1))=true):=by
    unfold Y0;rw[LW.o];unfold gb;rw[List.all_append];have h:=HA.o;unfold gb at h;rw[h];simpa using HQ.o
   clear hq mS HO oJ;go_wp2_with (at_builtin;refine wpList_append_own _ rfl _ _ 42 rfl w.heap.size 23 iF (.agg #[.int .i64 0,.int .i64 0]) 2 16 Tryz.underlying42 tY kO kN kM rfl (by decide) _ _ _ rfl Tb.o ⟨w5.heap.size+1,0,none⟩ 1 1 [.int .i64 q.num,.int .i64 (q.den:Int)] rfl rfl jD.o (by simp[Value.oneCell']) (by unfold maxLen;omega) (by omega) (by simp;omega) ?_;intro v' w1 ip eO _;obtain⟨g',wA,rfl⟩:=ownsRow_succ ip)
   have fk:=((dJ.o.alloc gL (.cells #[.int .i64 q.num,.int .i64 (q.den:Int)] 23)).alloc (by simp;omega) (.cells #[.int .i64 q.num,.int .i64 (q.den:Int)] 23)).grown eO (by simp;omega) (fun j ej=>(Tb.o.lt j ej).1);have ni:=zh fk;have hO6:w1.ownsRow w.heap.size 23 2 (.slice (some ⟨g',0,none⟩) (k+1) wA) (k+1) (((l.take (k+1)).map dM).flatMap FrT.cells):=by
    rw[LW.o,List.map_append,List.flatMap_append];exact ip
   have M5:=zh hO6;clear fk hO6 ip eO Tb dJ HB HA;go_roundw
   case rel=>exact⟨k+1,by omega,by go_num,M5,HAl,ni⟩
   simp[intOf];omega
  rw[lG hq];have HQ:=zh (iM.o hq);have gL:=dJ.o.size;have ni:=zh (dJ.o.alloc gL (.cells #[.int .i64 0,.int .i64 0] 23));clear hq HO oJ;go_wp2_with fail;refine YF (results_tmp2 rfl _ _ _) (by rfl) ?_;exact⟨ni.o,.inr ⟨HQ.o,rfl⟩⟩
 obtain rfl:k=l.length:=by omega
 rw[yT] at HO HA;go_wp2_with fail;refine YF (results_tmp2 rfl _ _ _) (by rfl) ?_;exact⟨HB.o,.inl ⟨HA.o,_,rfl,HO.o⟩⟩
theorem tW (b:BeamT) {i:Nat} (hi:i<b.sup.length):(rX b)[i]?=some (Zx b i):=by
 unfold rX;rw[YC,List.getElem?_range hi];rfl
def mL (b:BeamT) (i:Nat):Nat→Option Rat:=fun j=>if j<i then some (ny b j) else none
theorem uL (b:BeamT) (i:Nat):mL b (i+1)=eu (mL b i) i (ny b i):=by
 funext j
 unfold mL eu;by_cases e:j=i
 ·subst e;rw[if_pos rfl,if_pos (Nat.lt_succ_self _)]
 rw[if_neg e];dsimp only
 by_cases h:j<i
 ·rw[if_pos h,if_pos (by omega)]
 rw[if_neg h,if_neg (by omega)]
theorem K7 (b:BeamT) {j:Nat} {q:Rat} (h:(dP b)[j]?=some q):mL b b.sup.length j=some q:=by
 unfold dP at h;rw[YC] at h
 cases hj:(List.range b.sup.length)[j]? with
 | none=>rw[hj] at h;cases h
 | some x=>
  rw[hj] at h;obtain⟨h1,h2⟩:=List.getElem?_eq_some_iff.1 hj;simp only[List.getElem_range] at h2;subst h2;unfold mL;rw[if_pos (by simpa using h1)];exact h
theorem uN (b:BeamT):(dP b).length=b.sup.length:=by simp[dP]
structure RcSt (w wr:World) (b:BeamT) (bx:Array Value) (gm go:Nat) (fo:Nat→Option Rat):Prop where
 bm:Blk wr w.heap.size 117 bx
 mom:ExRow wr gm b.sup.length (fun j=>(rX b)[j]?)
 o:ExRow wr go b.sup.length fo
 bel:Below w.heap.size w wr
 gm:gm<w.heap.size
 go:w.heap.size<go
section
variable {w wr w':World} {b:BeamT} {bx:Array Value} {gm go:Nat} {fo:Nat→Option Rat}
theorem RcSt.grow (h:RcSt w wr b bx gm go fo) (hb:Below wr.heap.size wr w'):RcSt w w' b bx gm go fo :=
 ⟨h.bm.below hb h.bm.lt,h.mom.grow hb,h.o.grow hb,h.bel.trans (hb.mono h.bel.size),h.gm,h.go⟩
theorem RcSt.alloc (h:RcSt w wr b bx gm go fo) (o:Obj):RcSt w (wr.alloc o) b bx gm go fo:=h.grow ((yB _ _).alloc (yA _) _)
theorem RcSt.put (h:RcSt w wr b bx gm go fo) {i:Nat} (hi:i<b.sup.length) {b1:Bool} {A1:Option Addr} {l1 c1:Nat} {b2:Bool} {A2:Option Addr} {l2 c2:Nat} {q:Rat} (hE:ExactAt wr (.agg (zD b1 A1 l1 c1 b2 A2 l2 c2)) q) :
  RcSt w ((((wr.setCell ⟨go,i*4,none⟩ (.bool b1)).setCell ⟨go,i*4+1,none⟩ (.slice A1 l1 c1)).setCell ⟨go,i*4+2,none⟩ (.bool b2)).setCell ⟨go,i*4+3,none⟩ (.slice A2 l2 c2)) b bx gm go (eu fo i q):=by
 obtain⟨cs,hg⟩:=h.o.blk;have h1:=h.gm;have h2:=h.go;exact⟨h.bm.far4o (Nat.ne_of_lt h2) _ _ _ _ _,h.mom.far hg (by omega) _ _ _ _ _,h.o.write hi hE,dI h.bel (YG h2) _ _ _ _ _,h1,h2⟩
end
def Wh (l:List Rat) (w:World) (e:Ending) (w':World):Prop:=Below w.heap.size w w'∧∃v,e=.returned v∧ExsAt w' v l
theorem Sy (v u:Value) (b:BeamT) (w:World) (hv:BeamAt w w.heap.size v b) (hu:ExsAt w u (rX b)) (hb:BeamOk b):Calls Tryz.prog 145 #[v,u] w (Wh (dP b) w):=by
 obtain⟨As,cs,Al,cl,rfl,hS,hL⟩:=hv;obtain⟨gm,rfl,hM⟩:=hu;obtain⟨Rb,hm2⟩:=hb.sup1;obtain⟨_,_,e,_,_,td⟩:=hS.open_;injection e with e1 _ e2;subst e1 e2;obtain⟨bs,os,rfl,gL,xZ⟩:=td 0 Rb;obtain⟨_,_,e,_,dR,nQ⟩:=hL.open_;injection e with e1 _ e2;subst e1 e2;unfold maxLen at dR;have HV:Y0 (BeamAt w w.heap.size (.agg (zC b (some ⟨bs,os,none⟩) cs Al cl)) b):=⟨_,_,Al,cl,rfl,hS,hL⟩;have mI:Y0 (∀j,j<b.sup.length→w.cell? ⟨bs,os+j,none⟩=some (.int .i64 (ai b j))):=fun j hj=>by
  have h:=xZ j hj;unfold ai;rw[yO,yN hj];exact h
 have uw:=zh nQ;have Hb:=zh hb;have HbT:=zh (kW hb);rw[qL] at hM;rw[qL];have HM:=zh hM;have HD:=zh (Blk.new w 117 (zC b (some ⟨bs,os,none⟩) cs Al cl));have HB:=zh ((yB _ w).alloc (yA _) (.cells (zC b (some ⟨bs,os,none⟩) cs Al cl) 117));have Mp:=hb.loads1;obtain⟨iE,GX,pX,pW,sk⟩:=info_parts pV;have cm:iE.bytes*b.sup.length≤281474976710656:=by rw[sk];omega
 clear hS hL hb td xZ nQ hM;go_enter Tryz.func145,Tryz.ntmps145;go_wp2_with (at_make;refine wpList_make_full _ rfl _ _ 172 rfl _ 223 iE (.agg (zD false none 0 0 false none 0 0)) 4 Tryz.underlying172 GX pX pW .i64 .i64 _ _ b.sup.length rfl rfl rfl rfl cm (by unfold maxLen;omega) (Nat.le_refl _) ?_;intro zp vI oD;have I3:=zh (HD.o.kept oD (by simp));have y0:=I3.o.cell 0;have y1:=I3.o.cell 1;have y2:=I3.o.cell 2;have y3:=I3.o.cell 3;simp only[aB,aD,aA] at y0 y1 y2 y3;have qk6:=zh vI;have vqc:=zh oD;clear vI oD)
 have JX:Y0 (RcSt w zp b (zC b (some ⟨bs,os,none⟩) cs Al cl) gm (w.heap.size+1) (mL b 0)):=by
  have fO:(w.alloc (.cells (zC b (some ⟨bs,os,none⟩) cs Al cl) 117)).heap.size=w.heap.size+1:=by simp
  have sw:=(yB (w.alloc (.cells (zC b (some ⟨bs,os,none⟩) cs Al cl) 117)).heap.size (w.alloc (.cells (zC b (some ⟨bs,os,none⟩) cs Al cl) 117))).grown vqc.o (yA _) (fun k hk=>by cases hk);have QW:=ExRow.made qk6.o;have hb:=HB.o.trans (sw.mono HB.o.size);exact⟨I3.o,(HM.o.grow ((yB _ w).alloc (yA _) _)).grow sw,by
   have h:=QW.weak (f':=mL b 0) (fun j q _ h=>by unfold mL at h;rw[if_neg (by omega)] at h;cases h);simpa using h,hb,HM.o.lt,by omega⟩
 have HGm:=zh HM.o.lt;clear HM I3 qk6 vqc HD HB cm GX pX pW sk y0 y1 y2 y3;generalize w.heap.size+1=go at*;go_loopw [21] (fun ix wr=>∃i:Nat,i≤b.sup.length∧ix=.int .i64 i∧Y0 (RcSt w wr b (zC b (some ⟨bs,os,none⟩) cs Al cl) gm go (mL b i))) (fun ix _=>b.sup.length-(intOf ix).toNat)
 case atStart=>exact⟨0,yI _,rfl,JX⟩
 clear JX;obtain⟨i,him,rfl,HR⟩:=hrel;have k0:(0:Int)≤(i:Int):=yE _;have k01:(i:Int)≤10:=by omega
 by_cases ta:i<b.sup.length
 ·have k1:(i:Int)<(b.sup.length:Int):=by omega
  obtain⟨sq,hsq⟩:=zo (ai b i);have LX:=zh hsq;have z1:=(HR.o.bel.cell (p:=⟨bs,os+i,none⟩) gL).trans (mI.o i ta);have ts:=Hb.o.sup i ta;have tl:=Hb.o.len;rw[hsq] at z1 ts;clear hsq;obtain⟨ts1,ts2⟩:=ts;obtain⟨Mk,Mj⟩:=tl;obtain⟨y0,y1,y2,y3,y4⟩:=HR.o.bm.c5;go_wp2_with fail;refine (fU _ _ (by decide) (by decide)).mono ?_;rintro e w5 ⟨bf,v5,rfl,H8⟩;obtain⟨qj0,qj2,qjW,qjY,qjZ,qj1,qjV,qjX,rfl,-,-⟩:=H8.form
  have E6:=zh H8;have ou:=zh (HR.o.grow bf);obtain⟨_,_,_,_,_,_,_,_,o0,o1,o2,o3,-⟩:=ou.o.o.read (i:=i) ta;have ng:=ou.o.o.frozen (i*4);have na:=ou.o.o.frozen (i*4+1);have mZ:=ou.o.o.frozen (i*4+2);have mY:=ou.o.o.frozen (i*4+3);have ot:=zh (ou.o.put (i:=i) ta E6.o);have y3:=ot.o.bm.cell 3;simp only[aB,aD,aA] at y3;clear y0 y1 y2 y4 H8 bf HR z1;go_wp2_with fail;generalize ((((w5.setCell ⟨go,i*4,none⟩ (.bool qj0)).setCell ⟨go,i*4+1,none⟩ (.slice qj2 qjW qjY)).setCell ⟨go,i*4+2,none⟩ (.bool qjZ)).setCell ⟨go,i*4+3,none⟩ (.slice qj1 qjV qjX))=W6 at*
  clear ou E6 o0 o1 o2 o3 ng na mZ mY y3;obtain⟨wo,rfl⟩:∃wo:World,wo=W6:=⟨_,rfl⟩;have HR7:Y0 (RcSt w wo b (zC b (some ⟨bs,os,none⟩) cs Al cl) gm go (eu (mL b i) i (iQ b sq 0))):=ot;clear ot;go_loopw [33] (fun kx wr=>∃k:Nat,k≤b.loads.length∧kx=.int .i64 k∧Y0 (RcSt w wr b (zC b (some ⟨bs,os,none⟩) cs Al cl) gm go (eu (mL b i) i (iQ b sq k)))) (fun kx _=>b.loads.length-(intOf kx).toNat)
  case atStart=>exact⟨0,yI _,rfl,HR7⟩
  clear HR7;obtain⟨k,hk,rfl,HR⟩:=hrel;have kk0:(0:Int)≤(k:Int):=yE _;by_cases aK:k<b.loads.length
  ·have kk1:(k:Int)<(b.loads.length:Int):=by omega
   obtain⟨b2,o2,rfl,aI,qkF⟩:=uw.o k aK;obtain⟨cG,dc⟩:=qkF k aK;have cG:=(HR.o.bel.cell (p:=⟨b2,o2+k*2,none⟩) aI).trans cG;have dc:=(HR.o.bel.cell (p:=⟨b2,o2+k*2+1,none⟩) aI).trans dc;obtain⟨p1,p2,p3,p4⟩:=Hb.o.loads _ (yV aK);have gZ:=zh (Zl (b:=b) (f:=nN sq) (s:=((0:Int):Rat)) aK);have Mc:=zh (xW Hb.o sq (YG aK));have ey:=zh (HR.o.alloc (.cells #[.int .i64 b.loads[k].pos,.int .i64 b.loads[k].wt] 115))
   clear qkF;generalize b.loads[k]=x at*;obtain⟨pos,wt⟩:=x;simp only at cG dc p1 p2 p3 p4 ey;by_cases pY:pos=sq
   ·have hd:(pos==sq)=true:=beq_iff_eq.2 pY;have HT:Y0 (iQ b sq (k+1)=iQ b sq k+((wt:Int):Rat)):=by
     unfold Y0 iQ;rw[gZ.o];unfold nN;simp only[if_pos pY]
    have xy:Y0 (cg ((wt:Int):Rat) 5):=tP (x:=⟨pos,wt⟩) ⟨p3,p4⟩;clear gZ pY;go_wp2_with fail;have z:=Blk.new wr 115 #[.int .i64 pos,.int .i64 wt];have z2:=z.cell 0;have z3:=z.cell 1;simp only[aB,aD,aA] at z2 z3;clear z cG dc HR;generalize wr.alloc (.cells #[.int .i64 pos,.int .i64 wt] 115)=W7 at*;have Tv:=YL z2;have uz1:=YL z3;clear z2 z3;obtain⟨kA,kC,ku,k7,k8,kB,kt,ky,a0,a1,a2,a3,qX⟩:=ey.o.o.read (i:=i) (by omega)
    have rC:=zh (qX _ (gJ _ _ _));have uF:=YL a0;have uE:=YL a1;have uD:=YL a2;have uC:=YL a3;clear a0 a1 a2 a3 qX;have bo:=zh ey.o.bel;refine af 11 (fun jx=>if jx=8 then some (gE (((wt:Int):Rat))) else if jx=9 then some (gE (iQ b sq k+((wt:Int):Rat))) else none) (by kernel_rfl) (by kernel_rfl) ?_;simp only[aO,aR,aP,aQ];refine zw 8 ?_;simp only[aO,aR,aP,aQ]
    repeat (go_big_quiet_step (fail))
    refine YE ?_;refine ae rfl rfl ?_ ?_
    ·intro w1 ak hk;have hb:=(bo.o).trans (ak.mono (bo.o).size);have hC:=MakesE.g (fU wt w1 (by omega) (by omega));exact zc hC
    rintro _ ⟨qvD,qvF,qvz,qvB,qvC,qvE,qvy,qvA,rfl⟩;simp only[Act.put,aw,av,au];refine ae rfl rfl ?_ ?_
    ·intro w1 ak hk;have hb:=(bo.o).trans (ak.mono (bo.o).size);have h49:ExactAt w1 (.agg (zD qvD qvF qvz qvB qvC qvE qvy qvA)) (((wt:Int):Rat)):=hk 49 zk;have hC:=MakesE.g (fA _ _ _ _ 245 5 w1 (rC.o.grow ak) h49 Mc.o xy.o (by decide));exact zc hC
    rintro _ ⟨WC,WG,Wy,WA,WB,WE,Wx,Wz,rfl⟩;simp only[Act.put,aw,av,au];refine zw 1 ?_;simp only[aO,aR,aP,aQ]
    repeat (go_big_quiet_step (fail))
    refine YE ?_;refine Zc ?_;intro w8 aT hF;have h50:ExactAt w8 (.agg (zD WC WG Wy WA WB WE Wx Wz)) (iQ b sq k+((wt:Int):Rat)):=hF 50;rw[←HT.o] at h50;have vqg:=zh h50;have kQ:=zh (ey.o.grow aT);obtain⟨_,_,_,_,_,_,_,_,o0,o1,o2,o3,-⟩:=kQ.o.o.read (i:=i) (by omega);have ng:=kQ.o.o.frozen (i*4);have na:=kQ.o.o.frozen (i*4+1);have mZ:=kQ.o.o.frozen (i*4+2);have mY:=kQ.o.o.frozen (i*4+3);clear hF h50 aT ey bo uF uE uD uC rC Tv uz1
    go_wp2_with fail;have HRn:=zh (kQ.o.put (i:=i) (by omega) vqg.o);rw[gK] at HRn;generalize ((((w8.setCell ⟨go,i*4,none⟩ (.bool WC)).setCell ⟨go,i*4+1,none⟩ (.slice WG Wy WA)).setCell ⟨go,i*4+2,none⟩ (.bool WB)).setCell ⟨go,i*4+3,none⟩ (.slice WE Wx Wz))=W8 at*;clear kQ vqg o0 o1 o2 o3 ng na mZ mY;go_roundw
    case rel=>exact⟨k+1,by omega,by go_num,HRn⟩
    simp[intOf];omega
   have hd:(pos==sq)=false:=zb pY;have HT:Y0 (iQ b sq (k+1)=iQ b sq k):=by
    unfold Y0 iQ;rw[gZ.o];unfold nN;simp only[if_neg pY]
   rw[←HT.o] at ey;clear gZ HR pY;go_wp2_with fail;go_roundw
   case rel=>exact⟨k+1,by omega,by go_num,ey⟩
   simp[intOf];omega
  obtain rfl:k=b.loads.length:=by omega
  have kK:Y0 (RcSt w wr b (zC b (some ⟨bs,os,none⟩) cs Al cl) gm go (eu (mL b i) i (iP b i))):=by
   unfold Y0 iP;rw[LX.o];exact HR.o
  have z1:=(kK.o.bel.cell (p:=⟨bs,os+i,none⟩) gL).trans (mI.o i ta);rw[LX.o] at z1;have kk2:decide ((b.loads.length:Int)<(b.loads.length:Int))=false:=yC (Int.lt_irrefl _);clear HR;obtain⟨W9,rfl⟩:∃W:World,W=wr:=⟨_,rfl⟩;by_cases h1:i+1<b.sup.length
  case' neg=>
   have hzn:((i:Int)==(b.sup.length:Int)-1)=true:=beq_iff_eq.2 (by omega);have hq1:decide ((i:Int)+1<(b.sup.length:Int))=false:=yC (by omega);have mR:Y0 (jq b i=ik b i):=if_neg h1
  case' pos=>
   have hzn:((i:Int)==(b.sup.length:Int)-1)=false:=zb (by omega);have hq1:decide ((i:Int)+1<(b.sup.length:Int))=true:=yD (by omega);have z2:=(kK.o.bel.cell (p:=⟨bs,os+(i+1),none⟩) gL).trans (mI.o (i+1) (by omega));have t2:=Hb.o.inc i h1;have t3:=Hb.o.sup (i+1) h1;rw[LX.o] at t2;have HLg:=kD Hb.o (i:=i) h1 true;rw[LX.o] at HLg;have HLg:=zh HLg;have HMp:=zh (jU Hb.o (i:=i+1) h1);have HMj:=zh (jU Hb.o (i:=i) (by omega))
   have xy:=zh (nB Hb.o (i:=i) (by omega));have XQ:Y0 (∀c,c=ai b (i+1)→jq b i=ik b i+dQ b sq c true+(Zx b (i+1)-Zx b i)/((c-sq:Int):Rat)):=fun c hc=>by
    unfold jq bk;rw[if_pos h1,Nat.add_sub_cancel,LX.o,hc]
   obtain⟨sr,hsr⟩:=zo (ai b (i+1));have mR:=zh (XQ.o sr hsr.symm);rw[hsr] at t2 z2 HLg t3;have mX:=mI.o (i+1) (by omega);rw[hsr] at mX;have HZ2:=zh mX;clear XQ hsr mX;obtain⟨t31,t32⟩:=t3;have i3:((i:Int)+1).toNat=i+1:=by omega
   have i6:(i:Int)+1<(b.sup.length:Int):=by omega
   have i9:(0:Int)≤(i:Int)+1:=by omega
   have v2:IntKind.i64.wrap ((i:Int)+1)=(i:Int)+1:=yF _ (by omega);have v4:IntKind.i64.wrap (sr-sq)=sr-sq:=yF _ (by omega)
  all_goals
   have HF3:=zh (nz Hb.o (i:=i) (by omega));have HF4:=zh (BP Hb.o (i:=i) (by omega));obtain⟨y0,y1,y2,y3,y4⟩:=kK.o.bm.c5;by_cases h0:0<i
   case' neg=>
    have kg:((i:Int)==0)=true:=beq_iff_eq.2 (by omega);have hp0:¬(0:Int)<(i:Int):=by omega
    have Lc:decide ((0:Int)<(i:Int))=false:=yC hp0;have gQ:Y0 (ik b i=iP b i):=if_neg h0;go_wp2_with fail;clear y0 y1 y2 y3 y4
   case' pos=>
    have kg:((i:Int)==0)=false:=zb (by omega);have hp0:(0:Int)<(i:Int):=by omega
    have z0:=(kK.o.bel.cell (p:=⟨bs,os+(i-1),none⟩) gL).trans (mI.o (i-1) (by omega));have t1:=Hb.o.inc (i-1) (by omega);have t0:=Hb.o.sup (i-1) (by omega);rw[show i-1+1=i by omega,LX.o] at t1;have vwx:Y0 (ai b (i-1)=ai b (i-1)):=rfl;have HLf:=kD Hb.o (i:=i-1) (by omega) false;rw[show i-1+1=i by omega,LX.o] at HLf;have HLf:=zh HLf;have JY:=zh (jU Hb.o (i:=i-1) (by omega));have HMi:=zh (jU Hb.o (i:=i) (by omega))
    have XQ:Y0 (∀c,c=ai b (i-1)→ik b i=iP b i+dQ b c sq false+(Zx b (i-1)-Zx b i)/((sq-c:Int):Rat)):=fun c hc=>by
     unfold ik bk;rw[if_pos h0,LX.o,hc]
    obtain⟨sp,hsp⟩:=zo (ai b (i-1));have gQ:=zh (XQ.o sp hsp.symm);rw[hsp] at t1 z0 HLf t0;clear XQ hsp vwx;obtain⟨t01,t02⟩:=t0;have i2:((i:Int)-1).toNat=i-1:=by omega
    have i4:(0:Int)≤(i:Int)-1:=by omega
    have i5:(i:Int)-1<(b.sup.length:Int):=by omega
    have v1:IntKind.i64.wrap ((i:Int)-1)=(i:Int)-1:=yF _ (by omega);have v3:IntKind.i64.wrap (sq-sp)=sq-sp:=yF _ (by omega);go_wp2_with fail;clear y0 y1 y2 y3 y4;obtain⟨kA,kC,ku,k7,k8,kB,kt,ky,a0,a1,a2,a3,qX⟩:=kK.o.o.read (i:=i) (by omega);have rC:=zh (qX _ (gJ _ _ _));have uF:=YL a0;have uE:=YL a1;have uD:=YL a2;have uC:=YL a3;clear a0 a1 a2 a3 qX;obtain⟨pL,pM,pJ,pK,oM,oN,oK,oL,c0,c1,c2,c3,De⟩:=kK.o.mom.read (i:=(i-1)) (by omega)
    have Em:=zh (De _ (tW b (by omega)));have Kl:=YL c0;have EK:=YL c1;have Kk:=YL c2;have B0:=YL c3;clear c0 c1 c2 c3 De;obtain⟨MR,MU,Mk,MP,MQ,MS,Mj,MO,d0,d1,d2,d3,R5⟩:=kK.o.mom.read (i:=i) (by omega);have Ti:=zh (R5 _ (tW b (by omega)));have MJ:=YL d0;have MI:=YL d1;have MH:=YL d2;have MG:=YL d3;clear d0 d1 d2 d3 R5;obtain⟨y0,y1,y2,y3,y4⟩:=kK.o.bm.c5;have TV:=YL y0;have TU:=YL y1;have TT:=YL y2;have TS:=YL y3
    have TR:=YL y4;clear y0 y1 y2 y3 y4;have bo:=zh kK.o.bel;refine af 28 (fun jx=>if jx=9 then some (gE (dQ b sp sq false)) else if jx=10 then some (gE (iP b i+dQ b sp sq false)) else if jx=20 then some (gE (Zx b (i-1)-Zx b i)) else if jx=24 then some (gE (((sq-sp:Int):Rat))) else if jx=25 then some (gE ((Zx b (i-1)-Zx b i)/((sq-sp:Int):Rat))) else if jx=26 then some (gE (iP b i+dQ b sp sq false+(Zx b (i-1)-Zx b i)/((sq-sp:Int):Rat))) else none) (by kernel_rfl) (by kernel_rfl) ?_
    simp only[aO,aR,aP,aQ];refine zw 9 ?_;simp only[aO,aR,aP,aQ]
    repeat (go_big_quiet_step (fail))
    refine YE ?_;refine ae rfl rfl ?_ ?_
    ·intro w1 ak hk;have hb:=(bo.o).trans (ak.mono (bo.o).size);have hC:=MakesE.g (JO _ b sp sq false w1 ((HV.o.below hb (yA _)).mono hb.size) Hb.o (by omega) (by omega) (by omega));exact zc hC
    rintro _ ⟨qvv,qvx,qvr,qvt,qvu,qvw,qvq,qvs,rfl⟩;simp only[Act.put,aw,av,au];refine ae rfl rfl ?_ ?_
    ·intro w1 ak hk;have hb:=(bo.o).trans (ak.mono (bo.o).size);have h70:ExactAt w1 (.agg (zD qvv qvx qvr qvt qvu qvw qvq qvs)) (dQ b sp sq false):=hk 70 zk;have hC:=MakesE.g (fA _ _ _ _ 245 245 w1 (rC.o.grow ak) h70 (kr Hb.o i) HLf.o (by decide));exact zc hC
    rintro _ ⟨qvn,qvp,qvj,qvl,qvm,qvo,qvi,qvk,rfl⟩;simp only[Act.put,aw,av,au];refine zw 9 ?_;simp only[aO,aR,aP,aQ]
    repeat (go_big_quiet_step (fail))
    refine YE ?_;refine ae rfl rfl ?_ ?_
    ·intro w1 ak hk;have hb:=(bo.o).trans (ak.mono (bo.o).size);have hC:=MakesE.g (jg _ _ _ _ 60000 60000 w1 (Em.o.grow ak) (Ti.o.grow ak) JY.o HMi.o (by decide));exact zc hC
    rintro _ ⟨qvf,qvh,qvb,qvd,qve,qvg,qva,qvc,rfl⟩;simp only[Act.put,aw,av,au];refine zw 3 ?_;simp only[aO,aR,aP,aQ]
    repeat (go_big_quiet_step (fail))
    refine YE ?_;refine ae rfl rfl ?_ ?_
    ·intro w1 ak hk;have hb:=(bo.o).trans (ak.mono (bo.o).size);have hC:=MakesE.g (fU (sq-sp) w1 (by omega) (by omega));exact zc hC
    rintro _ ⟨ND,NG,N9,NB,NC,NF,N8,NA,rfl⟩;simp only[Act.put,aw,av,au];refine ae rfl rfl ?_ ?_
    ·intro w1 ak hk;have hb:=(bo.o).trans (ak.mono (bo.o).size);have h81:ExactAt w1 (.agg (zD qvf qvh qvb qvd qve qvg qva qvc)) (Zx b (i-1)-Zx b i):=hk 81 zk;have h85:ExactAt w1 (.agg (zD ND NG N9 NB NC NF N8 NA)) (((sq-sp:Int):Rat)):=hk 85 zk;have hC:=MakesE.g (JQ _ _ _ _ 120001 1 w1 h81 h85 (dY (K:=60000) (M:=60000) JY.o HMi.o) (bL (by rw[Nat.pow_one];omega) (yA _)) (by rw[Rat.num_intCast];omega) (by decide))
     exact zc hC
    rintro _ ⟨N5,N7,Nw,Ny,Nz,N6,Nv,Nx,rfl⟩;simp only[Act.put,aw,av,au];refine ae rfl rfl ?_ ?_
    ·intro w1 ak hk;have hb:=(bo.o).trans (ak.mono (bo.o).size);have h71:ExactAt w1 (.agg (zD qvn qvp qvj qvl qvm qvo qvi qvk)) (iP b i+dQ b sp sq false):=hk 71 zk;have h86:ExactAt w1 (.agg (zD N5 N7 Nw Ny Nz N6 Nv Nx)) ((Zx b (i-1)-Zx b i)/((sq-sp:Int):Rat)):=hk 86 zk;have hC:=MakesE.g (fA _ _ _ _ (245+246) 120002 w1 h71 h86 (iw (kr Hb.o i) HLf.o) (fh (K:=120001) (M:=1) (by rw[Rat.num_intCast];omega) (dY (K:=60000) (M:=60000) JY.o HMi.o) (bL (by rw[Nat.pow_one];omega) (yA _))) (by decide))
     exact zc hC
    rintro _ ⟨Wu,Ww,Wq,Ws,Wt,Wv,Wp,Wr,rfl⟩;simp only[Act.put,aw,av,au];refine zw 1 ?_;simp only[aO,aR,aP,aQ]
    repeat (go_big_quiet_step (fail))
    refine YE ?_;refine Zc ?_;intro w8 aT hF;have h87:ExactAt w8 (.agg (zD Wu Ww Wq Ws Wt Wv Wp Wr)) (iP b i+dQ b sp sq false+(Zx b (i-1)-Zx b i)/((sq-sp:Int):Rat)):=hF 87;have vqf:=zh h87;have kQ:=zh (kK.o.grow aT);obtain⟨_,_,_,_,_,_,_,_,o0,o1,o2,o3,-⟩:=kQ.o.o.read (i:=i) (by omega);have ng:=kQ.o.o.frozen (i*4);have na:=kQ.o.o.frozen (i*4+1);have mZ:=kQ.o.o.frozen (i*4+2);have mY:=kQ.o.o.frozen (i*4+3)
    clear hF h87 aT kK bo uF uE uD uC rC Kl EK Kk B0 Em MJ MI MH MG Ti TV TU TT TS TR;obtain⟨y0,y1,y2,y3,y4⟩:=kQ.o.bm.c5
    try have z2:=(kQ.o.bel.cell (p:=⟨bs,os+(i+1),none⟩) gL).trans HZ2.o
    have ng1:w.heap.size≠go:=Nat.ne_of_lt kQ.o.go;have ng2:bs≠go:=by have:=kQ.o.go;omega
    have ng3:go≠w.heap.size:=Ne.symm ng1;have ng4:go≠bs:=Ne.symm ng2;go_wp2_with fail;clear y0 y1 y2 y3 y4 ng1 ng2 ng3 ng4
    try clear z2
    have kK:=zh (kQ.o.put (i:=i) (by omega) vqf.o);rw[gK] at kK;generalize ((((w8.setCell ⟨go,i*4,none⟩ (.bool Wu)).setCell ⟨go,i*4+1,none⟩ (.slice Ww Wq Ws)).setCell ⟨go,i*4+2,none⟩ (.bool Wt)).setCell ⟨go,i*4+3,none⟩ (.slice Wv Wp Wr))=W9 at*;clear kQ vqf o0 o1 o2 o3 ng na mZ mY
   all_goals rw[←gQ.o] at kK
  all_goals
   by_cases hs:i+1<b.sup.length
   case' neg=>
    try exact absurd h1 hs
    all_goals
     rw[←mR.o] at kK
   case' pos=>
    try exact absurd hs h1
    all_goals
     obtain⟨kA,kC,ku,k7,k8,kB,kt,ky,a0,a1,a2,a3,qX⟩:=kK.o.o.read (i:=i) (by omega);have rC:=zh (qX _ (gJ _ _ _));have uF:=YL a0;have uE:=YL a1;have uD:=YL a2;have uC:=YL a3;clear a0 a1 a2 a3 qX;obtain⟨pL,pM,pJ,pK,oM,oN,oK,oL,c0,c1,c2,c3,De⟩:=kK.o.mom.read (i:=(i+1)) (by omega);have Em:=zh (De _ (tW b (by omega)));have Kl:=YL c0;have EK:=YL c1;have Kk:=YL c2;have B0:=YL c3;clear c0 c1 c2 c3 De;obtain⟨MR,MU,Mk,MP,MQ,MS,Mj,MO,d0,d1,d2,d3,R5⟩:=kK.o.mom.read (i:=i) (by omega)
     have Ti:=zh (R5 _ (tW b (by omega)));have MJ:=YL d0;have MI:=YL d1;have MH:=YL d2;have MG:=YL d3;clear d0 d1 d2 d3 R5;obtain⟨y0,y1,y2,y3,y4⟩:=kK.o.bm.c5;have TV:=YL y0;have TU:=YL y1;have TT:=YL y2;have TS:=YL y3;have TR:=YL y4;clear y0 y1 y2 y3 y4;have bo:=zh kK.o.bel;refine af 28 (fun jx=>if jx=9 then some (gE (dQ b sq sr true)) else if jx=10 then some (gE (ik b i+dQ b sq sr true)) else if jx=20 then some (gE (Zx b (i+1)-Zx b i)) else if jx=24 then some (gE (((sr-sq:Int):Rat))) else if jx=25 then some (gE ((Zx b (i+1)-Zx b i)/((sr-sq:Int):Rat))) else if jx=26 then some (gE (ik b i+dQ b sq sr true+(Zx b (i+1)-Zx b i)/((sr-sq:Int):Rat))) else none) (by kernel_rfl) (by kernel_rfl) ?_
     simp only[aO,aR,aP,aQ];refine zw 9 ?_;simp only[aO,aR,aP,aQ]
     repeat (go_big_quiet_step (fail))
     refine YE ?_;refine ae rfl rfl ?_ ?_
     ·intro w1 ak hk;have hb:=(bo.o).trans (ak.mono (bo.o).size);have hC:=MakesE.g (JO _ b sq sr true w1 ((HV.o.below hb (yA _)).mono hb.size) Hb.o (by omega) (by omega) (by omega));exact zc hC
     rintro _ ⟨G3,G5,Gz,G1,G2,G4,Gy,G0,rfl⟩;simp only[Act.put,aw,av,au];refine ae rfl rfl ?_ ?_
     ·intro w1 ak hk;have hb:=(bo.o).trans (ak.mono (bo.o).size);have qjR:ExactAt w1 (.agg (zD G3 G5 Gz G1 G2 G4 Gy G0)) (dQ b sq sr true):=hk 108 zk;have hC:=MakesE.g (fA _ _ _ _ 121000 245 w1 (rC.o.grow ak) qjR xy.o HLg.o (by decide));exact zc hC
     rintro _ ⟨Gv,Gx,Gr,Gt,Gu,Gw,Gq,Gs,rfl⟩;simp only[Act.put,aw,av,au];refine zw 9 ?_;simp only[aO,aR,aP,aQ]
     repeat (go_big_quiet_step (fail))
     refine YE ?_;refine ae rfl rfl ?_ ?_
     ·intro w1 ak hk;have hb:=(bo.o).trans (ak.mono (bo.o).size);have hC:=MakesE.g (jg _ _ _ _ 60000 60000 w1 (Em.o.grow ak) (Ti.o.grow ak) HMp.o HMj.o (by decide));exact zc hC
     rintro _ ⟨qxn,qxp,qxj,qxl,qxm,qxo,qxi,qxk,rfl⟩;simp only[Act.put,aw,av,au];refine zw 3 ?_;simp only[aO,aR,aP,aQ]
     repeat (go_big_quiet_step (fail))
     refine YE ?_;refine ae rfl rfl ?_ ?_
     ·intro w1 ak hk;have hb:=(bo.o).trans (ak.mono (bo.o).size);have hC:=MakesE.g (fU (sr-sq) w1 (by omega) (by omega));exact zc hC
     rintro _ ⟨qw7,qw9,qw3,qw5,qw6,qw8,qw2,qw4,rfl⟩;simp only[Act.put,aw,av,au];refine ae rfl rfl ?_ ?_
     ·intro w1 ak hk;have hb:=(bo.o).trans (ak.mono (bo.o).size);have vwd:ExactAt w1 (.agg (zD qxn qxp qxj qxl qxm qxo qxi qxk)) (Zx b (i+1)-Zx b i):=hk 119 zk;have vwb:ExactAt w1 (.agg (zD qw7 qw9 qw3 qw5 qw6 qw8 qw2 qw4)) (((sr-sq:Int):Rat)):=hk 123 zk;have hC:=MakesE.g (JQ _ _ _ _ 120001 1 w1 vwd vwb (dY (K:=60000) (M:=60000) HMp.o HMj.o) (bL (by rw[Nat.pow_one];omega) (yA _)) (by rw[Rat.num_intCast];omega) (by decide))
      exact zc hC
     rintro _ ⟨qwZ,qw1,qwV,qwX,qwY,qw0,qwU,qwW,rfl⟩;simp only[Act.put,aw,av,au];refine ae rfl rfl ?_ ?_
     ·intro w1 ak hk;have hb:=(bo.o).trans (ak.mono (bo.o).size);have qjQ:ExactAt w1 (.agg (zD Gv Gx Gr Gt Gu Gw Gq Gs)) (ik b i+dQ b sq sr true):=hk 109 zk;have vwa:ExactAt w1 (.agg (zD qwZ qw1 qwV qwX qwY qw0 qwU qwW)) ((Zx b (i+1)-Zx b i)/((sr-sq:Int):Rat)):=hk 124 zk;have hC:=MakesE.g (fA _ _ _ _ (121000+246) 120002 w1 qjQ vwa (iw xy.o HLg.o) (fh (K:=120001) (M:=1) (by rw[Rat.num_intCast];omega) (dY (K:=60000) (M:=60000) HMp.o HMj.o) (bL (by rw[Nat.pow_one];omega) (yA _))) (by decide))
      exact zc hC
     rintro _ ⟨Qi,Qk,Qe,Qg,Qh,Qj,Qd,Qf,rfl⟩;simp only[Act.put,aw,av,au];refine zw 1 ?_;simp only[aO,aR,aP,aQ]
     repeat (go_big_quiet_step (fail))
     refine YE ?_;refine Zc ?_;intro w8 aT hF;have Vf:ExactAt w8 (.agg (zD Qi Qk Qe Qg Qh Qj Qd Qf)) (ik b i+dQ b sq sr true+(Zx b (i+1)-Zx b i)/((sr-sq:Int):Rat)):=hF 125;have Yh:=zh Vf;have kQ:=zh (kK.o.grow aT);obtain⟨_,_,_,_,_,_,_,_,o0,o1,o2,o3,-⟩:=kQ.o.o.read (i:=i) (by omega);have ng:=kQ.o.o.frozen (i*4);have na:=kQ.o.o.frozen (i*4+1);have mZ:=kQ.o.o.frozen (i*4+2);have mY:=kQ.o.o.frozen (i*4+3)
     clear hF Vf aT kK bo uF uE uD uC rC Kl EK Kk B0 Em MJ MI MH MG Ti TV TU TT TS TR;go_wp2_with fail;have kK:=zh (kQ.o.put (i:=i) (by omega) Yh.o);rw[gK] at kK;generalize ((((w8.setCell ⟨go,i*4,none⟩ (.bool Qi)).setCell ⟨go,i*4+1,none⟩ (.slice Qk Qe Qg)).setCell ⟨go,i*4+2,none⟩ (.bool Qh)).setCell ⟨go,i*4+3,none⟩ (.slice Qj Qd Qf))=W9 at*;clear kQ Yh o0 o1 o2 o3 ng na mZ mY;rw[←mR.o] at kK
  all_goals
   by_cases hs:0<i
   case' neg=>
    try exact absurd h0 hs
    all_goals
     obtain⟨kA,kC,ku,k7,k8,kB,kt,ky,a0,a1,a2,a3,qX⟩:=kK.o.o.read (i:=i) (by omega);have rC:=zh (qX _ (gJ _ _ _));have uF:=YL a0;have uE:=YL a1;have uD:=YL a2;have uC:=YL a3;clear a0 a1 a2 a3 qX;obtain⟨y0,y1,y2,y3,y4⟩:=kK.o.bm.c5;have TV:=YL y0;have TU:=YL y1;have TT:=YL y2;have TS:=YL y3;have TR:=YL y4;clear y0 y1 y2 y3 y4;have bo:=zh kK.o.bel;refine af 11 (fun jx=>if jx=8 then some (gE (eh b sq)) else if jx=9 then some (gE (jq b i+eh b sq)) else none) (by kernel_rfl) (by kernel_rfl) ?_
     simp only[aO,aR,aP,aQ];refine zw 8 ?_;simp only[aO,aR,aP,aQ]
     repeat (go_big_quiet_step (fail))
     refine YE ?_;refine ae rfl rfl ?_ ?_
     ·intro w1 ak hk;have hb:=(bo.o).trans (ak.mono (bo.o).size);have hC:=MakesE.g (DT _ b sq w1 ((HV.o.below hb (yA _)).mono hb.size) Hb.o (by omega) (by omega));exact zc hC
     rintro _ ⟨qwl,qwn,qwh,qwj,qwk,qwm,qwg,qwi,rfl⟩;simp only[Act.put,aw,av,au];refine ae rfl rfl ?_ ?_
     ·intro w1 ak hk;have hb:=(bo.o).trans (ak.mono (bo.o).size);have vq6:ExactAt w1 (.agg (zD qwl qwn qwh qwj qwk qwm qwg qwi)) (eh b sq):=hk 137 zk;have hC:=MakesE.g (fA _ _ _ _ 242000 245 w1 (rC.o.grow ak) vq6 HF3.o (kJ Hb.o (by omega) (by omega) (yA _)) (by decide));exact zc hC
     rintro _ ⟨PQ,PS,PL,PO,PP,PR,PK,PN,rfl⟩;simp only[Act.put,aw,av,au];refine zw 1 ?_;simp only[aO,aR,aP,aQ]
     repeat (go_big_quiet_step (fail))
     refine YE ?_;refine Zc ?_;intro w8 aT hF;have qkR:ExactAt w8 (.agg (zD PQ PS PL PO PP PR PK PN)) (jq b i+eh b sq):=hF 138;have Ye:=zh qkR;have kQ:=zh (kK.o.grow aT);obtain⟨_,_,_,_,_,_,_,_,o0,o1,o2,o3,-⟩:=kQ.o.o.read (i:=i) (by omega);have ng:=kQ.o.o.frozen (i*4);have na:=kQ.o.o.frozen (i*4+1);have mZ:=kQ.o.o.frozen (i*4+2);have mY:=kQ.o.o.frozen (i*4+3);clear hF qkR aT kK bo uF uE uD uC rC TV TU TT TS TR
     go_wp2_with fail;have kK:=zh (kQ.o.put (i:=i) (by omega) Ye.o);rw[gK] at kK;generalize ((((w8.setCell ⟨go,i*4,none⟩ (.bool PQ)).setCell ⟨go,i*4+1,none⟩ (.slice PS PL PO)).setCell ⟨go,i*4+2,none⟩ (.bool PP)).setCell ⟨go,i*4+3,none⟩ (.slice PR PK PN))=W9 at*;clear kQ Ye o0 o1 o2 o3 ng na mZ mY;have gF:Y0 (jo b i=jq b i+eh b sq):=by unfold Y0 jo;rw[if_pos (by omega),LX.o]
     rw[←gF.o] at kK
   case' pos=>
    try exact absurd hs h0
    all_goals
     have gF:Y0 (jo b i=jq b i):=if_neg (by omega);rw[←gF.o] at kK
  all_goals
   by_cases hs:i+1<b.sup.length
   case' neg=>
    try exact absurd h1 hs
    all_goals
     obtain⟨kA,kC,ku,k7,k8,kB,kt,ky,a0,a1,a2,a3,qX⟩:=kK.o.o.read (i:=i) (by omega);have rC:=zh (qX _ (gJ _ _ _));have uF:=YL a0;have uE:=YL a1;have uD:=YL a2;have uC:=YL a3;clear a0 a1 a2 a3 qX;obtain⟨y0,y1,y2,y3,y4⟩:=kK.o.bm.c5;have TV:=YL y0;have TU:=YL y1;have TT:=YL y2;have TS:=YL y3;have TR:=YL y4;clear y0 y1 y2 y3 y4;have bo:=zh kK.o.bel;refine af 15 (fun jx=>if jx=7 then some (gB (ao b)) else if jx=12 then some (gE (eh (ao b) (b.len-sq))) else if jx=13 then some (gE (jo b i+eh (ao b) (b.len-sq))) else none) (by kernel_rfl) (by kernel_rfl) ?_
     simp only[aO,aR,aP,aQ];refine zw 7 ?_;simp only[aO,aR,aP,aQ]
     repeat (go_big_quiet_step (fail))
     refine YE ?_;refine ae rfl rfl ?_ ?_
     ·intro w1 ak hk;have hb:=(bo.o).trans (ak.mono (bo.o).size);have hC:=TurnedPost.g (DN _ b w1 ((HV.o.below hb (yA _)).mono hb.size) Hb.o);exact zc hC
     rintro _ ⟨tAs,tcs,tAl,tcl,rfl⟩;simp only[Act.put,aw,av,au];refine zw 4 ?_;simp only[aO,aR,aP,aQ]
     repeat (go_big_quiet_step (fail))
     refine YE ?_;refine ae rfl rfl ?_ ?_
     ·intro w1 ak hk;have hb:=(bo.o).trans (ak.mono (bo.o).size);have vq3:BeamAt w1 w1.heap.size (.agg (zC (ao b) tAs tcs tAl tcl)) (ao b):=hk 151 zk;have hC:=MakesE.g (DT _ (ao b) (b.len-sq) w1 vq3 HbT.o (by omega) (by show b.len-sq≤b.len;omega));exact zc hC
     rintro _ ⟨qq5,qq7,qq1,qq3,qq4,qq6,qq0,qq2,rfl⟩;simp only[Act.put,aw,av,au];refine ae rfl rfl ?_ ?_
     ·intro w1 ak hk;have hb:=(bo.o).trans (ak.mono (bo.o).size);have vq2:ExactAt w1 (.agg (zD qq5 qq7 qq1 qq3 qq4 qq6 qq0 qq2)) (eh (ao b) (b.len-sq)):=hk 156 zk;have hC:=MakesE.g (fA _ _ _ _ 242300 245 w1 (rC.o.grow ak) vq2 HF4.o (kJ HbT.o (by omega) (by show b.len-sq≤b.len;omega) (yA _)) (by decide));exact zc hC
     rintro _ ⟨Py,P0,Pu,Pw,Px,Pz,Pt,Pv,rfl⟩;simp only[Act.put,aw,av,au];refine zw 1 ?_;simp only[aO,aR,aP,aQ]
     repeat (go_big_quiet_step (fail))
     refine YE ?_;refine Zc ?_;intro w8 aT hF;have Vd:ExactAt w8 (.agg (zD Py P0 Pu Pw Px Pz Pt Pv)) (jo b i+eh (ao b) (b.len-sq)):=hF 157;have Ya:=zh Vd;have kQ:=zh (kK.o.grow aT);obtain⟨_,_,_,_,_,_,_,_,o0,o1,o2,o3,-⟩:=kQ.o.o.read (i:=i) (by omega);have ng:=kQ.o.o.frozen (i*4);have na:=kQ.o.o.frozen (i*4+1);have mZ:=kQ.o.o.frozen (i*4+2);have mY:=kQ.o.o.frozen (i*4+3);clear hF Vd aT kK bo uF uE uD uC rC TV TU TT TS TR
     go_wp2_with fail;have kK:=zh (kQ.o.put (i:=i) (by omega) Ya.o);rw[gK] at kK;generalize ((((w8.setCell ⟨go,i*4,none⟩ (.bool Py)).setCell ⟨go,i*4+1,none⟩ (.slice P0 Pu Pw)).setCell ⟨go,i*4+2,none⟩ (.bool Px)).setCell ⟨go,i*4+3,none⟩ (.slice Pz Pt Pv))=W9 at*;clear kQ Ya o0 o1 o2 o3 ng na mZ mY;have eP:Y0 (ny b i=jo b i+eh (ao b) (b.len-sq)):=by unfold Y0 ny;rw[if_pos (by omega),LX.o]
     rw[←eP.o,←uL] at kK
   case' pos=>
    try exact absurd hs h1
    all_goals
     have eP:Y0 (ny b i=jo b i):=if_neg (by omega);rw[←eP.o,←uL] at kK
  all_goals
   go_roundw
   case rel=>exact⟨i+1,by omega,by go_num,kK⟩
   simp[intOf];omega
 obtain rfl:i=b.sup.length:=by omega
 have HX:=zh (HR.o.o.weak fun j q _ h=>K7 b h);have Yl:=zh HR.o.bel;clear HR;go_wp2_with fail;go_ret;exact⟨Yl.o,.slice (some ⟨go,0,none⟩) b.sup.length b.sup.length,rfl,go,by rw[uN],by rw[uN];exact HX.o⟩
