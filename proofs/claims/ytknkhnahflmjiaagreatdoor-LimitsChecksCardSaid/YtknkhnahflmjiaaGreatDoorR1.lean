/- Lemmas. -/
import Derived.Test.YtknkhnahflmjiaaGreatDoorR0
namespace Go.Proofs.YtknkhnahflmjiaaGreatDoor
set_option maxRecDepth 100000
set_option maxHeartbeats 40000000
open Go.RowKit Go.Shelf
theorem jV:(Tryz.prog.info? 3).map (fun i=>(i.zero,i.size,i.bytes))=some (some (.int .i64 0),1,8):=by kernel_rfl
theorem vB {w w':World} {B e s n:Nat} {v:Value} {xs:List Value} (h:w.ownsRow B e s v n xs) (hb:Below w.heap.size w w'):w'.ownsRow B e s v n xs :=
 h.kept (kH (row:=none) hb) (by
  by_cases e:v.ownBlock=none
  ·exact .inl e
  exact .inr e)
theorem j8 {w:World} {B:Nat} {v:Value} {x k:Nat} (h:w.ownsRow B 3 1 v k ((cn x k).map oT)):DgTo w w.heap.size v x k:=⟨RowAt.of_own h,fun _ g hg=>by
 rcases h.2 with⟨rfl,_⟩|⟨g',cap,cur,rfl,_,hh,_⟩
 ·simp[Value.ownBlock] at hg
 obtain rfl:g'=g:=by simpa[Value.ownBlock] using hg
 exact⟨cur,(0,0),hh⟩⟩
theorem nE {w:World} {B:Nat} {v:Value} {x k:Nat} {u:Value} (hu:u=.int .i64 (aH x k:Nat)) (h:w.ownsRow B 3 1 v (k+1) ((cn x k).map oT++[u])):w.ownsRow B 3 1 v (k+1) ((cn x (k+1)).map oT):=by
 rw[D9,List.map_append];rw[hu] at h;exact h
theorem o6 (v:Value) (n i:Nat) (w:World) (hv:dF w w.heap.size v n) (_hi:i≤maxLen) :
  Calls Tryz.prog 278 #[v,.int .i64 i] w fun e w'=>e=.returned (.int .i64 (aH n i:Nat))∧w=w':=by
 obtain⟨A,c,rfl,kG,eH,aL⟩:=hv.open_;unfold maxLen at eH;have k0:(0:Int)≤(i:Int):=yE _;by_cases h:i<ag n
 ·obtain⟨b,off,rfl,hb,hx⟩:=aL i h;have h0:=hx i h;have hd:decide ((i:Int)<(ag n:Int))=true:=yD (by omega);have k1:(i:Int)<(ag n:Int):=by omega
  clear hx aL hv;go_enter Tryz.func278,Tryz.ntmps278;go_wp2_with fail;go_ret;exact⟨rfl,rfl⟩
 have hd:decide ((i:Int)<(ag n:Int))=false:=yC (by omega);have hz:=Am (show ag n≤i by omega);clear aL hv;go_enter Tryz.func278,Tryz.ntmps278;go_wp2_with fail;go_ret;exact⟨by rw[hz];rfl,rfl⟩
def sO (w:World) (n:Nat) (e:Ending) (w':World):Prop:=∃v,e=.returned v∧Below w.heap.size w w'∧dF w' w'.heap.size v n
theorem zu (v u:Value) (m n:Nat) (w:World) (hv:dF w w.heap.size v m) (hu:dF w w.heap.size u n) (hm:ag m≤1000000) (hn:ag n≤1000000) :
  Calls Tryz.prog 275 #[v,u] w (sO w (m+n)):=by
 have HDm:Y0 (∀W,Below w.heap.size w W→∀i,i≤maxLen→Calls Tryz.prog 278 #[v,.int .i64 (i:Nat)] W fun e w'=>e=.returned (.int .i64 (aH m i:Nat))∧W=w'):=fun W hb i hi=>o6 v m i W (DgTo.grow hv hb) hi;have Kc:Y0 (∀W,Below w.heap.size w W→∀i,i≤maxLen→Calls Tryz.prog 278 #[u,.int .i64 (i:Nat)] W fun e w'=>e=.returned (.int .i64 (aH n i:Nat))∧W=w'):=fun W hb i hi=>o6 u n i W (DgTo.grow hu hb) hi;have Le:ag (m+n)≤1000001:=nW hm hn
 obtain⟨A1,c1,rfl,-,-,-⟩:=hv.open_;obtain⟨A2,c2,rfl,-,-,-⟩:=hu.open_;clear hv hu;go_enter Tryz.func275,Tryz.ntmps275;go_wp2_with fail;go_loopw [7,6,5] (fun ix cx ox wr=>∃i:Nat,i≤ag (m+n)∧ix=.int .i64 i∧cx=.int .i64 (cT m n i:Nat)∧Y0 (wr.ownsRow w.heap.size 3 1 ox i ((cn (m+n) i).map oT))∧Y0 (Below w.heap.size w wr)) (fun ix _ _ _=>ag (m+n)-(intOf ix).toNat)
 case atStart=>exact⟨0,yI _,rfl,by rw[wy];rfl,yJ _ _ _ _,yB _ _⟩
 obtain⟨i,hi,rfl,rfl,HO,HB⟩:=hrel;rename_i ox wr
 have k0:(0:Int)≤(i:Int):=yE _;have mO:=Je m n i;have hcy:=rr m n i;by_cases aI:i<ag (m+n)
 ·have hc:(decide (i<ag m)=true)∨(decide (i<ag m)=false∧decide (i<ag n)=true)∨(decide (i<ag m)=false∧decide (i<ag n)=false∧decide (0<cT m n i)=true):=by
   by_cases d1:i<ag m
   ·exact .inl (yD d1)
   by_cases d2:i<ag n
   ·exact .inr (.inl ⟨yC d1,yD d2⟩)
   exact .inr (.inr ⟨yC d1,yC d2,yD (by have:=mO.2 aI;omega)⟩)
  have b1:=dK m i;have b2:=dK n i;have e1:=C4 m n i;have e2:=vA m n i;have H1:=HDm.o wr HB.o i (by unfold maxLen;omega);have H2:=Kc.o wr HB.o i (by unfold maxLen;omega);generalize cG:aH m i=x1 at*;generalize dc:aH n i=x2 at*;generalize hx3:cT m n i=x3 at*;have v1:IntKind.i64.wrap ((x1:Int)+(x2:Int))=((x1+x2:Nat):Int):=(yF _ (by omega)).trans (by omega);have v2:IntKind.i64.wrap (((x1+x2:Nat):Int)+(x3:Int))=((x1+x2+x3:Nat):Int):=(yF _ (by omega)).trans (by omega)
  have HM:Y0 (((x1:Int)+(x2:Int)+(x3:Int))%16777216=((aH (m+n) i:Nat):Int)):=by unfold Y0;omega
  have HQ:Y0 (((x1:Int)+(x2:Int)+(x3:Int))/16777216=((cT m n (i+1):Nat):Int)):=by unfold Y0;omega
  have bP:=dK (m+n) i;have hc4:=rr m n (i+1);clear e1 e2 mO cG dc hx3;rcases hc with d1|⟨d1,d2⟩|⟨d1,d2,d3⟩
  all_goals
   go_wp2_with fail;refine (H1).mono ?_;rintro e w2 ⟨rfl,rfl⟩;go_wp2_with fail;refine (H2).mono ?_;rintro e w3 ⟨rfl,rfl⟩;have cY:=HB;have Bf:=HO.o;clear H1 H2 HO;go_wp2_with (at_builtin;refine fE _ rfl (.tmp 34) (.tmp 37) 33 rfl w.heap.size 3 jV Tryz.underlying33 rfl _ i _ rfl Bf (.int .i64 (((x1:Int)+(x2:Int)+(x3:Int))%16777216)) rfl rfl (by unfold maxLen;omega) (by omega) cY.o.size ?_;intro g cap w4 bK bA xY GY;have fj:=zh (cY.o.grown bA cY.o.size (fun k hk=>(Bf.lt k hk).1));have rB:=zh (nE (by rw[HM.o]) bK);clear bK bA GY)
   clear Bf cY;go_roundw
   case rel=>exact⟨i+1,by omega,by go_num,by rw[HQ.o],rB,fj⟩
   simp[intOf];omega
 have hc:decide (i<ag m)=false∧decide (i<ag n)=false∧decide (0<cT m n i)=false:=by
  have h1:¬(i<ag m∨i<ag n∨0<cT m n i):=fun h=>aI (mO.1 h);exact⟨yC (by omega),yC (by omega),yC (by omega)⟩
 obtain⟨d1,d2,d3⟩:=hc;have T8:i=ag (m+n):=by omega
 have hF:=j8 HO.o;rw[T8] at hF;have HF:=zh hF;clear mO T8 hF;generalize cT m n i=x3 at*;go_wp2_with fail;go_ret;exact⟨_,rfl,HB.o,HF.o⟩
theorem nV {x:Nat}:ag x=0↔x=0:=by
 constructor
 ·intro h
  have:=je x;rw[h,Nat.pow_zero] at this;omega
 rintro rfl;exact gM
theorem Y3 {x j:Nat} (h:ag x=j+1):aH x j≠0:=by
 have h1:=L0 x (fun e=>by rw[D7] at e;subst e;rw[gM] at h;omega);rw[wk,JE,h,Nat.add_sub_cancel] at h1;exact h1
theorem zy (v:Value) (m:Nat) (w:World) (hv:dF w w.heap.size v m) :
  Calls Tryz.prog 279 #[v] w fun e w'=>e=.returned (.bool (decide (m%2=0)))∧Below w.heap.size w w':=by
 obtain⟨A,c,rfl,kG,eH,aL⟩:=hv.open_;unfold maxLen at eH;have he:=RV m;by_cases h0:ag m=0
 ·have hm:=nV.1 h0;have HR:Y0 (decide (m%2=0)=true):=yD (by rw[hm]);have hd:(((ag m:Nat):Int)==0)=true:=beq_iff_eq.2 (by omega);clear aL hv h0 hm he;go_enter Tryz.func279,Tryz.ntmps279;go_wp2_with fail;go_ret;exact⟨Ze HR.o.symm,yB _ _⟩
 obtain⟨b,off,rfl,hb,hx⟩:=aL 0 (by omega);have y0:=hx 0 (by omega);rw[Nat.add_zero] at y0;have hd:(((ag m:Nat):Int)==0)=false:=zb (by omega);have mA:((ag m)==0)=false:=zb h0;have k1:(0:Int)<(ag m:Int):=by omega
 have hg:=dK m 0;have HR:Y0 (decide (m%2=0)=decide (aH m 0%2=0)):=by unfold Y0;rw[he]
 clear hx aL hv he;generalize aH m 0=g at*;go_enter Tryz.func279,Tryz.ntmps279;go_wp2_with fail;go_ret;exact⟨Ze (by rw[HR.o,Bool.eq_iff_iff,beq_iff_eq,yP];omega),yB _ _⟩
theorem lp (v u:Value) (m n:Nat) (w:World) (hv:dF w w.heap.size v m) (hu:dF w w.heap.size u n) :
  Calls Tryz.prog 251 #[v,u] w fun e w'=>e=.returned (.bool (decide (n<m)))∧Below w.heap.size w w':=by
 obtain⟨A1,c1,rfl,kG,qo,dS⟩:=hv.open_;obtain⟨A2,c2,rfl,eH,mA,iS⟩:=hu.open_;unfold maxLen at qo mA;clear hv hu;by_cases hl:ag m=ag n
 ·have TL:=zh dS;have Yj:=zh iS;have hb:(((ag m:Nat):Int) != ((ag n:Nat):Int))=false:=by simp[hl]
  have v0:IntKind.i64.wrap (((ag m:Nat):Int)-1)=((ag m:Nat):Int)-1:=yF _ (by omega);have HL:=zh hl;clear dS iS hl;go_enter Tryz.func251,Tryz.ntmps251;go_wp2_with fail;go_loopw [5] (fun ix wr=>∃j:Nat,j≤ag m∧ix=.int .i64 ((j:Int)-1)∧Y0 (m/16777216^j=n/16777216^j)∧Y0 (Below w.heap.size w wr)) (fun ix _=>(intOf ix+1).toNat)
  case atStart=>exact⟨ag m,yA _,rfl,by unfold Y0;rw[Nat.div_eq_of_lt (je m),Nat.div_eq_of_lt (by rw[HL.o];exact je n)],yB _ _⟩
  obtain⟨j,hj,rfl,HE,HB⟩:=hrel
  cases j with
  | zero=>
   have heq:=HE.o;rw[Nat.pow_zero,Nat.div_one,Nat.div_one] at heq;have HR:Y0 (decide (n<m)=false):=yC (by omega);go_wp2_with fail;go_ret;exact⟨Ze HR.o.symm,HB.o⟩
  | succ j=>
   obtain⟨b1,o1,rfl,ak,cG⟩:=TL.o j (by omega);obtain⟨b2,o2,rfl,bg,dc⟩:=Yj.o j (by have:=HL.o;omega);have y1:=(HB.o.cell (p:=⟨b1,o1+j,none⟩) ak).trans (cG j (by omega));have y2:=(HB.o.cell (p:=⟨b2,o2+j,none⟩) bg).trans (dc j (by have:=HL.o;omega));have ej:(((j+1:Nat):Int)-1)=(j:Int):=by omega
   rw[ej];have i0:(0:Int)≤(j:Int):=yE _;have i1:(j:Int)<((ag m:Nat):Int):=by omega
   have i2:(j:Int)<((ag n:Nat):Int):=by have:=HL.o;omega
   have UD:aH m j<aH n j→m<n:=Sp HE.o;have mT:aH n j<aH m j→n<m:=Sp HE.o.symm;have hee:aH m j=aH n j→m/16777216^j=n/16777216^j:=qzf HE.o;have q1:=dK m j;have q2:=dK n j;have v1:IntKind.i64.wrap ((j:Int)-1)=(j:Int)-1:=yF _ (by omega);clear cG dc ej;generalize aH m j=g1 at*;generalize aH n j=g2 at*;rcases Nat.lt_trichotomy g1 g2 with h|h|h
   ·have d1:((g1:Int) != (g2:Int))=true:=bne_iff_ne.2 (by omega);have HR:Y0 (decide (n<m)=decide (g2<g1)):=by unfold Y0;rw[decide_eq_false (show ¬g2<g1 by omega)];exact yC (by have:=UD h;omega)
    clear UD mT hee h;go_wp2_with fail;go_quiet (fail);go_wp2_with fail;go_quiet (fail);go_wp2_with fail;go_ret;exact⟨Ze HR.o.symm,Zf (Zf HB.o _) _⟩
   ·have d1:((g1:Int) != (g2:Int))=false:=bne_eq_false_iff_eq.2 (by omega);have gn:=zh (hee h);clear UD mT hee h;go_wp2_with fail;go_quiet (fail);go_wp2_with fail;go_roundw
    case rel=>exact⟨j,by omega,rfl,gn,Zf HB.o _⟩
    simp[intOf]
   have d1:((g1:Int) != (g2:Int))=true:=bne_iff_ne.2 (by omega);have HR:Y0 (decide (n<m)=decide (g2<g1)):=by unfold Y0;rw[decide_eq_true (show g2<g1 by omega)];exact yD (mT h)
   clear UD mT hee h;go_wp2_with fail;go_quiet (fail);go_wp2_with fail;go_quiet (fail);go_wp2_with fail;go_ret;exact⟨Ze HR.o.symm,Zf (Zf HB.o _) _⟩
 have hb:(((ag m:Nat):Int) != ((ag n:Nat):Int))=true:=bne_iff_ne.2 (by omega);have HR:Y0 (decide (n<m)=decide (ag n<ag m)):=by
  unfold Y0;rw[Bool.eq_iff_iff,yP,yP];constructor
  ·intro h
   have:=cv (YG h);omega
  intro h;exact Vx (by omega)
 clear dS iS hl;go_enter Tryz.func251,Tryz.ntmps251;go_wp2_with fail;go_ret;exact⟨Ze HR.o.symm,yB _ _⟩
def rG (w:World) (x k:Nat) (e:Ending) (w':World):Prop:=∃v,e=.returned v∧Below w.heap.size w w'∧DgTo w' w'.heap.size v x k
theorem qC (v u:Value) (m n:Nat) (w:World) (hv:dF w w.heap.size v m) (hu:dF w w.heap.size u n) (hm:ag m≤1000000) (Le:n≤m) :
  Calls Tryz.prog 277 #[v,u] w (rG w (m-n) (ag m)):=by
 have Kc:Y0 (∀W,Below w.heap.size w W→∀i,i≤maxLen→Calls Tryz.prog 278 #[u,.int .i64 (i:Nat)] W fun e w'=>e=.returned (.int .i64 (aH n i:Nat))∧W=w'):=fun W hb i hi=>o6 u n i W (DgTo.grow hu hb) hi;obtain⟨A1,c1,rfl,-,qo,dS⟩:=hv.open_;obtain⟨A2,c2,rfl,-,-,-⟩:=hu.open_;have TL:=zh dS;unfold maxLen at qo;clear hv hu dS;go_enter Tryz.func277,Tryz.ntmps277;go_wp2_with fail;go_loopw [7,6,5] (fun ix cx ox wr=>∃i:Nat,i≤ag m∧ix=.int .i64 i∧cx=.int .i64 (fT m n i:Nat)∧Y0 (wr.ownsRow w.heap.size 3 1 ox i ((cn (m-n) i).map oT))∧Y0 (Below w.heap.size w wr)) (fun ix _ _ _=>ag m-(intOf ix).toNat)
 case atStart=>exact⟨0,yI _,rfl,by rw[DK];rfl,yJ _ _ _ _,yB _ _⟩
 obtain⟨i,hi,rfl,rfl,HO,HB⟩:=hrel;rename_i ox wr
 have k0:(0:Int)≤(i:Int):=yE _;by_cases aI:i<ag m
 ·have d1:decide (i<ag m)=true:=yD aI;have k1:(i:Int)<((ag m:Nat):Int):=by omega
  obtain⟨b1,o1,rfl,ak,cG⟩:=TL.o i aI;have y1:=(HB.o.cell (p:=⟨b1,o1+i,none⟩) ak).trans (cG i aI);have b1':=dK m i;have b2:=dK n i;have hbr:=yy m n i;have e1:=KP Le i;have e2:=zW (m:=m) (n:=n) i;have H1:=fun q=>pH (Kc.o (wr.drewN q) (Zf HB.o q) i (by unfold maxLen;omega));clear cG;generalize hg1:aH m i=x1 at*;generalize hg2:aH n i=x2 at*;generalize hg3:fT m n i=x3 at*;have v1:IntKind.i64.wrap ((x1:Int)-(x2:Int))=(x1:Int)-(x2:Int):=yF _ (by omega)
  have v2:IntKind.i64.wrap ((x1:Int)-(x2:Int)-(x3:Int))=(x1:Int)-(x2:Int)-(x3:Int):=yF _ (by omega);clear hg1 hg2 hg3;by_cases kj:(x1:Int)-(x2:Int)-(x3:Int)<0
  ·rw[if_pos kj] at e1 e2;have d2:decide ((x1:Int)-(x2:Int)-(x3:Int)<0)=true:=yD kj;have v3:IntKind.i64.wrap ((x1:Int)-(x2:Int)-(x3:Int)+16777216)=((aH (m-n) i:Nat):Int):=(yF _ (by omega)).trans (by omega);have HBo:=zh e2;clear e1 e2 kj;obtain⟨gd,oQ⟩:∃gd:Int,gd=((aH (m-n) i:Nat):Int):=⟨_,rfl⟩;have HGd:=zh oQ;rw[←oQ] at v3;clear oQ;go_wp2_with fail;go_quiet ((go_at_call 278;exact H1 _));have Bf:=fR HO.o nq
   have cY:=zh (Zf HB.o nq);clear H1 HO HB;go_wp2_with (at_builtin;refine fE _ rfl (.tmp 29) (.tmp 31) 33 rfl w.heap.size 3 jV Tryz.underlying33 rfl _ i _ rfl Bf (.int .i64 gd) rfl rfl (by unfold maxLen;omega) (by omega) cY.o.size ?_;intro g cap w4 bK bA xY GY;have fj:=zh (cY.o.grown bA cY.o.size (fun k hk=>(Bf.lt k hk).1));have rB:=zh (nE (by rw[HGd.o]) bK);clear bK bA GY);clear Bf cY;go_roundw
   case rel=>exact⟨i+1,by omega,by go_num,by rw[HBo.o];rfl,rB,fj⟩
   simp[intOf];omega
  rw[if_neg kj] at e1 e2;have d2:decide ((x1:Int)-(x2:Int)-(x3:Int)<0)=false:=yC kj;have HBo:=zh e2;have HGd:Y0 ((x1:Int)-(x2:Int)-(x3:Int)=((aH (m-n) i:Nat):Int)):=by unfold Y0;omega
  clear e1 e2 kj;go_wp2_with fail;go_quiet ((go_at_call 278;exact H1 _));have Bf:=fR HO.o nq;have cY:=zh (Zf HB.o nq);clear H1 HO HB;go_wp2_with (at_builtin;refine fE _ rfl (.tmp 29) (.tmp 31) 33 rfl w.heap.size 3 jV Tryz.underlying33 rfl _ i _ rfl Bf (.int .i64 ((x1:Int)-(x2:Int)-(x3:Int))) rfl rfl (by unfold maxLen;omega) (by omega) cY.o.size ?_;intro g cap w4 bK bA xY GY;have fj:=zh (cY.o.grown bA cY.o.size (fun k hk=>(Bf.lt k hk).1));have rB:=zh (nE (by rw[HGd.o]) bK);clear bK bA GY)
  clear Bf cY;go_roundw
  case rel=>exact⟨i+1,by omega,by go_num,by rw[HBo.o];rfl,rB,fj⟩
  simp[intOf];omega
 have d1:decide (i<ag m)=false:=yC aI;have T8:i=ag m:=by omega
 have hF:=j8 HO.o;rw[T8] at hF;have HF:=zh hF;clear T8 hF;generalize fT m n i=x3 at*;go_wp2_with fail;go_ret;exact⟨_,rfl,HB.o,HF.o⟩
theorem mj (w:World) (X:Obj) (t:TypeId) (a b:Value):((w.alloc X).alloc (.cells #[a,b] t)).cell? ⟨w.heap.size+1,0,none⟩=some a∧((w.alloc X).alloc (.cells #[a,b] t)).cell? ⟨w.heap.size+1,1,none⟩=some b:=by
 have h:=Blk.new (w.alloc X) t #[a,b];rw[yZ] at h;obtain⟨h0,h1⟩:=h.c2;exact⟨h0,h1⟩
theorem nt (s:Bool) (v:Value) (x k:Nat) (w:World) (hv:DgTo w w.heap.size v x k) (hk:ag x≤k) :
  Calls Tryz.prog 276 #[.agg #[.bool s,v]] w fun e w'=>∃v',e=.returned (.agg #[.bool (s&&decide (x≠0)),v'])∧Below w.heap.size w w'∧dF w' w'.heap.size v' x:=by
 have HV:=zh hv;obtain⟨A,c,rfl,kG,eH,aL⟩:=hv.open_;have HC:=zh aL;unfold maxLen at eH;have HD:=zh ((Blk.new w 237 #[.bool s,.slice A k c]).alloc (.cells #[.bool false,.slice none 0 0] 237));have ye:=Blk.new (w.alloc (.cells #[.bool s,.slice A k c] 237)) 237 #[.bool false,.slice none 0 0];rw[yZ] at ye;have cP:=zh ye;have HB:=zh (((yB _ w).alloc (yA _) (.cells #[.bool s,.slice A k c] 237)).alloc (by simp) (.cells #[.bool false,.slice none 0 0] 237))
 clear hv aL ye;go_enter Tryz.func276,Tryz.ntmps276;go_wp2_with fail;go_loopw [3] (fun nx wr=>∃j:Nat,ag x≤j∧j≤k∧nx=.int .i64 j∧wr=(w.alloc (.cells #[.bool s,.slice A k c] 237)).alloc (.cells #[.bool false,.slice none 0 0] 237)) (fun nx _=>(intOf nx).toNat)
 case atStart=>exact⟨k,hk,yA _,rfl,rfl⟩
 obtain⟨j,hxj,Lg,rfl,rfl⟩:=hrel;have y0:=HD.o.cell 0;have y1:=HD.o.cell 1;have f0:=HD.o.frozen 0;have f1:=HD.o.frozen 1;have g0:=cP.o.frozen 0;have g1:=cP.o.frozen 1;simp only[aB,aD,aA] at y0 y1;by_cases aI:ag x<j
 ·obtain⟨j,rfl⟩:∃i,j=i+1:=⟨j-1,by omega⟩;obtain⟨b,off,rfl,hb,hx⟩:=HC.o j (by omega);have z:=(HB.o.cell (p:=⟨b,off+j,none⟩) hb).trans (hx j (by omega));rw[Am (show ag x≤j by omega)] at z;have hd:decide (0<j+1)=true:=yD (by omega);have v1:IntKind.i64.wrap (((j+1:Nat):Int)-1)=(j:Int):=(yF _ (by omega)).trans (by omega);have i0:(0:Int)≤(j:Int):=yE _;have i1:(j:Int)<(k:Int):=by omega
  clear hx;generalize hJ:((j+1:Nat):Int)=J at*;have hd:decide (0<J)=true:=yD (by omega);have HJ:=zh hJ;clear hJ;go_wp2_with fail;go_roundw
  case rel=>exact⟨j,by omega,by omega,rfl,trivial⟩
  have:=HJ.o;simp[intOf];omega
 obtain rfl:j=ag x:=by omega
 have HT:=zh (HV.o.take Lg);by_cases h0:ag x=0
 ·have hx0:=nV.1 h0;have HS:Y0 ((s&&decide (x≠0))=false):=by unfold Y0;rw[hx0];simp
  have HZ:=zh h0;have hd:decide (0<((ag x:Nat):Int))=false:=yC (by omega);have hq:(((ag x:Nat):Int)==0)=true:=beq_iff_eq.2 (by omega);have i1:(0:Int)≤((ag x:Nat):Int):=yE _;have i2:((ag x:Nat):Int)≤(c:Int):=by omega
  clear h0 hx0 aI;generalize hJ:((ag x:Nat):Int)=J at*;have HJ:Y0 (J.toNat=ag x):=by unfold Y0;omega
  clear hJ;go_wp2_with fail;rw[HJ.o];obtain⟨p0,p1⟩:=mj w (.cells #[.bool false,.slice A (ag x) c] 237) 237 (.bool false) (.slice A (ag x) c);refine YF (v:=.agg #[.bool false,.slice A (ag x) c]) (by simp[results,Tryz.results276,go_sem,p0,p1]) rfl ?_;have bg:=((yB _ w).alloc (yA _) (.cells #[.bool false,.slice A (ag x) c] 237)).alloc (by simp) (.cells #[.bool false,.slice A (ag x) c] 237);exact⟨_,by rw[HS.o],bg,DgTo.grow HT.o bg⟩
 obtain⟨i,hi⟩:∃i,ag x=i+1:=⟨ag x-1,by omega⟩;have fS:=Y3 hi;obtain⟨b,off,rfl,hb,hx⟩:=HC.o i (by omega);have z:=(HB.o.cell (p:=⟨b,off+i,none⟩) hb).trans (hx i (by omega));have hg:((aH x i:Nat):Int)≠0:=by omega
 have X4:(((aH x i:Nat):Int)==0)=false:=zb hg;have HS:Y0 ((s&&decide (x≠0))=s):=by
  unfold Y0;rw[yD (show x≠0 from fun e=>h0 (nV.2 e)),Bool.and_true]
 have hd:decide (0<((ag x:Nat):Int))=true:=yD (by omega);have hq:(((ag x:Nat):Int)==0)=false:=zb (by omega);have v1:IntKind.i64.wrap (((ag x:Nat):Int)-1)=(i:Int):=(yF _ (by omega)).trans (by omega);have i0:(0:Int)≤(i:Int):=yE _;have i3:(i:Int)<(k:Int):=by omega
 have i1:(0:Int)≤((ag x:Nat):Int):=yE _;have i2:((ag x:Nat):Int)≤(c:Int):=by omega
 clear hx fS aI;generalize ((aH x i:Nat):Int)=g at*;generalize hJ:((ag x:Nat):Int)=J at*;have HJ:Y0 (J.toNat=ag x):=by unfold Y0;omega
 clear hJ hi;go_wp2_with fail;rw[HJ.o];obtain⟨p0,p1⟩:=mj w (.cells #[.bool s,.slice (some ⟨b,off,none⟩) (ag x) c] 237) 237 (.bool s) (.slice (some ⟨b,off,none⟩) (ag x) c);refine YF (v:=.agg #[.bool s,.slice (some ⟨b,off,none⟩) (ag x) c]) (by simp[results,Tryz.results276,go_sem,p0,p1]) rfl ?_;have bg:=((yB _ w).alloc (yA _) (.cells #[.bool s,.slice (some ⟨b,off,none⟩) (ag x) c] 237)).alloc (by simp) (.cells #[.bool s,.slice (some ⟨b,off,none⟩) (ag x) c] 237)
 exact⟨_,by rw[HS.o],bg,DgTo.grow HT.o bg⟩
theorem qzp (s:Bool) (v:Value) (n:Int) (w:World) (hv:BigAt w w.heap.size s v n) :
  Calls Tryz.prog 256 #[.agg #[.bool s,v]] w fun e w'=>e=.returned (.agg #[.bool (decide (-n<0)),v])∧Below w.heap.size w w':=by
 obtain⟨hs,hv2⟩:=hv;obtain⟨A,c,rfl,kG,eH,-⟩:=hv2.open_;unfold maxLen at eH;have hz:=nV (x:=n.natAbs);have Lb:decide (0<ag n.natAbs)=decide (n≠0):=by
  rw[Bool.eq_iff_iff,yP,yP];omega
 have HR:Y0 ((!s&&decide (0<ag n.natAbs))=decide (-n<0)):=by
  unfold Y0;rw[Lb,hs,Bool.eq_iff_iff,Bool.and_eq_true,Bool.not_eq_true',YD,yP,yP];omega
 clear hv2 hz Lb hs kG;have aL:=fun b:Bool=>mj w (.cells #[.bool b,.slice A (ag n.natAbs) c] 237) 237 (.bool b) (.slice A (ag n.natAbs) c);have HB:=zh fun b:Bool=>((yB _ w).alloc (yA _) (.cells #[.bool b,.slice A (ag n.natAbs) c] 237)).alloc (by simp) (.cells #[.bool b,.slice A (ag n.natAbs) c] 237);have HCe:=zh aL;clear aL;obtain⟨r,hr⟩:∃r:Bool,r=decide (-n<0):=⟨_,rfl⟩;rw[←hr] at HR⊢;clear hr;cases s
 case true=>
  have mV:Y0 (false=r):=HR.o;clear HR;go_enter Tryz.func256,Tryz.ntmps256;go_wp2_with fail;obtain⟨p0,p1⟩:=HCe.o false;refine YF (v:=.agg #[.bool false,.slice A (ag n.natAbs) c]) (by simp[results,Tryz.results256,go_sem,p0,p1]) rfl ?_;exact⟨by rw[mV.o],HB.o _⟩
 have mV:Y0 (decide (0<ag n.natAbs)=r):=HR.o;clear HR;go_enter Tryz.func256,Tryz.ntmps256;go_wp2_with fail;obtain⟨p0,p1⟩:=HCe.o (decide (0<ag n.natAbs));refine YF (v:=.agg #[.bool (decide (0<ag n.natAbs)),.slice A (ag n.natAbs) c]) (by simp[results,Tryz.results256,go_sem,p0,p1]) rfl ?_;exact⟨by rw[mV.o],HB.o _⟩
def rR (q:Rat):Int:=if q<0 then -1 else if q=0 then 0 else 1
theorem Y8 (x:Value) (q:Rat) (K:Nat) (w:World) (hv:ExqAt w w.heap.size x q K) :
  Calls Tryz.prog 273 #[x] w fun e w'=>e=.returned (.int .i64 (rR q))∧Below w.heap.size w w':=by
 obtain⟨s1,v1,s2,v2,N,D,rfl,⟨mz,h1⟩,⟨lQ,h2⟩,hD,-,-,rfl⟩:=hv;obtain⟨A1,c1,rfl,kG,qo,-⟩:=h1.open_;obtain⟨A2,c2,rfl,eH,mA,-⟩:=h2.open_;unfold maxLen at qo mA;obtain⟨hn,hz⟩:=Dv (N:=N) hD;have hl:=nV (x:=N.natAbs);have HS:Y0 (rR (Rat.divInt N D)=if N<0 then -1 else if ag N.natAbs=0 then 0 else 1):=by
  unfold Y0 rR;by_cases c1:N<0
  ·rw[if_pos (hn.2 c1),if_pos c1]
  rw[if_neg (fun h=>c1 (hn.1 h)),if_neg c1];by_cases c2:N=0
  ·rw[if_pos (hz.2 c2),if_pos (hl.2 (by omega))]
  rw[if_neg (fun h=>c2 (hz.1 h)),if_neg (fun h=>c2 (by have:=hl.1 h;omega))]
 have HB:=zh ((yB _ w).alloc (yA _) (.cells (zD s1 A1 (ag N.natAbs) c1 s2 A2 (ag D.natAbs) c2) 239));clear hl hn hz h1 h2 lQ;by_cases JN:N<0
 ·have e:s1=true:=by rw[mz];exact yD JN
  subst e;have HV:Y0 (rR (Rat.divInt N D)=-1):=by unfold Y0;rw[HS.o,if_pos JN]
  clear HS mz JN;go_enter Tryz.func273,Tryz.ntmps273;go_wp2_with fail;go_ret;exact⟨by rw[HV.o];rfl,HB.o⟩
 have e:s1=false:=by rw[mz];exact yC JN
 subst e;by_cases TG:ag N.natAbs=0
 ·have HV:Y0 (rR (Rat.divInt N D)=0):=by unfold Y0;rw[HS.o,if_neg JN,if_pos TG]
  have hd:(ag N.natAbs==0)=true:=beq_iff_eq.2 TG;clear HS mz JN ;go_enter Tryz.func273,Tryz.ntmps273;go_wp2_with fail;go_ret;exact⟨by rw[HV.o];rfl,by simpa[TG] using HB.o⟩
 have HV:Y0 (rR (Rat.divInt N D)=1):=by unfold Y0;rw[HS.o,if_neg JN,if_neg TG]
 have hd:(ag N.natAbs==0)=false:=zb TG;have mA:(((ag N.natAbs:Nat):Int)==0)=false:=zb (by omega);clear HS mz JN;go_enter Tryz.func273,Tryz.ntmps273;go_wp2_with fail;go_ret;exact⟨by rw[HV.o];rfl,HB.o⟩
theorem Y7 (n:Int) (w:World) (h1 : -1152921504606846976≤n) (h2:n≤1152921504606846976) :
    Calls Tryz.prog 95 #[.int .i64 n] w fun e w'=>e=.returned (.int .u64 (n.natAbs:Nat))∧w=w':=by
  by_cases h0:n<0
  · have e1:IntKind.u64.wrap n=n+18446744073709551616:=by
      show n%18446744073709551616=_;omega
    have e2:Y0 (IntKind.u64.wrap (0-(n+18446744073709551616))=((n.natAbs:Nat):Int)):=by
      show (0-(n+18446744073709551616))%18446744073709551616=_;omega
    clear h1 h2;go_enter Tryz.func95,Tryz.ntmps95;go_wp2;go_ret;refine⟨?_,rfl⟩;rw[←e2.o];simp
  have e1:IntKind.u64.wrap n=n:=by
    show n%18446744073709551616=_;omega
  have e2:Y0 (n=((n.natAbs:Nat):Int)):=by unfold Y0; omega
  clear h1 h2;go_enter Tryz.func95,Tryz.ntmps95;go_wp2;go_ret;exact⟨by
   conv=>rhs; rw[←e2.o]
   rfl,rfl⟩
theorem xR {w:World} {B e s n:Nat} {v:Value} {L:List Value} (h:w.ownsRow B e s v n L) {row:Option Nat} (hr:∀r,row=some r→∀cs f,w.heap[r]? ≠ some (.cells cs e f)):v.ownBlock=none∨v.ownBlock≠row:=by
 rcases h.2 with⟨rfl,_⟩|⟨g,cap,cur,rfl,_,hg,_⟩
 ·exact .inl rfl
 refine .inr fun e'=>?_;exact hr g (by rw[←e'];rfl) _ _ hg
structure IntS (W0 W:World) (s:Bool) (ov:Value) (x i:Nat):Prop where
 bel:Below W0.heap.size W0 W
 res:Blk W W0.heap.size 237 #[.bool false,.slice none 0 0]
 box:Blk W (W0.heap.size+1) 237 #[.bool s,ov]
 own:W.ownsRow W0.heap.size 3 1 ov i ((cn x i).map oT)
theorem IntS.push {W0 W:World} {s:Bool} {ov:Value} {x i:Nat} (h:IntS W0 W s ov x i) {v':Value} {w1:World} (bO:w1.ownsRow W0.heap.size 3 1 v' (i+1) ((cn x (i+1)).map oT)) (hg:W.grownBy w1 ov.ownBlock) :
  Blk w1 (W0.heap.size+1) 237 #[.bool s,ov]∧IntS W0 (w1.setCell ⟨W0.heap.size+1,1,none⟩ v') s v' x (i+1):=by
 have k:∀ {g cs},Blk W g 237 cs→Blk w1 g 237 cs:=fun hb=>hb.kept hg (hb.ne_own h.own (by decide));have e0:=k h.res;have e1:=k h.box;have ak:Below W0.heap.size W0 w1:=h.bel.grown hg h.bel.size (fun k e=>(h.own.lt k e).1);refine⟨e1,ak.setCell (p:=⟨W0.heap.size+1,1,none⟩) (YH _) _,e0.far (by simp) _,e1.set_ 1 v',?_⟩;exact bO.kept (e1.setGrown 1 v') (xR bO fun r e c f hh=>by
  obtain rfl:W0.heap.size+1=r:=by simpa using e
  unfold Blk at e1;rw[e1] at hh;injection hh with hh;injection hh with _ hh _;exact absurd hh (by decide))
theorem IntS.start (w:World) (s:Bool) (x:Nat):IntS w ((w.alloc (.cells #[.bool false,.slice none 0 0] 237)).alloc (.cells #[.bool s,.slice none 0 0] 237)) s (.slice none 0 0) x 0:=by
 have h2:=Blk.new (w.alloc (.cells #[.bool false,.slice none 0 0] 237)) 237 #[.bool s,.slice none 0 0];rw[yZ] at h2;exact⟨((yB _ w).alloc (yA _) _).alloc (by simp) _,(Blk.new w _ _).alloc _,h2,yJ _ _ _ _⟩
def rH (w:World) (n:Int) (e:Ending) (w':World):Prop:=∃s v,e=.returned (.agg #[.bool s,v])∧Below w.heap.size w w'∧BigAt w' w'.heap.size s v n
theorem xK (n:Int) (w:World) (h1 : -1152921504606846976≤n) (h2:n≤1152921504606846976):Calls Tryz.prog 250 #[.int .i64 n] w (rH w n):=by
 have hs:=fun W=>Y7 n W h1 h2;have hx:n.natAbs≤1152921504606846976:=by omega
 have wU:Y0 (IntS w ((w.alloc (.cells #[.bool false,.slice none 0 0] 237)).alloc (.cells #[.bool (decide (n<0)),.slice none 0 0] 237)) (decide (n<0)) (.slice none 0 0) n.natAbs 0):=IntS.start w _ _;have HD:Y0 (ag n.natAbs≤3):=jf (by show n.natAbs<16777216^3;omega);obtain⟨b,hb⟩:∃b:Bool,b=decide (n<0):=⟨_,rfl⟩;have HBn:=zh hb;obtain⟨x,hxx⟩:∃x:Nat,x=n.natAbs:=⟨_,rfl⟩;have HX:=zh hxx;rw[←hb,←hxx] at wU
 rw[←hxx] at HD hs hx;clear h1 h2 hxx;go_enter Tryz.func250,Tryz.ntmps250;go_wp2_with fail;refine (hs _).mono ?_;rintro e w2 ⟨rfl,rfl⟩;rw[←hb];generalize (w.alloc (.cells #[.bool false,.slice none 0 0] 237)).alloc (.cells #[.bool b,.slice none 0 0] 237)=W1 at*;clear hs hb;go_wp2_with fail;go_loopw [4] (fun mx wr=>∃i:Nat,i≤ag x∧mx=.int .u64 ((x/16777216^i:Nat):Int)∧∃ov,Y0 (IntS w wr b ov x i)) (fun mx _=>(intOf mx).toNat)
 case atStart=>exact⟨0,yI _,by rw[Nat.pow_zero,Nat.div_one],_,wU.o⟩
 obtain⟨i,hi,rfl,ov,HS⟩:=hrel;obtain⟨A,c,rfl,-⟩:=(j8 HS.o.own).open_;have y0:=HS.o.box.cell 0;have y1:=HS.o.box.cell 1;have r0:=HS.o.res.cell 0;have r1:=HS.o.res.cell 1;have f0:=HS.o.res.frozen 0;have f1:=HS.o.res.frozen 1;simp only[aB,aD,aA] at y0 y1 r0 r1;by_cases aI:i<ag x
 ·have kg:0<x/16777216^i:=by
   rcases Nat.lt_or_ge x (16777216^i) with h|h
   ·have:=dx.1 h;omega
   exact Nat.div_pos h (ff i)
  have hzl:x/16777216^i≤1152921504606846976:=yH (YK _ _) hx;have HG:Y0 (x/16777216^i%16777216=aH x i):=rfl;have HQ:Y0 (x/16777216^i/16777216=x/16777216^(i+1)):=by unfold Y0;rw[Nat.pow_succ,Nat.div_div_eq_div_mul]
  generalize hz:x/16777216^i=z at*;have hd:decide (0<z)=true:=yD kg;have v1:IntKind.i64.wrap ((z:Int)%16777216)=(z:Int)%16777216:=yF _ (by omega);have v2:IntKind.u64.wrap ((z:Int)%16777216)=(z:Int)%16777216:=by show (z:Int)%16777216%18446744073709551616=_;omega
  have v3:IntKind.u64.wrap ((z:Int)/16777216)=(z:Int)/16777216:=by show (z:Int)/16777216%18446744073709551616=_;omega
  have hi3:=HD.o;have HP:Y0 (∀v' w1,w1.ownsRow w.heap.size 3 1 v' (i+1) ((cn x i).map oT++[.int .i64 ((z:Int)%16777216)])→wr.grownBy w1 (Value.slice A i c).ownBlock→Blk w1 (w.heap.size+1) 237 #[.bool b,.slice A i c]∧IntS w (w1.setCell ⟨w.heap.size+1,1,none⟩ v') b v' x (i+1)):=fun v' w1 ho hg=>HS.o.push (nE (by rw[←HG.o];rfl) ho) hg;have hO:=HS.o.own;have fO:=HS.o.bel.size;have HZ:=zh kg;clear kg hz
  go_wp2_with (at_builtin;refine fE _ rfl (.tmp 13) (.tmp 17) 33 rfl w.heap.size 3 jV Tryz.underlying33 rfl _ i _ rfl hO (.int .i64 ((z:Int)%16777216)) rfl rfl (by unfold maxLen;omega) (by omega) fO ?_;intro g cap w4 bK bA xY GY;have LY:=zh (HP.o _ w4 bK bA);have fb:=LY.o.1.frozen 1;have cb:=LY.o.1.cell 1;simp only[aB,aD,aA] at cb;clear bK bA GY);clear hO HP;go_roundw
  case rel=>exact⟨i+1,by omega,by rw[←HQ.o];rfl,_,LY.o.2⟩
  have:=HZ.o;simp[intOf];omega
 obtain rfl:i=ag x:=by omega
 have hz:x/16777216^ag x=0:=Nat.div_eq_of_lt (je x);rw[hz];have HE:Y0 (∀a c0,Blk (((wr.setCell ⟨w.heap.size,0,none⟩ (.bool b)).setCell ⟨w.heap.size,1,none⟩ (.slice a (ag x) c0))) w.heap.size 237 #[.bool b,.slice a (ag x) c0]∧Below w.heap.size w ((wr.setCell ⟨w.heap.size,0,none⟩ (.bool b)).setCell ⟨w.heap.size,1,none⟩ (.slice a (ag x) c0))∧(wr.setCell ⟨w.heap.size,0,none⟩ (.bool b)).setCell ⟨w.heap.size,1,none⟩ (.slice a (ag x) c0)=(wr.setCell ⟨w.heap.size,0,none⟩ (.bool b)).setCell ⟨w.heap.size,1,none⟩ (.slice a (ag x) c0)):=fun a c0=>
  ⟨(HS.o.res.set_ 0 (.bool b)).set_ 1 (.slice a (ag x) c0),(HS.o.bel.setCell (p:=⟨w.heap.size,0,none⟩) (yA _) _).setCell (p:=⟨w.heap.size,1,none⟩) (yA _) _,rfl⟩
 have hob:(Value.slice A (ag x) c).ownBlock≠some w.heap.size:=fun e=>(HS.o.res.ne_own HS.o.own (by decide)) e.symm;have HO2:Y0 (((wr.setCell ⟨w.heap.size,0,none⟩ (.bool b)).setCell ⟨w.heap.size,1,none⟩ (.slice A (ag x) c)).ownsRow w.heap.size 3 1 (.slice A (ag x) c) (ag x) ((cn x (ag x)).map oT)):=by
  have h1:=HS.o.own.kept (HS.o.res.setGrown 0 (.bool b)) (.inr hob);exact h1.kept ((HS.o.res.set_ 0 (.bool b)).setGrown 1 (.slice A (ag x) c)) (.inr hob)
 clear hob;go_wp2_with fail;obtain⟨ak,bg,-⟩:=HE.o A c;obtain⟨p0,p1⟩:=ak.c2;refine YF (v:=.agg #[.bool b,.slice A (ag x) c]) (by simp[results,Tryz.results250,go_sem,p0,p1]) rfl ?_;refine⟨b,_,rfl,bg,HBn.o,?_⟩;unfold dF;rw[←HX.o];exact j8 HO2.o
def gDk (x k:Nat):GPost:=⟨fun v=>∃A c,v=.slice A k c,fun v w=>DgTo w w.heap.size v x k,⟨.slice none k 0,none,0,rfl⟩,fun _ _ _ hb h=>DgTo.grow h hb,false⟩
def gDg (x:Nat):GPost:=gDk x (ag x)
def Ez (n:Int):GPost:=⟨fun v=>∃s A c,v=.agg #[.bool s,.slice A (ag n.natAbs) c],fun u w=>∃s v,u=.agg #[.bool s,v]∧BigAt w w.heap.size s v n,⟨_,false,none,0,rfl⟩,fun _ _ _ hb h=>by
 obtain⟨s,v,e,h1⟩:=h;exact⟨s,v,e,h1.grow hb⟩,false⟩
def jw (q:Rat) (K:Nat):GPost:=⟨fun v=>∃s1 A1 l1 c1 s2 A2 l2 c2,v=.agg #[.bool s1,.slice A1 l1 c1,.bool s2,.slice A2 l2 c2],fun v w=>ExqAt w w.heap.size v q K,⟨_,false,none,0,0,false,none,0,0,rfl⟩,fun _ _ _ hb h=>h.grow hb,false⟩
theorem wn {f:FuncId} {args:Array Value} {w:World} {x k:Nat} (h:Calls Tryz.prog f args w (rG w x k)):Calls Tryz.prog f args w fun e w'=>∃v,e=.returned v∧Below w.heap.size w w'∧(gDk x k).σ v∧(gDk x k).φ v w':=h.mono fun e w' h=>by
 obtain⟨v,rfl,hb,h1⟩:=h;obtain⟨A,c,rfl,-⟩:=h1.open_;exact⟨_,rfl,hb,⟨A,c,rfl⟩,h1⟩
theorem sE {f:FuncId} {args:Array Value} {w:World} {x:Nat} (h:Calls Tryz.prog f args w (sO w x)):Calls Tryz.prog f args w fun e w'=>∃v,e=.returned v∧Below w.heap.size w w'∧(gDg x).σ v∧(gDg x).φ v w':=wn h
theorem ec {f:FuncId} {args:Array Value} {w:World} {n:Int} (h:Calls Tryz.prog f args w (rH w n)):Calls Tryz.prog f args w fun e w'=>∃v,e=.returned v∧Below w.heap.size w w'∧(Ez n).σ v∧(Ez n).φ v w':=h.mono fun e w' h=>by
 obtain⟨s,v,rfl,hb,h1⟩:=h;obtain⟨A,c,rfl,-⟩:=DgTo.open_ h1.2;exact⟨_,rfl,hb,⟨s,A,c,rfl⟩,s,_,rfl,h1⟩
theorem DgTo.set {w:World} {B R i:Nat} {v u:Value} {x k:Nat} (h:DgTo w B v x k) (hx:w.cell? ⟨R,i,none⟩=some u) (hu:∀z,u ≠ .int .i64 z) (y:Value):DgTo (w.setCell ⟨R,i,none⟩ y) B v x k:=by
 refine⟨?_,fun hk g hg=>by
  obtain⟨cs,r,e⟩:=h.2 hk g hg;by_cases hR:g=R
  ·subst hR;exact⟨cs.setIfInBounds i y,r,by simp[World.setCell,Array.getElem?_modify,e]⟩
  exact⟨cs,r,(Below.heap_setCell w ⟨R,i,none⟩ y g hR).trans e⟩⟩
 obtain⟨A,c,h1,h2,h3,h4⟩:=h.1;refine⟨A,c,h1,h2,h3,fun hn=>?_⟩;obtain⟨b,off,e,aI,hc⟩:=h4 hn;refine⟨b,off,e,aI,fun j u' Mm=>?_⟩;have h5:=hc j u' Mm;rw[World.cell?_setCell_other]
 ·exact h5
 intro e2;rw[e2,h5] at hx;injection hx with hx;rw[YC] at Mm
 cases hg:(cn x k)[j]? with
 | none=>rw[hg] at Mm;cases Mm
 | some d=>
  rw[hg] at Mm;injection Mm with Mm;exact hu d (by rw[←hx,←Mm];rfl)
theorem uv {w w8:World} {R:Nat} {b0:Bool} {A0:Option Addr} {l0 c0:Nat} (hR:w.heap.size≤R) (hb:Below w.heap.size w w8) (hD:Blk w8 R 237 #[.bool b0,.slice A0 l0 c0]) {s:Bool} {v:Value} {n:Int} (hv:BigAt w8 w8.heap.size s v n) :
  ((w8.setCell ⟨R,0,none⟩ (.bool s)).setCell ⟨R,1,none⟩ v).cell? ⟨R,0,none⟩=some (.bool s)∧((w8.setCell ⟨R,0,none⟩ (.bool s)).setCell ⟨R,1,none⟩ v).cell? ⟨R,1,none⟩=some v ∧
  Below w.heap.size w ((w8.setCell ⟨R,0,none⟩ (.bool s)).setCell ⟨R,1,none⟩ v)∧BigAt ((w8.setCell ⟨R,0,none⟩ (.bool s)).setCell ⟨R,1,none⟩ v) ((w8.setCell ⟨R,0,none⟩ (.bool s)).setCell ⟨R,1,none⟩ v).heap.size s v n:=by
 have h1:=hD.set_ 0 (.bool s);have h2:=h1.set_ 1 v;have z0:=hD.cell 0;have z1:=h1.cell 1;have p0:=h2.cell 0;have p1:=h2.cell 1;simp only[aB,aA] at z0;refine⟨p0,p1,(hb.setCell (p:=⟨R,0,none⟩) hR _).setCell (p:=⟨R,1,none⟩) hR _,hv.1,?_⟩;have h3:=DgTo.set hv.2 z0 (fun z=>by simp) (.bool s);have h4:=DgTo.set h3 (u:=.slice A0 l0 c0) z1 (fun z=>by simp) v;exact DgTo.mono h4 (by simp[World.setCell])
