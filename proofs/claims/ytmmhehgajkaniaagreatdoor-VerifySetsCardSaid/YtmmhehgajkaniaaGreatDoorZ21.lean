/- Lemmas. -/
import Derived.Test.YtmmhehgajkaniaaGreatDoorZ20
namespace Go.Proofs.YtmmhehgajkaniaaGreatDoor
set_option maxRecDepth 100000
set_option maxHeartbeats 40000000
open Go.RowKit Go.Shelf
theorem lS:(Tryz.prog.info? 3).map (fun i=>(i.zero,i.size,i.bytes))=some (some (.int .i64 0),1,8):=by kernel_rfl
theorem xu {w w':World} {B e s n:Nat} {v:Value} {xs:List Value} (h:w.ownsRow B e s v n xs) (hb:Below w.heap.size w w'):w'.ownsRow B e s v n xs :=
 h.kept (gG (row:=none) hb) (by
  by_cases e:v.ownBlock=none
  ·exact .inl e
  exact .inr e)
theorem jF {w:World} {B:Nat} {v:Value} {x k:Nat} (h:w.ownsRow B 3 1 v k ((bY x k).map qb)):DgTo w w.heap.size v x k:=⟨RowAt.of_own h,fun _ g hg=>by
 rcases h.2 with⟨rfl,_⟩|⟨g',cap,cur,rfl,_,hh,_⟩
 ·simp[Value.ownBlock] at hg
 obtain rfl:g'=g:=by simpa[Value.ownBlock] using hg
 exact⟨cur,(0,0),hh⟩⟩
theorem rL {w:World} {B:Nat} {v:Value} {x k:Nat} {u:Value} (hu:u=.int .i64 (ax x k:Nat)) (h:w.ownsRow B 3 1 v (k+1) ((bY x k).map qb++[u])):w.ownsRow B 3 1 v (k+1) ((bY x (k+1)).map qb):=by
 rw[Gn,yS];rw[hu] at h;exact h
theorem vD (v:Value) (n i:Nat) (w:World) (hv:dA w w.heap.size v n) (_hi:i≤maxLen) :
  Calls Tryz.prog 209 #[v,.int .i64 i] w fun e w'=>e=.returned (.int .i64 (ax n i:Nat))∧w=w':=by
 obtain⟨A,c,rfl,fU,cM,aj⟩:=hv.open_;unfold maxLen at cM;have k0:(0:Int)≤(i:Int):=yE _;by_cases h:i<ag n
 ·obtain⟨b,off,rfl,hb,hx⟩:=aj i h;have h0:=hx i h;have hd:decide ((i:Int)<(ag n:Int))=true:=yD (by omega);have k1:(i:Int)<(ag n:Int):=by omega
  clear hx aj hv;go_enter Tryz.func209,Tryz.ntmps209;go_wp2_with fail;go_ret;exact⟨rfl,rfl⟩
 have hd:decide ((i:Int)<(ag n:Int))=false:=yC (by omega);have hz:=CM (show ag n≤i by omega);clear aj hv;go_enter Tryz.func209,Tryz.ntmps209;go_wp2_with fail;go_ret;exact⟨by rw[hz];rfl,rfl⟩
def tS (w:World) (n:Nat) (e:Ending) (w':World):Prop:=∃v,e=.returned v∧Below w.heap.size w w'∧dA w' w'.heap.size v n
def qqb (w:World) (n:Nat) (e:Ending) (w':World):Prop:=∃v,e=.returned v∧Below w.heap.size w w'∧w'.ownsRow w.heap.size 3 1 v (ag n) ((bY n (ag n)).map qb)
theorem Lr (v u:Value) (m n:Nat) (w:World) (hv:dA w w.heap.size v m) (hu:dA w w.heap.size u n) (hm:ag m≤1000000) (hn:ag n≤1000000) :
  Calls Tryz.prog 206 #[v,u] w (qqb w (m+n)):=by
 have HDm:Y0 (∀W,Below w.heap.size w W→∀i,i≤maxLen→Calls Tryz.prog 209 #[v,.int .i64 (i:Nat)] W fun e w'=>e=.returned (.int .i64 (ax m i:Nat))∧W=w'):=fun W hb i hi=>vD v m i W (DgTo.grow hv hb) hi;have PO:Y0 (∀W,Below w.heap.size w W→∀i,i≤maxLen→Calls Tryz.prog 209 #[u,.int .i64 (i:Nat)] W fun e w'=>e=.returned (.int .i64 (ax n i:Nat))∧W=w'):=fun W hb i hi=>vD u n i W (DgTo.grow hu hb) hi;have D7:ag (m+n)≤1000001:=s9 hm hn
 obtain⟨A1,c1,rfl,-,-,-⟩:=hv.open_;obtain⟨A2,c2,rfl,-,-,-⟩:=hu.open_;clear hv hu;go_enter Tryz.func206,Tryz.ntmps206;go_wp2_with fail;go_loopw [7,6,5] (fun ix cx ox wr=>∃i:Nat,i≤ag (m+n)∧ix=.int .i64 i∧cx=.int .i64 (eo m n i:Nat)∧Y0 (wr.ownsRow w.heap.size 3 1 ox i ((bY (m+n) i).map qb))∧Y0 (Below w.heap.size w wr)) (fun ix _ _ _=>ag (m+n)-(intOf ix).toNat)
 case atStart=>exact⟨0,yI _,rfl,by rw[KI];rfl,yJ _ _ _ _,yB _ _⟩
 obtain⟨i,hi,rfl,rfl,HO,HB⟩:=hrel;rename_i ox wr
 have k0:(0:Int)≤(i:Int):=yE _;have xS:=XZ m n i;have Pz:=Gx m n i;by_cases ao:i<ag (m+n)
 ·have hc:(decide (i<ag m)=true)∨(decide (i<ag m)=false∧decide (i<ag n)=true)∨(decide (i<ag m)=false∧decide (i<ag n)=false∧decide (0<eo m n i)=true):=by
   by_cases d1:i<ag m
   ·exact .inl (yD d1)
   by_cases d2:i<ag n
   ·exact .inr (.inl ⟨yC d1,yD d2⟩)
   exact .inr (.inr ⟨yC d1,yC d2,yD (by have:=xS.2 ao;omega)⟩)
  have b1:=eP m i;have b2:=eP n i;have e1:=T8 m n i;have e2:=Ka m n i;have H1:=HDm.o wr HB.o i (by unfold maxLen;omega);have H2:=PO.o wr HB.o i (by unfold maxLen;omega);generalize cB:ax m i=x1 at*;generalize dc:ax n i=x2 at*;generalize hx3:eo m n i=x3 at*;have v1:IntKind.i64.wrap ((x1:Int)+(x2:Int))=((x1+x2:Nat):Int):=(yF _ (by omega)).trans (by omega);have v2:IntKind.i64.wrap (((x1+x2:Nat):Int)+(x3:Int))=((x1+x2+x3:Nat):Int):=(yF _ (by omega)).trans (by omega)
  have HM:Y0 (((x1:Int)+(x2:Int)+(x3:Int))%16777216=((ax (m+n) i:Nat):Int)):=by unfold Y0;omega
  have HQ:Y0 (((x1:Int)+(x2:Int)+(x3:Int))/16777216=((eo m n (i+1):Nat):Int)):=by unfold Y0;omega
  have bU:=eP (m+n) i;have hc4:=Gx m n (i+1);clear e1 e2 xS cB dc hx3;rcases hc with d1|⟨d1,d2⟩|⟨d1,d2,d3⟩
  all_goals
   go_wp2_with fail;refine (H1).mono ?_;rintro e w2 ⟨rfl,rfl⟩;go_wp2_with fail;refine (H2).mono ?_;rintro e w3 ⟨rfl,rfl⟩;have cZ:=HB;have CI:=HO.o;clear H1 H2 HO;go_wp2_with (at_builtin;refine dQ _ rfl (.tmp 34) (.tmp 37) 22 rfl w.heap.size 3 lS Tryz.underlying22 rfl _ i _ rfl CI (.int .i64 (((x1:Int)+(x2:Int)+(x3:Int))%16777216)) rfl rfl (by unfold maxLen;omega) (by omega) cZ.o.size ?_;intro g cap w4 bC bz xW vi;have fI:=zh (cZ.o.grown bz cZ.o.size (fun k hk=>(CI.lt k hk).1));have tP:=zh (rL (by rw[HM.o]) bC);clear bC bz vi)
   clear CI cZ;go_roundw
   case rel=>exact⟨i+1,by omega,by go_num,by rw[HQ.o],tP,fI⟩
   simp[intOf];omega
 have hc:decide (i<ag m)=false∧decide (i<ag n)=false∧decide (0<eo m n i)=false:=by
  have h1:¬(i<ag m∨i<ag n∨0<eo m n i):=fun h=>ao (xS.1 h);exact⟨yC (by omega),yC (by omega),yC (by omega)⟩
 obtain⟨d1,d2,d3⟩:=hc;have xQ:i=ag (m+n):=by omega
 have hF:=HO.o;rw[xQ] at hF;have HF:=zh hF;clear xS xQ hF;generalize eo m n i=x3 at*;go_wp2_with fail;go_ret;exact⟨_,rfl,HB.o,HF.o⟩
theorem Ch (v u:Value) (m n:Nat) (w:World) (hv:dA w w.heap.size v m) (hu:dA w w.heap.size u n) (hm:ag m≤1000000) (hn:ag n≤1000000) :
  Calls Tryz.prog 206 #[v,u] w (tS w (m+n)) :=
 (Lr v u m n w hv hu hm hn).mono fun _ _ ⟨v,he,hb,ho⟩=>⟨v,he,hb,jF ho⟩
theorem oP {x:Nat}:ag x=0↔x=0:=by
 constructor
 ·intro h
  have:=jc x;rw[h,Nat.pow_zero] at this;omega
 rintro rfl;exact gH
theorem qqe {x j:Nat} (h:ag x=j+1):ax x j≠0:=by
 have h1:=O8 x (fun e=>by rw[Gm] at e;subst e;rw[gH] at h;omega);rw[yt,M4,h,Nat.add_sub_cancel] at h1;exact h1
theorem Ck (v:Value) (m:Nat) (w:World) (hv:dA w w.heap.size v m) :
  Calls Tryz.prog 210 #[v] w fun e w'=>e=.returned (.bool (decide (m%2=0)))∧Below w.heap.size w w':=by
 obtain⟨A,c,rfl,fU,cM,aj⟩:=hv.open_;unfold maxLen at cM;have he:=Vt m;by_cases h0:ag m=0
 ·have hm:=oP.1 h0;have HR:Y0 (decide (m%2=0)=true):=yD (by rw[hm]);have hd:(((ag m:Nat):Int)==0)=true:=beq_iff_eq.2 (by omega);clear aj hv h0 hm he;go_enter Tryz.func210,Tryz.ntmps210;go_wp2_with fail;go_ret;exact⟨Ze HR.o.symm,yB _ _⟩
 obtain⟨b,off,rfl,hb,hx⟩:=aj 0 (by omega);have y0:=hx 0 (by omega);rw[Nat.add_zero] at y0;have hd:(((ag m:Nat):Int)==0)=false:=zb (by omega);have nH:((ag m)==0)=false:=zb h0;have k1:(0:Int)<(ag m:Int):=by omega
 have hg:=eP m 0;have HR:Y0 (decide (m%2=0)=decide (ax m 0%2=0)):=by unfold Y0;rw[he]
 clear hx aj hv he;generalize ax m 0=g at*;go_enter Tryz.func210,Tryz.ntmps210;go_wp2_with fail;go_ret;exact⟨Ze (by rw[HR.o,Bool.eq_iff_iff,beq_iff_eq,yO];omega),yB _ _⟩
theorem lM (v u:Value) (m n:Nat) (w:World) (hv:dA w w.heap.size v m) (hu:dA w w.heap.size u n) :
  Calls Tryz.prog 179 #[v,u] w fun e w'=>e=.returned (.bool (decide (n<m)))∧Below w.heap.size w w':=by
 obtain⟨A1,c1,rfl,fU,pR,fE⟩:=hv.open_;obtain⟨A2,c2,rfl,cM,nH,oJ⟩:=hu.open_;unfold maxLen at pR nH;clear hv hu;by_cases hl:ag m=ag n
 ·have PQ:=zh fE;have PP:=zh oJ;have hb:(((ag m:Nat):Int) != ((ag n:Nat):Int))=false:=by simp[hl]
  have v0:IntKind.i64.wrap (((ag m:Nat):Int)-1)=((ag m:Nat):Int)-1:=yF _ (by omega);have HL:=zh hl;clear fE oJ hl;go_enter Tryz.func179,Tryz.ntmps179;go_wp2_with fail;go_loopw [5] (fun ix wr=>∃j:Nat,j≤ag m∧ix=.int .i64 ((j:Int)-1)∧Y0 (m/16777216^j=n/16777216^j)∧Y0 (Below w.heap.size w wr)) (fun ix _=>(intOf ix+1).toNat)
  case atStart=>exact⟨ag m,yA _,rfl,by unfold Y0;rw[Nat.div_eq_of_lt (jc m),Nat.div_eq_of_lt (by rw[HL.o];exact jc n)],yB _ _⟩
  obtain⟨j,hj,rfl,HE,HB⟩:=hrel
  cases j with
  | zero=>
   have heq:=HE.o;rw[Nat.pow_zero,Nat.div_one,Nat.div_one] at heq;have HR:Y0 (decide (n<m)=false):=yC (by omega);go_wp2_with fail;go_ret;exact⟨Ze HR.o.symm,HB.o⟩
  | succ j=>
   obtain⟨b1,o1,rfl,ak,cB⟩:=PQ.o j (by omega);obtain⟨b2,o2,rfl,aU,dc⟩:=PP.o j (by have:=HL.o;omega);have y1:=(HB.o.cell (p:=⟨b1,o1+j,none⟩) ak).trans (cB j (by omega));have y2:=(HB.o.cell (p:=⟨b2,o2+j,none⟩) aU).trans (dc j (by have:=HL.o;omega));have ej:(((j+1:Nat):Int)-1)=(j:Int):=by omega
   rw[ej];have i0:(0:Int)≤(j:Int):=yE _;have i1:(j:Int)<((ag m:Nat):Int):=by omega
   have i2:(j:Int)<((ag n:Nat):Int):=by have:=HL.o;omega
   have Yz:ax m j<ax n j→m<n:=VG HE.o;have mV:ax n j<ax m j→n<m:=VG HE.o.symm;have hee:ax m j=ax n j→m/16777216^j=n/16777216^j:=qjw HE.o;have q1:=eP m j;have q2:=eP n j;have v1:IntKind.i64.wrap ((j:Int)-1)=(j:Int)-1:=yF _ (by omega);clear cB dc ej;generalize ax m j=g1 at*;generalize ax n j=g2 at*;rcases Nat.lt_trichotomy g1 g2 with h|h|h
   ·have d1:((g1:Int) != (g2:Int))=true:=bne_iff_ne.2 (by omega);have HR:Y0 (decide (n<m)=decide (g2<g1)):=by unfold Y0;rw[decide_eq_false (show ¬g2<g1 by omega)];exact yC (by have:=Yz h;omega)
    clear Yz mV hee h;go_wp2_with fail;go_quiet (fail);go_wp2_with fail;go_quiet (fail);go_wp2_with fail;go_ret;exact⟨Ze HR.o.symm,Zf (Zf HB.o _) _⟩
   ·have d1:((g1:Int) != (g2:Int))=false:=bne_eq_false_iff_eq.2 (by omega);have iq:=zh (hee h);clear Yz mV hee h;go_wp2_with fail;go_quiet (fail);go_wp2_with fail;go_roundw
    case rel=>exact⟨j,by omega,rfl,iq,Zf HB.o _⟩
    simp[intOf]
   have d1:((g1:Int) != (g2:Int))=true:=bne_iff_ne.2 (by omega);have HR:Y0 (decide (n<m)=decide (g2<g1)):=by unfold Y0;rw[decide_eq_true (show g2<g1 by omega)];exact yD (mV h)
   clear Yz mV hee h;go_wp2_with fail;go_quiet (fail);go_wp2_with fail;go_quiet (fail);go_wp2_with fail;go_ret;exact⟨Ze HR.o.symm,Zf (Zf HB.o _) _⟩
 have hb:(((ag m:Nat):Int) != ((ag n:Nat):Int))=true:=bne_iff_ne.2 (by omega);have HR:Y0 (decide (n<m)=decide (ag n<ag m)):=by
  unfold Y0;rw[Bool.eq_iff_iff,yO,yO];constructor
  ·intro h
   have:=cj (YG h);omega
  intro h;exact ZH (by omega)
 clear fE oJ hl;go_enter Tryz.func179,Tryz.ntmps179;go_wp2_with fail;go_ret;exact⟨Ze HR.o.symm,yB _ _⟩
def sM (w:World) (x k:Nat) (e:Ending) (w':World):Prop:=∃v,e=.returned v∧Below w.heap.size w w'∧DgTo w' w'.heap.size v x k
theorem rE (v u:Value) (m n:Nat) (w:World) (hv:dA w w.heap.size v m) (hu:dA w w.heap.size u n) (hm:ag m≤1000000) (D7:n≤m) :
  Calls Tryz.prog 208 #[v,u] w (sM w (m-n) (ag m)):=by
 have PO:Y0 (∀W,Below w.heap.size w W→∀i,i≤maxLen→Calls Tryz.prog 209 #[u,.int .i64 (i:Nat)] W fun e w'=>e=.returned (.int .i64 (ax n i:Nat))∧W=w'):=fun W hb i hi=>vD u n i W (DgTo.grow hu hb) hi;obtain⟨A1,c1,rfl,-,pR,fE⟩:=hv.open_;obtain⟨A2,c2,rfl,-,-,-⟩:=hu.open_;have PQ:=zh fE;unfold maxLen at pR;clear hv hu fE;go_enter Tryz.func208,Tryz.ntmps208;go_wp2_with fail;go_loopw [7,6,5] (fun ix cx ox wr=>∃i:Nat,i≤ag m∧ix=.int .i64 i∧cx=.int .i64 (fO m n i:Nat)∧Y0 (wr.ownsRow w.heap.size 3 1 ox i ((bY (m-n) i).map qb))∧Y0 (Below w.heap.size w wr)) (fun ix _ _ _=>ag m-(intOf ix).toNat)
 case atStart=>exact⟨0,yI _,rfl,by rw[G1];rfl,yJ _ _ _ _,yB _ _⟩
 obtain⟨i,hi,rfl,rfl,HO,HB⟩:=hrel;rename_i ox wr
 have k0:(0:Int)≤(i:Int):=yE _;by_cases ao:i<ag m
 ·have d1:decide (i<ag m)=true:=yD ao;have k1:(i:Int)<((ag m:Nat):Int):=by omega
  obtain⟨b1,o1,rfl,ak,cB⟩:=PQ.o i ao;have y1:=(HB.o.cell (p:=⟨b1,o1+i,none⟩) ak).trans (cB i ao);have b1':=eP m i;have b2:=eP n i;have hbr:=BM m n i;have e1:=NM D7 i;have e2:=C2 (m:=m) (n:=n) i;have H1:=fun q=>qp (PO.o (wr.drewN q) (Zf HB.o q) i (by unfold maxLen;omega));clear cB;generalize hg1:ax m i=x1 at*;generalize hg2:ax n i=x2 at*;generalize hg3:fO m n i=x3 at*;have v1:IntKind.i64.wrap ((x1:Int)-(x2:Int))=(x1:Int)-(x2:Int):=yF _ (by omega)
  have v2:IntKind.i64.wrap ((x1:Int)-(x2:Int)-(x3:Int))=(x1:Int)-(x2:Int)-(x3:Int):=yF _ (by omega);clear hg1 hg2 hg3;by_cases Og:(x1:Int)-(x2:Int)-(x3:Int)<0
  ·rw[if_pos Og] at e1 e2;have d2:decide ((x1:Int)-(x2:Int)-(x3:Int)<0)=true:=yD Og;have v3:IntKind.i64.wrap ((x1:Int)-(x2:Int)-(x3:Int)+16777216)=((ax (m-n) i:Nat):Int):=(yF _ (by omega)).trans (by omega);have HBo:=zh e2;clear e1 e2 Og;obtain⟨gd,sP⟩:∃gd:Int,gd=((ax (m-n) i:Nat):Int):=⟨_,rfl⟩;have Xs:=zh sP;rw[←sP] at v3;clear sP;go_wp2_with fail;go_quiet ((go_at_call 209;exact H1 _));have CI:=fL HO.o nq
   have cZ:=zh (Zf HB.o nq);clear H1 HO HB;go_wp2_with (at_builtin;refine dQ _ rfl (.tmp 29) (.tmp 31) 22 rfl w.heap.size 3 lS Tryz.underlying22 rfl _ i _ rfl CI (.int .i64 gd) rfl rfl (by unfold maxLen;omega) (by omega) cZ.o.size ?_;intro g cap w4 bC bz xW vi;have fI:=zh (cZ.o.grown bz cZ.o.size (fun k hk=>(CI.lt k hk).1));have tP:=zh (rL (by rw[Xs.o]) bC);clear bC bz vi);clear CI cZ;go_roundw
   case rel=>exact⟨i+1,by omega,by go_num,by rw[HBo.o];rfl,tP,fI⟩
   simp[intOf];omega
  rw[if_neg Og] at e1 e2;have d2:decide ((x1:Int)-(x2:Int)-(x3:Int)<0)=false:=yC Og;have HBo:=zh e2;have Xs:Y0 ((x1:Int)-(x2:Int)-(x3:Int)=((ax (m-n) i:Nat):Int)):=by unfold Y0;omega
  clear e1 e2 Og;go_wp2_with fail;go_quiet ((go_at_call 209;exact H1 _));have CI:=fL HO.o nq;have cZ:=zh (Zf HB.o nq);clear H1 HO HB;go_wp2_with (at_builtin;refine dQ _ rfl (.tmp 29) (.tmp 31) 22 rfl w.heap.size 3 lS Tryz.underlying22 rfl _ i _ rfl CI (.int .i64 ((x1:Int)-(x2:Int)-(x3:Int))) rfl rfl (by unfold maxLen;omega) (by omega) cZ.o.size ?_;intro g cap w4 bC bz xW vi;have fI:=zh (cZ.o.grown bz cZ.o.size (fun k hk=>(CI.lt k hk).1));have tP:=zh (rL (by rw[Xs.o]) bC);clear bC bz vi)
  clear CI cZ;go_roundw
  case rel=>exact⟨i+1,by omega,by go_num,by rw[HBo.o];rfl,tP,fI⟩
  simp[intOf];omega
 have d1:decide (i<ag m)=false:=yC ao;have xQ:i=ag m:=by omega
 have hF:=jF HO.o;rw[xQ] at hF;have HF:=zh hF;clear xQ hF;generalize fO m n i=x3 at*;go_wp2_with fail;go_ret;exact⟨_,rfl,HB.o,HF.o⟩
theorem mG (w:World) (X:Obj) (t:TypeId) (a b:Value):((w.alloc X).alloc (.cells #[a,b] t)).cell? ⟨w.heap.size+1,0,none⟩=some a∧((w.alloc X).alloc (.cells #[a,b] t)).cell? ⟨w.heap.size+1,1,none⟩=some b:=by
 have h:=Blk.new (w.alloc X) t #[a,b];rw[yZ] at h;obtain⟨h0,h1⟩:=h.c2;exact⟨h0,h1⟩
theorem nV (s:Bool) (v:Value) (x k:Nat) (w:World) (hv:DgTo w w.heap.size v x k) (hk:ag x≤k) :
  Calls Tryz.prog 207 #[.agg #[.bool s,v]] w fun e w'=>∃v',e=.returned (.agg #[.bool (s&&decide (x≠0)),v'])∧Below w.heap.size w w'∧dA w' w'.heap.size v' x:=by
 have HV:=zh hv;obtain⟨A,c,rfl,fU,cM,aj⟩:=hv.open_;have HC:=zh aj;unfold maxLen at cM;have HD:=zh ((Blk.new w 191 #[.bool s,.slice A k c]).alloc (.cells #[.bool false,.slice none 0 0] 191));have FQ:=Blk.new (w.alloc (.cells #[.bool s,.slice A k c] 191)) 191 #[.bool false,.slice none 0 0];rw[yZ] at FQ;have cY:=zh FQ;have HB:=zh (((yB _ w).alloc (yA _) (.cells #[.bool s,.slice A k c] 191)).alloc (by simp) (.cells #[.bool false,.slice none 0 0] 191))
 clear hv aj FQ;go_enter Tryz.func207,Tryz.ntmps207;go_wp2_with fail;go_loopw [3] (fun nx wr=>∃j:Nat,ag x≤j∧j≤k∧nx=.int .i64 j∧wr=(w.alloc (.cells #[.bool s,.slice A k c] 191)).alloc (.cells #[.bool false,.slice none 0 0] 191)) (fun nx _=>(intOf nx).toNat)
 case atStart=>exact⟨k,hk,yA _,rfl,rfl⟩
 obtain⟨j,hxj,Hh,rfl,rfl⟩:=hrel;have y0:=HD.o.cell 0;have y1:=HD.o.cell 1;have f0:=HD.o.frozen 0;have f1:=HD.o.frozen 1;have g0:=cY.o.frozen 0;have g1:=cY.o.frozen 1;simp only[aG,aH,aD] at y0 y1;by_cases ao:ag x<j
 ·obtain⟨j,rfl⟩:∃i,j=i+1:=⟨j-1,by omega⟩;obtain⟨b,off,rfl,hb,hx⟩:=HC.o j (by omega);have z:=(HB.o.cell (p:=⟨b,off+j,none⟩) hb).trans (hx j (by omega));rw[CM (show ag x≤j by omega)] at z;have hd:decide (0<j+1)=true:=yD (by omega);have v1:IntKind.i64.wrap (((j+1:Nat):Int)-1)=(j:Int):=(yF _ (by omega)).trans (by omega);have i0:(0:Int)≤(j:Int):=yE _;have i1:(j:Int)<(k:Int):=by omega
  clear hx;generalize hJ:((j+1:Nat):Int)=J at*;have hd:decide (0<J)=true:=yD (by omega);have HJ:=zh hJ;clear hJ;go_wp2_with fail;go_roundw
  case rel=>exact⟨j,by omega,by omega,rfl,trivial⟩
  have:=HJ.o;simp[intOf];omega
 obtain rfl:j=ag x:=by omega
 have HT:=zh (HV.o.take Hh);by_cases h0:ag x=0
 ·have Uq:=oP.1 h0;have HS:Y0 ((s&&decide (x≠0))=false):=by unfold Y0;rw[Uq];simp
  have HZ:=zh h0;have hd:decide (0<((ag x:Nat):Int))=false:=yC (by omega);have hq:(((ag x:Nat):Int)==0)=true:=beq_iff_eq.2 (by omega);have i1:(0:Int)≤((ag x:Nat):Int):=yE _;have i2:((ag x:Nat):Int)≤(c:Int):=by omega
  clear h0 Uq ao;generalize hJ:((ag x:Nat):Int)=J at*;have HJ:Y0 (J.toNat=ag x):=by unfold Y0;omega
  clear hJ;go_wp2_with fail;rw[HJ.o];obtain⟨p0,p1⟩:=mG w (.cells #[.bool false,.slice A (ag x) c] 191) 191 (.bool false) (.slice A (ag x) c);refine YF (v:=.agg #[.bool false,.slice A (ag x) c]) (by simp[results,Tryz.results207,go_sem,p0,p1]) rfl ?_;have aU:=((yB _ w).alloc (yA _) (.cells #[.bool false,.slice A (ag x) c] 191)).alloc (by simp) (.cells #[.bool false,.slice A (ag x) c] 191);exact⟨_,by rw[HS.o],aU,DgTo.grow HT.o aU⟩
 obtain⟨i,hi⟩:∃i,ag x=i+1:=⟨ag x-1,by omega⟩;have dL:=qqe hi;obtain⟨b,off,rfl,hb,hx⟩:=HC.o i (by omega);have z:=(HB.o.cell (p:=⟨b,off+i,none⟩) hb).trans (hx i (by omega));have hg:((ax x i:Nat):Int)≠0:=by omega
 have hge:(((ax x i:Nat):Int)==0)=false:=zb hg;have HS:Y0 ((s&&decide (x≠0))=s):=by
  unfold Y0;rw[yD (show x≠0 from fun e=>h0 (oP.2 e)),Bool.and_true]
 have hd:decide (0<((ag x:Nat):Int))=true:=yD (by omega);have hq:(((ag x:Nat):Int)==0)=false:=zb (by omega);have v1:IntKind.i64.wrap (((ag x:Nat):Int)-1)=(i:Int):=(yF _ (by omega)).trans (by omega);have i0:(0:Int)≤(i:Int):=yE _;have i3:(i:Int)<(k:Int):=by omega
 have i1:(0:Int)≤((ag x:Nat):Int):=yE _;have i2:((ag x:Nat):Int)≤(c:Int):=by omega
 clear hx dL ao;generalize ((ax x i:Nat):Int)=g at*;generalize hJ:((ag x:Nat):Int)=J at*;have HJ:Y0 (J.toNat=ag x):=by unfold Y0;omega
 clear hJ hi;go_wp2_with fail;rw[HJ.o];obtain⟨p0,p1⟩:=mG w (.cells #[.bool s,.slice (some ⟨b,off,none⟩) (ag x) c] 191) 191 (.bool s) (.slice (some ⟨b,off,none⟩) (ag x) c);refine YF (v:=.agg #[.bool s,.slice (some ⟨b,off,none⟩) (ag x) c]) (by simp[results,Tryz.results207,go_sem,p0,p1]) rfl ?_;have aU:=((yB _ w).alloc (yA _) (.cells #[.bool s,.slice (some ⟨b,off,none⟩) (ag x) c] 191)).alloc (by simp) (.cells #[.bool s,.slice (some ⟨b,off,none⟩) (ag x) c] 191)
 exact⟨_,by rw[HS.o],aU,DgTo.grow HT.o aU⟩
theorem Vp {N D M E:Int} (hD:0<D) (hE:0<E):Rat.divInt N D+Rat.divInt M E=Rat.divInt (N*E+M*D) (D*E):=Rat.divInt_add_divInt _ _ (by omega) (by omega)
theorem Ov {N D M E:Int} (_hD:0<D) (_hE:0<E):Rat.divInt N D*Rat.divInt M E=Rat.divInt (N*M) (D*E):=Rat.divInt_mul_divInt _ _
theorem Vq {N D M E:Int} (hD:0<D) (hE:0<E) (hM:0<M):Rat.divInt N D/Rat.divInt M E=Rat.divInt (N*E) (D*M):=by
 rw[Rat.divInt_eq_div,Rat.divInt_eq_div,Rat.divInt_eq_div,Rat.intCast_mul,Rat.intCast_mul];have h1:(D:Rat)≠0:=fun h=>by have:=Rat.intCast_eq_zero_iff.mp h;omega
 have h2:(E:Rat)≠0:=fun h=>by have:=Rat.intCast_eq_zero_iff.mp h;omega
 have h3:(M:Rat)≠0:=fun h=>by have:=Rat.intCast_eq_zero_iff.mp h;omega
 grind
theorem Ge {N D:Int} (hD:0<D):(Rat.divInt N D<0↔N<0)∧(Rat.divInt N D=0↔N=0):=by
 have h4:∀M:Int,0≤Rat.divInt M D↔0≤M:=fun M=>Rat.divInt_nonneg_iff_of_pos_right hD;have h2:Rat.divInt N D=0↔N=0:=by
  constructor
  ·intro h;have a1:=(h4 N).1 (by rw[h];exact Rat.le_refl);have a2:=(h4 (-N)).1 (by rw[←Rat.neg_divInt,h,Rat.neg_zero];exact Rat.le_refl);omega
  rintro rfl;exact Rat.zero_divInt D
 refine⟨?_,h2⟩;have h3:0≤Rat.divInt N D↔0≤N:=Rat.divInt_nonneg_iff_of_pos_right hD;rw[←Rat.not_le,h3];omega
open Go.RowKit Go.Shelf
theorem qj4 (s:Bool) (v:Value) (n:Int) (w:World) (hv:BigAt w w.heap.size s v n) :
  Calls Tryz.prog 184 #[.agg #[.bool s,v]] w fun e w'=>e=.returned (.agg #[.bool (decide (-n<0)),v])∧Below w.heap.size w w':=by
 obtain⟨hs,hv2⟩:=hv;obtain⟨A,c,rfl,fU,cM,-⟩:=hv2.open_;unfold maxLen at cM;have hz:=oP (x:=n.natAbs);have pQ:decide (0<ag n.natAbs)=decide (n≠0):=by
  rw[Bool.eq_iff_iff,yO,yO];omega
 have HR:Y0 ((!s&&decide (0<ag n.natAbs))=decide (-n<0)):=by
  unfold Y0;rw[pQ,hs,Bool.eq_iff_iff,Bool.and_eq_true,Bool.not_eq_true',YD,yO,yO];omega
 clear hv2 hz pQ hs fU;have aj:=fun b:Bool=>mG w (.cells #[.bool b,.slice A (ag n.natAbs) c] 191) 191 (.bool b) (.slice A (ag n.natAbs) c);have HB:=zh fun b:Bool=>((yB _ w).alloc (yA _) (.cells #[.bool b,.slice A (ag n.natAbs) c] 191)).alloc (by simp) (.cells #[.bool b,.slice A (ag n.natAbs) c] 191);have HCe:=zh aj;clear aj;obtain⟨r,hr⟩:∃r:Bool,r=decide (-n<0):=⟨_,rfl⟩;rw[←hr] at HR⊢;clear hr;cases s
 case true=>
  have MM:Y0 (false=r):=HR.o;clear HR;go_enter Tryz.func184,Tryz.ntmps184;go_wp2_with fail;obtain⟨p0,p1⟩:=HCe.o false;refine YF (v:=.agg #[.bool false,.slice A (ag n.natAbs) c]) (by simp[results,Tryz.results184,go_sem,p0,p1]) rfl ?_;exact⟨by rw[MM.o],HB.o _⟩
 have MM:Y0 (decide (0<ag n.natAbs)=r):=HR.o;clear HR;go_enter Tryz.func184,Tryz.ntmps184;go_wp2_with fail;obtain⟨p0,p1⟩:=HCe.o (decide (0<ag n.natAbs));refine YF (v:=.agg #[.bool (decide (0<ag n.natAbs)),.slice A (ag n.natAbs) c]) (by simp[results,Tryz.results184,go_sem,p0,p1]) rfl ?_;exact⟨by rw[MM.o],HB.o _⟩
def sZ (q:Rat):Int:=if q<0 then -1 else if q=0 then 0 else 1
theorem qqk (x:Value) (q:Rat) (K:Nat) (w:World) (hv:ExqAt w w.heap.size x q K) :
  Calls Tryz.prog 204 #[x] w fun e w'=>e=.returned (.int .i64 (sZ q))∧Below w.heap.size w w':=by
 obtain⟨s1,v1,s2,v2,N,D,rfl,⟨kZ,h1⟩,⟨jT,h2⟩,hD,-,-,rfl⟩:=hv;obtain⟨A1,c1,rfl,fU,pR,-⟩:=h1.open_;obtain⟨A2,c2,rfl,cM,nH,-⟩:=h2.open_;unfold maxLen at pR nH;obtain⟨hn,hz⟩:=Ge (N:=N) hD;have hl:=oP (x:=N.natAbs);have HS:Y0 (sZ (Rat.divInt N D)=if N<0 then -1 else if ag N.natAbs=0 then 0 else 1):=by
  unfold Y0 sZ;by_cases c1:N<0
  ·rw[if_pos (hn.2 c1),if_pos c1]
  rw[if_neg (fun h=>c1 (hn.1 h)),if_neg c1];by_cases c2:N=0
  ·rw[if_pos (hz.2 c2),if_pos (hl.2 (by omega))]
  rw[if_neg (fun h=>c2 (hz.1 h)),if_neg (fun h=>c2 (by have:=hl.1 h;omega))]
 have HB:=zh ((yB _ w).alloc (yA _) (.cells (zD s1 A1 (ag N.natAbs) c1 s2 A2 (ag D.natAbs) c2) 193));clear hl hn hz h1 h2 jT;by_cases MB:N<0
 ·have e:s1=true:=by rw[kZ];exact yD MB
  subst e;have HV:Y0 (sZ (Rat.divInt N D)=-1):=by unfold Y0;rw[HS.o,if_pos MB]
  clear HS kZ MB;go_enter Tryz.func204,Tryz.ntmps204;go_wp2_with fail;go_ret;exact⟨by rw[HV.o];rfl,HB.o⟩
 have e:s1=false:=by rw[kZ];exact yC MB
 subst e;by_cases Xl:ag N.natAbs=0
 ·have HV:Y0 (sZ (Rat.divInt N D)=0):=by unfold Y0;rw[HS.o,if_neg MB,if_pos Xl]
  have hd:(ag N.natAbs==0)=true:=beq_iff_eq.2 Xl;clear HS kZ MB ;go_enter Tryz.func204,Tryz.ntmps204;go_wp2_with fail;go_ret;exact⟨by rw[HV.o];rfl,by simpa[Xl] using HB.o⟩
 have HV:Y0 (sZ (Rat.divInt N D)=1):=by unfold Y0;rw[HS.o,if_neg MB,if_neg Xl]
 have hd:(ag N.natAbs==0)=false:=zb Xl;have nH:(((ag N.natAbs:Nat):Int)==0)=false:=zb (by omega);clear HS kZ MB;go_enter Tryz.func204,Tryz.ntmps204;go_wp2_with fail;go_ret;exact⟨by rw[HV.o];rfl,HB.o⟩
theorem qqj (n:Int) (w:World) (h1 : -1152921504606846976≤n) (h2:n≤1152921504606846976) :
    Calls Tryz.prog 25 #[.int .i64 n] w fun e w'=>e=.returned (.int .u64 (n.natAbs:Nat))∧w=w':=by
  by_cases h0:n<0
  · have e1:IntKind.u64.wrap n=n+18446744073709551616:=by
      show n%18446744073709551616=_;omega
    have e2:Y0 (IntKind.u64.wrap (0-(n+18446744073709551616))=((n.natAbs:Nat):Int)):=by
      show (0-(n+18446744073709551616))%18446744073709551616=_;omega
    clear h1 h2;go_enter Tryz.func25,Tryz.ntmps25;go_wp2;go_ret;refine⟨?_,rfl⟩;rw[←e2.o];simp
  have e1:IntKind.u64.wrap n=n:=by
    show n%18446744073709551616=_;omega
  have e2:Y0 (n=((n.natAbs:Nat):Int)):=by unfold Y0; omega
  clear h1 h2;go_enter Tryz.func25,Tryz.ntmps25;go_wp2;go_ret;exact⟨by
   conv=>rhs; rw[←e2.o]
   rfl,rfl⟩
theorem Be {w:World} {B e s n:Nat} {v:Value} {L:List Value} (h:w.ownsRow B e s v n L) {row:Option Nat} (hr:∀r,row=some r→∀cs f,w.heap[r]? ≠ some (.cells cs e f)):v.ownBlock=none∨v.ownBlock≠row:=by
 rcases h.2 with⟨rfl,_⟩|⟨g,cap,cur,rfl,_,hg,_⟩
 ·exact .inl rfl
 refine .inr fun e'=>?_;exact hr g (by rw[←e'];rfl) _ _ hg
structure IntS (W0 W:World) (s:Bool) (ov:Value) (x i:Nat):Prop where
 bel:Below W0.heap.size W0 W
 res:Blk W W0.heap.size 191 #[.bool false,.slice none 0 0]
 box:Blk W (W0.heap.size+1) 191 #[.bool s,ov]
 own:W.ownsRow W0.heap.size 3 1 ov i ((bY x i).map qb)
theorem IntS.push {W0 W:World} {s:Bool} {ov:Value} {x i:Nat} (h:IntS W0 W s ov x i) {v':Value} {w1:World} (aK:w1.ownsRow W0.heap.size 3 1 v' (i+1) ((bY x (i+1)).map qb)) (hg:W.grownBy w1 ov.ownBlock) :
  Blk w1 (W0.heap.size+1) 191 #[.bool s,ov]∧IntS W0 (w1.setCell ⟨W0.heap.size+1,1,none⟩ v') s v' x (i+1):=by
 have k:∀ {g cs},Blk W g 191 cs→Blk w1 g 191 cs:=fun hb=>hb.kept hg (hb.ne_own h.own (by decide));have e0:=k h.res;have e1:=k h.box;have ak:Below W0.heap.size W0 w1:=h.bel.grown hg h.bel.size (fun k e=>(h.own.lt k e).1);refine⟨e1,ak.setCell (p:=⟨W0.heap.size+1,1,none⟩) (YH _) _,e0.far (by simp) _,e1.set_ 1 v',?_⟩;exact aK.kept (e1.setGrown 1 v') (Be aK fun r e c f hh=>by
  obtain rfl:W0.heap.size+1=r:=by simpa using e
  unfold Blk at e1;rw[e1] at hh;injection hh with hh;injection hh with _ hh _;exact absurd hh (by decide))
theorem IntS.start (w:World) (s:Bool) (x:Nat):IntS w ((w.alloc (.cells #[.bool false,.slice none 0 0] 191)).alloc (.cells #[.bool s,.slice none 0 0] 191)) s (.slice none 0 0) x 0:=by
 have h2:=Blk.new (w.alloc (.cells #[.bool false,.slice none 0 0] 191)) 191 #[.bool s,.slice none 0 0];rw[yZ] at h2;exact⟨((yB _ w).alloc (yA _) _).alloc (by simp) _,(Blk.new w _ _).alloc _,h2,yJ _ _ _ _⟩
def sN (w:World) (n:Int) (e:Ending) (w':World):Prop:=∃s v,e=.returned (.agg #[.bool s,v])∧Below w.heap.size w w'∧BigAt w' w'.heap.size s v n
theorem AQ (n:Int) (w:World) (h1 : -1152921504606846976≤n) (h2:n≤1152921504606846976):Calls Tryz.prog 178 #[.int .i64 n] w (sN w n):=by
 have hs:=fun W=>qqj n W h1 h2;have hx:n.natAbs≤1152921504606846976:=by omega
 have vn:Y0 (IntS w ((w.alloc (.cells #[.bool false,.slice none 0 0] 191)).alloc (.cells #[.bool (decide (n<0)),.slice none 0 0] 191)) (decide (n<0)) (.slice none 0 0) n.natAbs 0):=IntS.start w _ _;have HD:Y0 (ag n.natAbs≤3):=jd (by show n.natAbs<16777216^3;omega);obtain⟨b,hb⟩:∃b:Bool,b=decide (n<0):=⟨_,rfl⟩;have HBn:=zh hb;obtain⟨x,hxx⟩:∃x:Nat,x=n.natAbs:=⟨_,rfl⟩;have HX:=zh hxx;rw[←hb,←hxx] at vn
 rw[←hxx] at HD hs hx;clear h1 h2 hxx;go_enter Tryz.func178,Tryz.ntmps178;go_wp2_with fail;refine (hs _).mono ?_;rintro e w2 ⟨rfl,rfl⟩;rw[←hb];generalize (w.alloc (.cells #[.bool false,.slice none 0 0] 191)).alloc (.cells #[.bool b,.slice none 0 0] 191)=W1 at*;clear hs hb;go_wp2_with fail;go_loopw [4] (fun mx wr=>∃i:Nat,i≤ag x∧mx=.int .u64 ((x/16777216^i:Nat):Int)∧∃ov,Y0 (IntS w wr b ov x i)) (fun mx _=>(intOf mx).toNat)
 case atStart=>exact⟨0,yI _,by rw[Nat.pow_zero,Nat.div_one],_,vn.o⟩
 obtain⟨i,hi,rfl,ov,HS⟩:=hrel;obtain⟨A,c,rfl,-⟩:=(jF HS.o.own).open_;have y0:=HS.o.box.cell 0;have y1:=HS.o.box.cell 1;have r0:=HS.o.res.cell 0;have r1:=HS.o.res.cell 1;have f0:=HS.o.res.frozen 0;have f1:=HS.o.res.frozen 1;simp only[aG,aH,aD] at y0 y1 r0 r1;by_cases ao:i<ag x
 ·have hH:0<x/16777216^i:=by
   rcases Nat.lt_or_ge x (16777216^i) with h|h
   ·have:=dj.1 h;omega
   exact Nat.div_pos h (eX i)
  have hzl:x/16777216^i≤1152921504606846976:=yH (YK _ _) hx;have HG:Y0 (x/16777216^i%16777216=ax x i):=rfl;have HQ:Y0 (x/16777216^i/16777216=x/16777216^(i+1)):=by unfold Y0;rw[Nat.pow_succ,Nat.div_div_eq_div_mul]
  generalize hz:x/16777216^i=z at*;have hd:decide (0<z)=true:=yD hH;have v1:IntKind.i64.wrap ((z:Int)%16777216)=(z:Int)%16777216:=yF _ (by omega);have v2:IntKind.u64.wrap ((z:Int)%16777216)=(z:Int)%16777216:=by show (z:Int)%16777216%18446744073709551616=_;omega
  have v3:IntKind.u64.wrap ((z:Int)/16777216)=(z:Int)/16777216:=by show (z:Int)/16777216%18446744073709551616=_;omega
  have hi3:=HD.o;have HP:Y0 (∀v' w1,w1.ownsRow w.heap.size 3 1 v' (i+1) ((bY x i).map qb++[.int .i64 ((z:Int)%16777216)])→wr.grownBy w1 (Value.slice A i c).ownBlock→Blk w1 (w.heap.size+1) 191 #[.bool b,.slice A i c]∧IntS w (w1.setCell ⟨w.heap.size+1,1,none⟩ v') b v' x (i+1)):=fun v' w1 ho hg=>HS.o.push (rL (by rw[←HG.o];rfl) ho) hg;have hO:=HS.o.own;have de:=HS.o.bel.size;have HZ:=zh hH;clear hH hz
  go_wp2_with (at_builtin;refine dQ _ rfl (.tmp 13) (.tmp 17) 22 rfl w.heap.size 3 lS Tryz.underlying22 rfl _ i _ rfl hO (.int .i64 ((z:Int)%16777216)) rfl rfl (by unfold maxLen;omega) (by omega) de ?_;intro g cap w4 bC bz xW vi;have Pd:=zh (HP.o _ w4 bC bz);have fb:=Pd.o.1.frozen 1;have cb:=Pd.o.1.cell 1;simp only[aG,aH,aD] at cb;clear bC bz vi);clear hO HP;go_roundw
  case rel=>exact⟨i+1,by omega,by rw[←HQ.o];rfl,_,Pd.o.2⟩
  have:=HZ.o;simp[intOf];omega
 obtain rfl:i=ag x:=by omega
 have hz:x/16777216^ag x=0:=Nat.div_eq_of_lt (jc x);rw[hz];have HE:Y0 (∀a c0,Blk (((wr.setCell ⟨w.heap.size,0,none⟩ (.bool b)).setCell ⟨w.heap.size,1,none⟩ (.slice a (ag x) c0))) w.heap.size 191 #[.bool b,.slice a (ag x) c0]∧Below w.heap.size w ((wr.setCell ⟨w.heap.size,0,none⟩ (.bool b)).setCell ⟨w.heap.size,1,none⟩ (.slice a (ag x) c0))∧(wr.setCell ⟨w.heap.size,0,none⟩ (.bool b)).setCell ⟨w.heap.size,1,none⟩ (.slice a (ag x) c0)=(wr.setCell ⟨w.heap.size,0,none⟩ (.bool b)).setCell ⟨w.heap.size,1,none⟩ (.slice a (ag x) c0)):=fun a c0=>
  ⟨(HS.o.res.set_ 0 (.bool b)).set_ 1 (.slice a (ag x) c0),(HS.o.bel.setCell (p:=⟨w.heap.size,0,none⟩) (yA _) _).setCell (p:=⟨w.heap.size,1,none⟩) (yA _) _,rfl⟩
 have hob:(Value.slice A (ag x) c).ownBlock≠some w.heap.size:=fun e=>(HS.o.res.ne_own HS.o.own (by decide)) e.symm;have HO2:Y0 (((wr.setCell ⟨w.heap.size,0,none⟩ (.bool b)).setCell ⟨w.heap.size,1,none⟩ (.slice A (ag x) c)).ownsRow w.heap.size 3 1 (.slice A (ag x) c) (ag x) ((bY x (ag x)).map qb)):=by
  have h1:=HS.o.own.kept (HS.o.res.setGrown 0 (.bool b)) (.inr hob);exact h1.kept ((HS.o.res.set_ 0 (.bool b)).setGrown 1 (.slice A (ag x) c)) (.inr hob)
 clear hob;go_wp2_with fail;obtain⟨ak,aU,-⟩:=HE.o A c;obtain⟨p0,p1⟩:=ak.c2;refine YF (v:=.agg #[.bool b,.slice A (ag x) c]) (by simp[results,Tryz.results178,go_sem,p0,p1]) rfl ?_;refine⟨b,_,rfl,aU,HBn.o,?_⟩;unfold dA;rw[←HX.o];exact jF HO2.o
def gDk (x k:Nat):GPost:=⟨fun v=>∃A c,v=.slice A k c,fun v w=>DgTo w w.heap.size v x k,⟨.slice none k 0,none,0,rfl⟩,fun _ _ _ hb h=>DgTo.grow h hb,false⟩
def gDg (x:Nat):GPost:=gDk x (ag x)
def Hu (n:Int):GPost:=⟨fun v=>∃s A c,v=.agg #[.bool s,.slice A (ag n.natAbs) c],fun u w=>∃s v,u=.agg #[.bool s,v]∧BigAt w w.heap.size s v n,⟨_,false,none,0,rfl⟩,fun _ _ _ hb h=>by
 obtain⟨s,v,e,h1⟩:=h;exact⟨s,v,e,h1.grow hb⟩,false⟩
def jU (q:Rat) (K:Nat):GPost:=⟨fun v=>∃s1 A1 l1 c1 s2 A2 l2 c2,v=.agg #[.bool s1,.slice A1 l1 c1,.bool s2,.slice A2 l2 c2],fun v w=>ExqAt w w.heap.size v q K,⟨_,false,none,0,0,false,none,0,0,rfl⟩,fun _ _ _ hb h=>h.grow hb,false⟩
theorem yx {f:FuncId} {args:Array Value} {w:World} {x k:Nat} (h:Calls Tryz.prog f args w (sM w x k)):Calls Tryz.prog f args w fun e w'=>∃v,e=.returned v∧Below w.heap.size w w'∧(gDk x k).σ v∧(gDk x k).φ v w':=h.mono fun e w' h=>by
 obtain⟨v,rfl,hb,h1⟩:=h;obtain⟨A,c,rfl,-⟩:=h1.open_;exact⟨_,rfl,hb,⟨A,c,rfl⟩,h1⟩
theorem tF {f:FuncId} {args:Array Value} {w:World} {x:Nat} (h:Calls Tryz.prog f args w (tS w x)):Calls Tryz.prog f args w fun e w'=>∃v,e=.returned v∧Below w.heap.size w w'∧(gDg x).σ v∧(gDg x).φ v w':=yx h
theorem dV {f:FuncId} {args:Array Value} {w:World} {n:Int} (h:Calls Tryz.prog f args w (sN w n)):Calls Tryz.prog f args w fun e w'=>∃v,e=.returned v∧Below w.heap.size w w'∧(Hu n).σ v∧(Hu n).φ v w':=h.mono fun e w' h=>by
 obtain⟨s,v,rfl,hb,h1⟩:=h;obtain⟨A,c,rfl,-⟩:=DgTo.open_ h1.2;exact⟨_,rfl,hb,⟨s,A,c,rfl⟩,s,_,rfl,h1⟩
theorem DgTo.set {w:World} {B R i:Nat} {v u:Value} {x k:Nat} (h:DgTo w B v x k) (hx:w.cell? ⟨R,i,none⟩=some u) (hu:∀z,u ≠ .int .i64 z) (y:Value):DgTo (w.setCell ⟨R,i,none⟩ y) B v x k:=by
 refine⟨?_,fun hk g hg=>by
  obtain⟨cs,r,e⟩:=h.2 hk g hg;by_cases hR:g=R
  ·subst hR;exact⟨cs.setIfInBounds i y,r,by simp[World.setCell,Array.getElem?_modify,e]⟩
  exact⟨cs,r,(Below.heap_setCell w ⟨R,i,none⟩ y g hR).trans e⟩⟩
 obtain⟨A,c,h1,h2,h3,h4⟩:=h.1;refine⟨A,c,h1,h2,h3,fun hn=>?_⟩;obtain⟨b,off,e,ao,hc⟩:=h4 hn;refine⟨b,off,e,ao,fun j u' Mb=>?_⟩;have h5:=hc j u' Mb;rw[World.cell?_setCell_other]
 ·exact h5
 intro e2;rw[e2,h5] at hx;injection hx with hx;rw[YC] at Mb
 cases hg:(bY x k)[j]? with
 | none=>rw[hg] at Mb;cases Mb
 | some d=>
  rw[hg] at Mb;injection Mb with Mb;exact hu d (by rw[←hx,←Mb];rfl)
theorem vY {w w8:World} {R:Nat} {b0:Bool} {A0:Option Addr} {l0 c0:Nat} (hR:w.heap.size≤R) (hb:Below w.heap.size w w8) (hD:Blk w8 R 191 #[.bool b0,.slice A0 l0 c0]) {s:Bool} {v:Value} {n:Int} (hv:BigAt w8 w8.heap.size s v n) :
  ((w8.setCell ⟨R,0,none⟩ (.bool s)).setCell ⟨R,1,none⟩ v).cell? ⟨R,0,none⟩=some (.bool s)∧((w8.setCell ⟨R,0,none⟩ (.bool s)).setCell ⟨R,1,none⟩ v).cell? ⟨R,1,none⟩=some v ∧
  Below w.heap.size w ((w8.setCell ⟨R,0,none⟩ (.bool s)).setCell ⟨R,1,none⟩ v)∧BigAt ((w8.setCell ⟨R,0,none⟩ (.bool s)).setCell ⟨R,1,none⟩ v) ((w8.setCell ⟨R,0,none⟩ (.bool s)).setCell ⟨R,1,none⟩ v).heap.size s v n:=by
 have h1:=hD.set_ 0 (.bool s);have h2:=h1.set_ 1 v;have z0:=hD.cell 0;have z1:=h1.cell 1;have p0:=h2.cell 0;have p1:=h2.cell 1;simp only[aG,aD] at z0;refine⟨p0,p1,(hb.setCell (p:=⟨R,0,none⟩) hR _).setCell (p:=⟨R,1,none⟩) hR _,hv.1,?_⟩;have h3:=DgTo.set hv.2 z0 (fun z=>by simp) (.bool s);have h4:=DgTo.set h3 (u:=.slice A0 l0 c0) z1 (fun z=>by simp) v;exact DgTo.mono h4 (by simp[World.setCell])
theorem mw (b:Bool) (A:Option Addr) (l c:Nat) (w:World):(Instr.field 191 (.agg #[.bool b,.slice A l c]) 1).run Tryz.prog w=.ok (.slice A l c) w:=by kernel_rfl
def Y5 (m i:Nat):Nat:=m/16777216^i%2
theorem qjj (m i:Nat):(ax m i+Y5 m (i+1)*16777216)/2=ax (m/2) i:=UM m i
theorem Y4 (m i:Nat):(ax m i+Y5 m (i+1)*16777216)%2=Y5 m i:=Om m i
theorem vq7 (m i:Nat):Y5 m i≤1:=Nat.le_of_lt_succ (YJ _ (by decide))
theorem qji (m:Nat):Y5 m (ag m)=0:=by unfold Y5;rw[Nat.div_eq_of_lt (jc m)]
theorem lN {w:World} {B e s n:Nat} {v:Value} {L:List Value} (h:w.ownsRow B e s v n L):∃A c,v=.slice A n c:=by
 rcases h.2 with⟨rfl,rfl⟩|⟨g,cap,cur,rfl,_⟩
 ·exact⟨none,0,rfl⟩
 exact⟨_,cap,rfl⟩
theorem NF {w:World} {B e s n c:Nat} {A:Option Addr} {L:List Value} (h:w.ownsRow B e s (.slice A n c) n L) (hn:0<n):∃g,A=some ⟨g,0,none⟩:=by
 rcases h.2 with⟨_,e0⟩|⟨g,cap,cur,e0,_⟩
 ·omega
 injection e0 with e1 _ _;exact⟨g,e1⟩
def oO (x la j:Nat):List Nat:=(List.range j).map fun t=>ax x (la-1-t)
def eE (x la i:Nat):List Nat:=(List.range la).map fun t=>if t<i∨la-1-t<i then ax x t else ax x (la-1-t)
theorem Gj (x la j:Nat):oO x la (j+1)=oO x la j++[ax x (la-1-j)]:=by unfold oO;rw[List.range_succ,List.map_append];rfl
theorem Ni (x la:Nat):eE x la 0=oO x la la:=by
 unfold eE oO;refine List.map_congr_left fun t _=>?_;rw[if_neg (by omega)]
theorem Qm {x la i:Nat} (h:la≤2*i+1):eE x la i=bY x la:=by
 unfold eE bY;refine List.map_congr_left fun t ht=>?_;rw[List.mem_range] at ht;split
 ·rfl
 rw[show la-1-t=t by omega]
theorem ry {x la i t:Nat} (h:t<la):(eE x la i)[t]?=some (if t<i∨la-1-t<i then ax x t else ax x (la-1-t)):=by
 unfold eE;rw[YC,List.getElem?_range h];rfl
theorem Nj {x la i:Nat} (h:2*i+1<la):((eE x la i).set i (ax x i)).set (la-1-i) (ax x (la-1-i))=eE x la (i+1):=by
 refine List.ext_getElem? fun t=>?_;by_cases ht:t<la
 ·have hl:(eE x la i).length=la:=by unfold eE;rw[List.length_map,List.length_range]
  rw[List.getElem?_set,List.getElem?_set,ry ht,ry ht];by_cases h1:la-1-i=t
  ·rw[if_pos h1,if_pos (by rw[List.length_set,hl];omega),if_pos (by omega),h1]
  rw[if_neg h1];by_cases h2:i=t
  ·rw[if_pos h2,if_pos (by rw[hl];omega),if_pos (by omega),h2]
  rw[if_neg h2];by_cases h3:t<i∨la-1-t<i
  ·rw[if_pos h3,if_pos (by omega)]
  rw[if_neg h3,if_neg (by omega)]
 have hl:(eE x la i).length=la:=by unfold eE;rw[List.length_map,List.length_range]
 have sO:(eE x la (i+1)).length=la:=by unfold eE;rw[List.length_map,List.length_range]
 rw[List.getElem?_eq_none (by rw[List.length_set,List.length_set,hl];omega),List.getElem?_eq_none (by rw[sO];omega)]
theorem Ks {g cy q r:Nat} (h1:(g+cy*16777216)/2=q) (h2:(g+cy*16777216)%2=r) (hg:g<16777216) (hc:cy≤1) :
  ∃qd rd:Int,qd=(q:Int)∧rd=(r:Int)∧((g:Int)+(cy:Int)*16777216).tdiv 2=qd∧((g:Int)+(cy:Int)*16777216).tmod 2=rd∧((g:Int)+(cy:Int)*16777216)/2=qd∧((g:Int)+(cy:Int)*16777216)%2=rd∧IntKind.i64.wrap qd=qd:=by
 have h0:(0:Int)≤(g:Int)+(cy:Int)*16777216:=by omega
 have e1:((g:Int)+(cy:Int)*16777216)/2=(q:Int):=by omega
 have e2:((g:Int)+(cy:Int)*16777216)%2=(r:Int):=by omega
 exact⟨q,r,rfl,rfl,by rw[Int.tdiv_eq_ediv_of_nonneg h0,e1],by rw[Int.tmod_eq_emod_of_nonneg h0,e2],e1,e2,yF _ (by omega)⟩
theorem Cj (v:Value) (m:Nat) (w:World) (hv:dA w w.heap.size v m) (hm:ag m≤1000000) :
  Calls Tryz.prog 211 #[v] w (tS w (m/2)):=by
 obtain⟨A1,c1,rfl,fU,pR,fE⟩:=hv.open_;have PQ:=zh fE;obtain⟨la,Xc⟩:∃la,la=ag m:=⟨_,rfl⟩;have HLA:=zh Xc;rw[←Xc] at fU hm PQ⊢;have v0:IntKind.i64.wrap ((la:Int)-1)=(la:Int)-1:=yF _ (by omega);clear hv fE Xc;go_enter Tryz.func211,Tryz.ntmps211;go_wp2_with fail;go_loopw [5,4,3] (fun ix cx ox wr=>∃j:Nat,j≤la∧ix=.int .i64 ((la:Int)-1-j)∧cx=.int .i64 ((Y5 m (la-j):Nat):Int)∧Y0 (wr.ownsRow w.heap.size 3 1 ox j ((oO (m/2) la j).map qb))∧Y0 (Below w.heap.size w wr)) (fun ix _ _ _=>(intOf ix+1).toNat)
 case atStart=>exact⟨0,yI _,by simp,by rw[Nat.sub_zero,HLA.o,qji];rfl,yJ _ _ _ _,yB _ _⟩
 obtain⟨j,hj,rfl,rfl,HO,HB⟩:=hrel;by_cases ao:j<la
 ·obtain⟨i,hi⟩:∃i,la=i+1+j:=⟨la-1-j,by omega⟩;obtain⟨b1,o1,rfl,ak,cB⟩:=PQ.o i (by omega);have y1:=(HB.o.cell (p:=⟨b1,o1+i,none⟩) ak).trans (cB i (by omega));have e0:(la:Int)-1-(j:Int)=(i:Int):=by omega
  rw[e0,show la-j=i+1 by omega];have HH:=zh (qjj m i);have HR:=zh (Y4 m i);have hg:=eP m i;have cM:=vq7 m (i+1);clear cB e0;generalize ax m i=g at*;generalize Y5 m (i+1)=cy at*;have i0:(0:Int)≤(i:Int):=yE _;have i1:(i:Int)<(la:Int):=by omega
  have v1:IntKind.i64.wrap ((cy:Int)*16777216)=(cy:Int)*16777216:=yF _ (by omega);have v2:IntKind.i64.wrap ((g:Int)+(cy:Int)*16777216)=(g:Int)+(cy:Int)*16777216:=yF _ (by omega);have v3:IntKind.i64.wrap ((i:Int)-1)=(i:Int)-1:=yF _ (by omega);have CI:=HO.o;have de:=HB.o.size;have HP:Y0 (∀(v':Value) (w1:World),w1.ownsRow w.heap.size 3 1 v' (j+1) ((oO (m/2) la j).map qb++[.int .i64 ((ax (m/2) i:Nat):Int)])→w1.ownsRow w.heap.size 3 1 v' (j+1) ((oO (m/2) la (j+1)).map qb)):=fun v' w1 h=>by
   rw[Gj,yS,show la-1-j=i by omega];exact h
  obtain⟨qd,rd,hqd,hrd,hq,hr,hq2,hr2,v4⟩:=Ks HH.o HR.o hg cM;have HRD:=zh hrd;rw[←hqd] at HP;have Hi:=zh hi;have hii:i<la:=by omega
  have hjm:(la:Int)-1-((j+1:Nat):Int)=(i:Int)-1:=by omega
  have Hjm:=zh hjm;clear HH HR hqd hrd hi hjm;go_wp2_with (at_builtin;refine dQ _ rfl (.tmp 23) (.tmp 26) 22 rfl w.heap.size 3 lS Tryz.underlying22 rfl _ j _ rfl CI (.int .i64 qd) rfl rfl (by unfold maxLen;omega) (by omega) de ?_;intro g4 cap w4 bC bz xW vi;have fI:=zh (HB.o.grown bz HB.o.size (fun k hk=>(HO.o.lt k hk).1));have tP:=zh (HP.o _ _ bC);clear bC bz vi);clear CI;go_roundw
  case rel=>exact⟨j+1,by omega,by rw[Hjm.o],by rw[show la-(j+1)=i by have:=Hi.o;omega,←HRD.o],tP,fI⟩
  simp[intOf] <;> omega
 obtain rfl:j=la:=by omega
 have Mh:(j:Int)-1-(j:Int)=-1:=by omega
 rw[Mh];clear Mh;have Pn:=zh HB.o;obtain⟨A3,c3,rfl⟩:=lN HO.o;have hO0:=HO.o;rw[←Ni] at hO0;have HO':=zh hO0;clear hO0;generalize Y5 m (j-j)=cy;clear HO HB PQ;go_wp2_with fail;go_loopw [7,8] (fun ix kx wq=>∃i:Nat,2*i≤j+1∧ix=.int .i64 i∧kx=.int .i64 ((j:Int)-1-i)∧Y0 (wq.ownsRow w.heap.size 3 1 (.slice A3 j c3) j ((eE (m/2) j i).map qb))∧Y0 (Below w.heap.size w wq)) (fun ix _ _=>j-(intOf ix).toNat)
 case atStart=>exact⟨0,by omega,rfl,by simp,HO',Pn⟩
 clear HO' Pn;obtain⟨i,hi,rfl,rfl,HO,HB⟩:=hrel;by_cases ao:2*i+1<j
 ·obtain⟨k,hk⟩:∃k:Nat,j=k+1+i:=⟨j-1-i,by omega⟩;have e1:(j:Int)-1-(i:Int)=(k:Int):=by omega
  rw[e1];have d1:decide (i<k)=true:=yD (by omega);obtain⟨g3,rfl⟩:=NF HO.o (by omega);have ff:i<j:=by omega
  have ay:k<j:=by omega
  have y0:=HO.o.cellAt i (by omega);have y1:=HO.o.cellAt k (by omega);rw[YC,ry ff,if_neg (by omega),show j-1-i=k by omega] at y0;rw[YC,ry ay,if_neg (by omega),show j-1-k=i by omega] at y1;have f0:=HO.o.frozenAt i;have S1:=(HO.o.stored i (qb (ax (m/2) i))).1;have S2:=S1.stored k (qb (ax (m/2) k));have y2:=S1.cellAt k (by omega);have f2:=S1.frozenAt k;rw[List.getElem?_set_ne (by omega),YC,ry ay,if_neg (by omega),show j-1-k=i by omega] at y2
  have HW:Y0 ((((eE (m/2) j i).map qb).set i (qb (ax (m/2) i))).set k (qb (ax (m/2) k))=(eE (m/2) j (i+1)).map qb):=by
   unfold Y0;rw[←Nj ao,show j-1-i=k by omega,List.map_set,List.map_set]
  have iw:=zh (fL S2.1 1);have dZ:=zh (((HB.o.setCell (p:=⟨g3,i,none⟩) (by show w.heap.size≤g3;exact (HO.o.lt g3 (by simp[Value.ownBlock])).1) (qb (ax (m/2) i))).setCell (p:=⟨g3,k,none⟩) (by show w.heap.size≤g3;exact (HO.o.lt g3 (by simp[Value.ownBlock])).1) (qb (ax (m/2) k))).drew);unfold qb at*;simp only[Option.map_some] at y0 y1 y2;generalize ((ax (m/2) i:Nat):Int)=di at*;generalize ((ax (m/2) k:Nat):Int)=dk at*
  have i0:(0:Int)≤(i:Int):=yE _;have i1:(i:Int)<(j:Int):=by omega
  have k0:(0:Int)≤(k:Int):=yE _;have k1:(k:Int)<(j:Int):=by omega
  have v3:IntKind.i64.wrap ((k:Int)-1)=(k:Int)-1:=yF _ (by omega);have Hk:=zh hk;have Hkm:Y0 ((j:Int)-1-((i+1:Nat):Int)=(k:Int)-1):=by unfold Y0;omega
  clear S1 S2 HO HB hk e1;go_wp2_with fail;obtain⟨Wd,w0,w1,w2⟩:∃Wd:Nat→World,Wd 0=wr.drew∧(Wd 0).setCell ⟨g3,i,none⟩ (.int .i64 di)=Wd 1∧(Wd 1).setCell ⟨g3,k,none⟩ (.int .i64 dk)=Wd 2 :=
   ⟨fun|0=>wr.drew|1=>wr.drew.setCell ⟨g3,i,none⟩ (.int .i64 di)|_=>(wr.drew.setCell ⟨g3,i,none⟩ (.int .i64 di)).setCell ⟨g3,k,none⟩ (.int .i64 dk),rfl,rfl,rfl⟩
  have y0':(Wd 0).cell? ⟨g3,i,none⟩=some (.int .i64 dk):=by rw[w0];exact y0
  have Xy:(Wd 0).cell? ⟨g3,k,none⟩=some (.int .i64 di):=by rw[w0];exact y1
  have f0':(Wd 0).frozen? ⟨g3,i,none⟩=false:=by rw[w0];exact f0
  have Xx:(Wd 1).cell? ⟨g3,k,none⟩=some (.int .i64 di):=by rw[←w1,w0];exact y2
  have f2':(Wd 1).frozen? ⟨g3,k,none⟩=false:=by rw[←w1,w0];exact f2
  have nF:Y0 ((Wd 2).ownsRow w.heap.size 3 1 (.slice (some ⟨g3,0,none⟩) j c3) j ((eE (m/2) j (i+1)).map qb)):=by
   have hh:=HW.o;show (Wd 2).ownsRow w.heap.size 3 1 (.slice (some ⟨g3,0,none⟩) j c3) j ((eE (m/2) j (i+1)).map (fun d:Nat=>Value.int .i64 (d:Int)));rw[←hh,←w2,←w1,w0];exact iw.o
  have cZ:Y0 (Below w.heap.size w (Wd 2)):=by
   unfold Y0;rw[←w2,←w1,w0];exact dZ.o
  have W0:=zh w0;clear w0 y0 y1 f0 y2 f2 iw dZ HW;refine uV [.slice (some ⟨g3,0,none⟩) j c3,.int .i64 i,.slice (some ⟨g3,0,none⟩) j c3,.int .i64 k,.slice (some ⟨g3,0,none⟩) j c3,.int .i64 k,.pointer (some ⟨g3,k,none⟩),.int .i64 di,.slice (some ⟨g3,0,none⟩) j c3,.int .i64 i,.pointer (some ⟨g3,i,none⟩),.int .i64 dk,.pointer (some ⟨g3,i,none⟩),undef,.pointer (some ⟨g3,k,none⟩),undef] Wd [13,15] (by kernel_rfl) (by kernel_rfl) (by kernel_rfl) (by decide) (by rfl) W0.o ?_ ?_
  ·simp only[bD,Act.put,aC,aB,aA];simp only[sh];refine⟨?_,?_,?_,?_,?_,?_,?_,?_,?_,?_,?_,?_,?_,?_,?_,?_,trivial⟩
   ·exact .inl ⟨by decide,fun m hm bL=>by go_simp⟩
   ·exact .inl ⟨by decide,fun m hm bL=>by go_simp⟩
   ·exact .inl ⟨by decide,fun m hm bL=>by go_simp⟩
   ·exact .inl ⟨by decide,fun m hm bL=>by go_simp⟩
   ·exact .inl ⟨by decide,fun m hm bL=>by go_simp⟩
   ·exact .inl ⟨by decide,fun m hm bL=>by go_simp⟩
   ·exact .inl ⟨by decide,fun m hm bL=>by go_simp⟩
   ·exact .inl ⟨by decide,fun m hm bL=>by
    have hm0:m=0:=by
     rcases m with _|_|_|m
     ·rfl
     ·exact absurd (Eq.trans (a:=false) (by kernel_rfl) bL) Bool.false_ne_true
     ·exact absurd (Eq.trans (a:=false) (by kernel_rfl) bL) Bool.false_ne_true
     exact absurd hm (by show ¬m+3≤2;omega)
    subst hm0;go_simp⟩
   ·exact .inl ⟨by decide,fun m hm bL=>by go_simp⟩
   ·exact .inl ⟨by decide,fun m hm bL=>by go_simp⟩
   ·exact .inl ⟨by decide,fun m hm bL=>by go_simp⟩
   ·exact .inl ⟨by decide,fun m hm bL=>by
    have hm0:m=0:=by
     rcases m with _|_|_|m
     ·rfl
     ·exact absurd (Eq.trans (a:=false) (by kernel_rfl) bL) Bool.false_ne_true
     ·exact absurd (Eq.trans (a:=false) (by kernel_rfl) bL) Bool.false_ne_true
     exact absurd hm (by show ¬m+3≤2;omega)
    subst hm0;go_simp⟩
   ·exact .inl ⟨by decide,fun m hm bL=>by go_simp⟩
   ·exact .inr ⟨0,rfl,by go_simp⟩
   ·exact .inl ⟨by decide,fun m hm bL=>by go_simp⟩
   exact .inr ⟨1,rfl,by go_simp⟩
  simp only[bD,Act.put,aC,aB,aA];clear y0' Xy f0' Xx f2' w1 w2;go_wp2_with fail;go_roundw
  case rel=>exact⟨i+1,by omega,by go_num,by rw[Hkm.o],nF,cZ⟩
  simp[intOf] <;> omega
 have d1:decide ((i:Int)<(j:Int)-1-(i:Int))=false:=yC (by omega);have hW:eE (m/2) j i=bY (m/2) j:=Qm (by omega);have hO:=HO.o;rw[hW] at hO;have hT:=nV false (.slice A3 j c3) (m/2) j wr (jF hO) (by rw[HLA.o];exact cj (YK _ _));have dZ:=zh HB.o;clear hW hO HO HB;go_wp2_with fail;refine hT.mono ?_;rintro e w9 ⟨v9,rfl,jz,D9⟩;obtain⟨A9,c9,rfl,-⟩:=DgTo.open_ D9;have Y7:=fun W=>mw (false&&decide (m/2≠0)) A9 (ag (m/2)) c9 W
 rw[Bool.false_and] at Y7;have zR:=zh D9;have nG:=zh (dZ.o.trans (jz.mono dZ.o.size));go_wp2_with fail;go_ret;exact⟨_,rfl,nG.o,zR.o⟩
