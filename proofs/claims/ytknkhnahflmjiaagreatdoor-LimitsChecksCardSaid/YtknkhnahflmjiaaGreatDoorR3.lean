/- Lemmas. -/
import Derived.Test.YtknkhnahflmjiaaGreatDoorR2
namespace Go.Proofs.YtknkhnahflmjiaaGreatDoor
set_option maxRecDepth 100000
set_option maxHeartbeats 40000000
open Go.RowKit Go.Shelf
def Wi (w:World) (n:Nat) (e:Ending) (w':World):Prop:=∃v,e=.returned v∧Below w.heap.size w w'∧w'.ownsRow w.heap.size 3 1 v (ag n) ((cn n (ag n)).map oT)
theorem Uh (v u:Value) (m n:Nat) (w:World) (hv:dF w w.heap.size v m) (hu:dF w w.heap.size u n) (hm:ag m≤1000000) (hn:ag n≤1000000) :
  Calls Tryz.prog 275 #[v,u] w (Wi w (m+n)):=by
 have HDm:Y0 (∀W,Below w.heap.size w W→∀i,i≤maxLen→Calls Tryz.prog 278 #[v,.int .i64 (i:Nat)] W fun e w'=>e=.returned (.int .i64 (aH m i:Nat))∧W=w'):=fun W hb i hi=>o6 v m i W (DgTo.grow hv hb) hi;have Kc:Y0 (∀W,Below w.heap.size w W→∀i,i≤maxLen→Calls Tryz.prog 278 #[u,.int .i64 (i:Nat)] W fun e w'=>e=.returned (.int .i64 (aH n i:Nat))∧W=w'):=fun W hb i hi=>o6 u n i W (DgTo.grow hu hb) hi;have Le:ag (m+n)≤1000001:=nW hm hn
 obtain⟨A1,c1,rfl,-,-,-⟩:=hv.open_;obtain⟨A2,c2,rfl,-,-,-⟩:=hu.open_;clear hv hu;go_enter Tryz.func275,Tryz.ntmps275;go_wp2_with fail;go_loopw [7,6,5] (fun ix cx ox wr=>∃i:Nat,i≤ag (m+n)∧ix=.int .i64 i∧cx=.int .i64 (cT m n i:Nat)∧Y0 (wr.ownsRow w.heap.size 3 1 ox i ((cn (m+n) i).map oT))∧Y0 (Below w.heap.size w wr)) (fun ix _ _ _=>ag (m+n)-(intOf ix).toNat)
 case atStart=>exact⟨0,yI _,rfl,by rw[wy];rfl,yJ _ _ _ _,yB _ _⟩
 obtain⟨i,hi,rfl,rfl,HO,HB⟩:=hrel;rename_i ox wr
 have k0:(0:Int)≤(i:Int):=yE _;have mO:=Je m n i;have hcy:=rr m n i;by_cases aI:i<ag (m+n)
 ·have hc:(decide (i<ag m)=true)∨(decide (i<ag m)=false∧decide (i<ag n)=true)∨(decide (i<ag m)=false∧decide (i<ag n)=false∧decide (0<cT m n i)=true):=by
   by_cases d1:i<ag m
   ·exact .inl (yD d1)
   by_cases d2:i<ag n
   ·exact .inr (.inl ⟨yC d1,yD d2⟩)
   exact .inr (.inr ⟨yC d1,yC d2,yD (by have:=mO.2 aI;omega)⟩)
  have b1:=dK m i;have b2:=dK n i;have e1:=C4 m n i;have e2:=vA m n i;have H1:=HDm.o wr HB.o i (by unfold maxLen;omega);have H2:=Kc.o wr HB.o i (by unfold maxLen;omega);generalize cG:aH m i=x1 at*;generalize dc:aH n i=x2 at*;generalize hx3:cT m n i=x3 at*;have v1:IntKind.i64.wrap ((x1:Int)+(x2:Int))=((x1+x2:Nat):Int):=(yF _ (by omega)).trans (by omega);have v2:IntKind.i64.wrap (((x1+x2:Nat):Int)+(x3:Int))=((x1+x2+x3:Nat):Int):=(yF _ (by omega)).trans (by omega)
  have HM:Y0 (((x1:Int)+(x2:Int)+(x3:Int))%16777216=((aH (m+n) i:Nat):Int)):=by unfold Y0;omega
  have HQ:Y0 (((x1:Int)+(x2:Int)+(x3:Int))/16777216=((cT m n (i+1):Nat):Int)):=by unfold Y0;omega
  have bP:=dK (m+n) i;have hc4:=rr m n (i+1);clear e1 e2 mO cG dc hx3;rcases hc with d1|⟨d1,d2⟩|⟨d1,d2,d3⟩
  all_goals
   go_wp2_with fail;refine (H1).mono ?_;rintro e w2 ⟨rfl,rfl⟩;go_wp2_with fail;refine (H2).mono ?_;rintro e w3 ⟨rfl,rfl⟩;have cY:=HB;have Bf:=HO.o;clear H1 H2 HO;go_wp2_with (at_builtin;refine fE _ rfl (.tmp 34) (.tmp 37) 33 rfl w.heap.size 3 jV Tryz.underlying33 rfl _ i _ rfl Bf (.int .i64 (((x1:Int)+(x2:Int)+(x3:Int))%16777216)) rfl rfl (by unfold maxLen;omega) (by omega) cY.o.size ?_;intro g cap w4 bK bA xY GY;have fj:=zh (cY.o.grown bA cY.o.size (fun k hk=>(Bf.lt k hk).1));have rB:=zh (nE (by rw[HM.o]) bK);clear bK bA GY)
   clear Bf cY;go_roundw
   case rel=>exact⟨i+1,by omega,by go_num,by rw[HQ.o],rB,fj⟩
   simp[intOf];omega
 have hc:decide (i<ag m)=false∧decide (i<ag n)=false∧decide (0<cT m n i)=false:=by
  have h1:¬(i<ag m∨i<ag n∨0<cT m n i):=fun h=>aI (mO.1 h);exact⟨yC (by omega),yC (by omega),yC (by omega)⟩
 obtain⟨d1,d2,d3⟩:=hc;have T8:i=ag (m+n):=by omega
 have hF:=HO.o;rw[T8] at hF;have HF:=zh hF;clear mO T8 hF;generalize cT m n i=x3 at*;go_wp2_with fail;go_ret;exact⟨_,rfl,HB.o,HF.o⟩
theorem KW:(Tryz.prog.info? 33).map (fun i=>(i.zero,i.size,i.bytes))=some (some (.slice none 0 0),1,24):=by kernel_rfl
theorem vx (w:World) (t:TypeId) (u:Value):(w.alloc (.cells #[u] t)).ownsRow w.heap.size t 1 (.slice (some ⟨w.heap.size,0,none⟩) 1 1) 1 [u] :=
 ⟨by simp,.inr ⟨w.heap.size,1,#[u],rfl,yA _,heap_alloc_new w _,yA _,by unfold maxLen;decide,rfl,by simp⟩⟩
theorem wj:ag 1=1:=by
 have h1:ag 1≤1:=jf (by decide);have h2:ag 1≠0:=fun e=>absurd (nV.1 e) (by decide);omega
theorem Un (w:World):dF (w.alloc (.cells #[.int .i64 1] 3)) (w.alloc (.cells #[.int .i64 1] 3)).heap.size (.slice (some ⟨w.heap.size,0,none⟩) 1 1) 1:=by
 unfold dF;rw[wj];exact j8 (vx w 3 (.int .i64 1))
def QEl (wr:World) (B:Nat) (u:Value) (x:Nat):Prop:=dF wr B u x∨wr.ownsRow B 3 1 u (ag x) ((cn x (ag x)).map oT)
theorem QEl.at_ {wr:World} {B:Nat} {u:Value} {x:Nat} (h:QEl wr B u x) (hB:B≤wr.heap.size):dF wr wr.heap.size u x:=by
 rcases h with h|h
 ·exact DgTo.mono h hB
 exact j8 h
theorem QEl.below {wr w':World} {B:Nat} {u:Value} {x:Nat} (h:QEl wr B u x) (hB:B≤wr.heap.size) (hb:Below wr.heap.size wr w'):QEl w' B u x:=by
 rcases h with h|h
 ·exact .inl (DgTo.below h hb hB)
 exact .inr (vB h hb)
theorem Jb {w w':World} {B B' e t s m n:Nat} {v u:Value} {xs ys:List Value} (h:w.ownsRow B e 1 v n xs) (hg:w.grownBy w' v.ownBlock) (hk:w.ownsRow B' t s u m ys) (ht:t≠e):w'.ownsRow B' t s u m ys:=by
 refine hk.kept hg ?_;rcases h.2 with⟨rfl,_⟩|⟨g,cap,cur,rfl,_,GY,_⟩
 ·exact Classical.em _
 exact xR hk fun r e1 cs f h2=>by
  obtain rfl:g=r:=by simpa[Value.ownBlock] using e1
  rw[GY] at h2;injection h2 with h2;injection h2 with _ h2 _;exact ht h2.symm
theorem KI {w:World} {B B' e s n:Nat} {v:Value} {xs:List Value} (h:w.ownsRow B e s v n xs) (hB:B'≤B):w.ownsRow B' e s v n xs:=by
 refine⟨h.1,?_⟩;rcases h.2 with h|⟨g,cap,cur,e,hb,r⟩
 ·exact .inl h
 exact .inr ⟨g,cap,cur,e,yH hB hb,r⟩
structure QuoS (w wr:World) (rv:Value) (b:Nat) (vs:List Value) (n:Nat):Prop where
 bel:Below w.heap.size w wr
 own:wr.ownsRow w.heap.size 33 1 rv n vs
 el:∀i,i<n→∃u,vs[i]?=some u∧QEl wr w.heap.size u (b*2^i)
section
variable {w wr w2 w':World} {rv u v':Value} {b n:Nat} {vs:List Value}
theorem QuoS.below (h:QuoS w wr rv b vs n) (hb:Below wr.heap.size wr w'):QuoS w w' rv b vs n :=
 ⟨h.bel.trans (hb.mono h.bel.size),vB h.own hb,fun i hi=>let ⟨u,e,hu⟩:=h.el i hi;⟨u,e,hu.below h.bel.size hb⟩⟩
theorem QuoS.push (h:QuoS w w2 rv b vs n) (hu:w2.ownsRow w.heap.size 3 1 u (ag (b*2^n)) ((cn (b*2^n) (ag (b*2^n))).map oT)) (ho:w'.ownsRow w.heap.size 33 1 v' (n+1) (vs++[u])) (hg:w2.grownBy w' rv.ownBlock):QuoS w w' v' b (vs++[u]) (n+1):=by
 have hl:vs.length=n:=by have:=h.own.1;omega
 have gj:Below w.heap.size w2 w':=(yB _ w2).grown hg h.bel.size (fun k e=>(h.own.lt k e).1);refine⟨h.bel.trans gj,ho,fun i hi=>?_⟩;rcases Nat.lt_or_ge i n with h1|h1
 ·obtain⟨x,e,hx⟩:=h.el i h1;refine⟨x,by rw[List.getElem?_append_left (by omega)];exact e,?_⟩;rcases hx with hx|hx
  ·exact .inl (DgTo.below hx gj (yA _))
  exact .inr (Jb h.own hg hx (by decide))
 obtain rfl:i=n:=by omega
 exact⟨u,by rw[List.getElem?_append_right (by omega),hl,Nat.sub_self];rfl,.inr (Jb h.own hg hu (by decide))⟩
theorem QuoS.start (hu:dF w w.heap.size u b):QuoS w (w.alloc (.cells #[u] 33)) (.slice (some ⟨w.heap.size,0,none⟩) 1 1) b [u] 1:=by
 have hb:Below w.heap.size w (w.alloc (.cells #[u] 33)):=(yB _ w).alloc (yA _) _;refine⟨hb,vx _ _ _,fun i hi=>?_⟩;obtain rfl:i=0:=by omega
 exact⟨u,rfl,.inl (by rw[Nat.pow_zero,Nat.mul_one];exact DgTo.below hu hb (yA _))⟩
end
theorem zR {K a b j:Nat} (ha:ag a≤K) (gj:0<b) (h:j=0∨b*2^(j-1)≤a):j≤24*K:=by
 rcases h with rfl|h
 ·exact yI _
 have h1:1*2^(j-1)≤b*2^(j-1):=Nat.mul_le_mul_right _ gj;have h2:=dx.2 ha;rw[qj] at h2;rw[Nat.one_mul] at h1
 have:=(Nat.pow_lt_pow_iff_right (a:=2) (by decide)).1 (Nat.lt_of_le_of_lt (yH h1 h) h2);omega
theorem qxW {K a b j:Nat} (ha:ag a≤K) (hb:ag b≤K) (h:j=0∨b*2^(j-1)≤a):ag (b*2^j)≤K+1:=by
 rcases j with _|j
 ·rw[Nat.pow_zero,Nat.mul_one];omega
 rcases h with h|h
 ·omega
 have h1:ag (b*2^j)≤K:=yH (cv h) ha;rw[show b*2^(j+1)=b*2^j+b*2^j by rw[yW,←yY];omega];exact nW h1 h1
theorem Ql {a b i:Nat} (gj:0<b):(b*2^i≤a%(b*2^(i+1))→a/(b*2^i)=a/(b*2^(i+1))+a/(b*2^(i+1))+1∧a%(b*2^i)=a%(b*2^(i+1))-b*2^i)∧(a%(b*2^(i+1))<b*2^i→a/(b*2^i)=a/(b*2^(i+1))+a/(b*2^(i+1))∧a%(b*2^i)=a%(b*2^(i+1))):=by
 have hc:0<b*2^i:=Nat.mul_pos gj (Nat.two_pow_pos i);have e:b*2^(i+1)=b*2^i*2:=by rw[yW,yY]
 rw[e];generalize b*2^i=c at*;have h1:=YI a (c*2);have h2:=YJ a (show 0<c*2 by omega);generalize a/(c*2)=q at*;generalize a%(c*2)=r at*;have h3:c*2*q=c*(q+q):=by rw[yY,Nat.two_mul]
 constructor
 ·intro h
  have:=(Nat.div_mod_unique (a:=a) (b:=c) (d:=q+q+1) (c:=r-c) hc).2 ⟨by rw[yX c (q+q) 1,Nat.mul_one];omega,by omega⟩;exact this
 intro h
 have:=(Nat.div_mod_unique (a:=a) (b:=c) (d:=q+q) (c:=r) hc).2 ⟨by omega,h⟩;exact this
theorem KD {a b j:Nat} (h:a<b*2^j):a/(b*2^(j+1))=0∧a%(b*2^(j+1))=a:=by
 have h1:b*2^j≤b*2^(j+1):=Nat.mul_le_mul_left _ (Nat.pow_le_pow_right (by decide) (YH _));exact⟨Nat.div_eq_of_lt (by omega),Nat.mod_eq_of_lt (by omega)⟩
theorem Uo (w:World):dF w w.heap.size (.slice none 0 0) 0:=by
 unfold dF;rw[gM];exact j8 (yJ w w.heap.size _ _)
theorem uJ (v u:Value) (a b K:Nat) (w:World) (hv:dF w w.heap.size v a) (hu:dF w w.heap.size u b) (hK:K≤300000) (ha:ag a≤K) (hb:ag b≤K) (gj:0<b) :
  Calls Tryz.prog 258 #[v,u] w (sO w (a/b)):=by
 obtain⟨A1,c1,rfl,-,-,-⟩:=DgTo.open_ hv;obtain⟨A2,c2,rfl,-,-,-⟩:=DgTo.open_ hu;have HA:=zh hv;have wU:=zh (QuoS.start hu);have HK:Y0 (K≤300000):=hK;have HLa:=zh ha;have HLb:=zh hb;have Hb0:=zh gj;have Tf:=zh HLa.o;have vwD:=zh HLb.o;generalize T6:ag a=la at HA HLa⊢;have vwW:=zh T6;generalize hlb:ag b=lb at wU HLb⊢;have HA1:Y0 (dF (w.alloc (.cells #[.slice A2 lb c2] 33)) w.heap.size (.slice A1 la c1) a):=DgTo.below HA.o wU.o.bel (yA _)
 clear hv hu hK ha hb gj T6 hlb;go_enter Tryz.func258,Tryz.ntmps258;go_wp2_with fail;go_loopg [5] (24*K+1) (fun gk rx wr=>∃j g cap vs,gk+j=24*K+1∧rx=.slice (some ⟨g,0,none⟩) (j+1) cap∧Y0 (QuoS w wr (.slice (some ⟨g,0,none⟩) (j+1) cap) b vs (j+1))∧Y0 (j=0∨b*2^(j-1)≤a))
 case atStart=>exact⟨0,_,_,_,rfl,rfl,wU,.inl rfl⟩
 clear wU HA1;obtain⟨j,g,cap,vs,hgk,rfl,HS,HP⟩:=hrel;have hj:=zR Tf.o Hb0.o HP.o;have kR:=zh (qxW Tf.o vwD.o HP.o);have hK:=HK.o;obtain⟨x,hx,hQ⟩:=HS.o.el j (Nat.lt_succ_self j);have y0:=(HS.o.own.cellAt j (by omega)).trans hx;have HX:=zh (hQ.at_ HS.o.bel.size);have HAr:Y0 (dF wr wr.heap.size (.slice A1 la c1) a):=(DgTo.below HA.o HS.o.bel (yA _)).mono HS.o.bel.size;obtain⟨A4,c4,rfl,-,-,-⟩:=DgTo.open_ HX.o
 obtain⟨n,hn⟩:∃n,n=j+1:=⟨_,rfl⟩;have Hn:=zh hn;rw[←hn] at HS⊢;have v0:IntKind.i64.wrap ((n:Int)-1)=(j:Int):=(yF _ (by omega)).trans (by omega);have v1:(j:Int)<(n:Int):=by omega
 have hnb:n≤7200001:=by omega
 have Hg:=zh hgk;clear hx hQ hn hgk;go_wp2_with fail;refine (lp _ _ (b*2^j) a _ HX.o HAr.o).mono ?_;rintro e w3 ⟨rfl,bZ⟩;have mR:=zh (HS.o.below bZ);have HX3:=zh (DgTo.grow HX.o bZ);have wL:=zh (DgTo.grow HAr.o bZ);have y3:=(bZ.cell (p:=⟨g,j,none⟩) (HS.o.own.lt g rfl).2).trans y0;clear bZ y0 HX HAr HS;by_cases aI:a<b*2^j
 ·rw[yD aI];have wV:=zh (KD aI);have vqa:=zh Tf.o;have HAs:Y0 (dF w3 w3.heap.size (.slice A1 la c1) (a%(b*2^n))):=by rw[Hn.o,wV.o.2];exact wL.o
  clear aI HP kR HX3 y3 Hg;go_wp2_with fail;go_loopw [0,7,8] (fun va vq kx wr=>∃m:Nat,m≤n∧kx=.int .i64 ((m:Int)-1)∧Y0 (dF wr wr.heap.size va (a%(b*2^m)))∧Y0 (dF wr wr.heap.size vq (a/(b*2^m)))∧Y0 (QuoS w wr (.slice (some ⟨g,0,none⟩) n cap) b vs n)) (fun _ _ kx _=>(intOf kx+1).toNat)
  case atStart=>exact⟨n,yA _,by have:=Hn.o;go_num,HAs,by rw[Hn.o,wV.o.1];exact Uo _,mR⟩
  clear wL mR wV;obtain⟨m,hm,rfl,HR,HQ,HS⟩:=hrel;rcases m with _|i
  ·rw[Nat.pow_zero,Nat.mul_one] at HQ;obtain⟨A7,c7,rfl,-,-,-⟩:=DgTo.open_ HQ.o;clear hm;go_wp2_with fail;refine (nt false _ (a/b) (ag (a/b)) _ HQ.o (yA _)).mono ?_;rintro e w9 ⟨v9,rfl,fC,tZ⟩;obtain⟨A9,c9,rfl,-,-,-⟩:=DgTo.open_ tZ;have UK:=fun W=>lM (false&&decide (a/b≠0)) A9 (ag (a/b)) c9 W;rw[Bool.false_and] at UK;have fP:=zh tZ;have iW:=zh (HS.o.bel.trans (fC.mono HS.o.bel.size));clear tZ fC HS HQ HR
   go_wp2_with fail;go_ret;exact⟨_,rfl,iW.o,fP.o⟩
  have e0:((i+1:Nat):Int)-1=(i:Int):=by omega
  rw[e0];have aW:=zh (Ql (a:=a) (i:=i) Hb0.o);have pq:Y0 (ag (a/(b*2^(i+1)))≤K):=yH (cv (YK _ _)) vqa.o;have HLr:Y0 (ag (a%(b*2^(i+1)))≤K):=yH (cv (Nat.mod_le _ _)) vqa.o;have hi:i<n:=by omega
  obtain⟨x,hx,hQ⟩:=HS.o.el i hi;have y0:=(HS.o.own.cellAt i (by omega)).trans hx;have HX:=zh (hQ.at_ HS.o.bel.size);obtain⟨A4,c4,rfl,-,-,-⟩:=DgTo.open_ HX.o;obtain⟨A5,c5,e5,-,-,-⟩:=DgTo.open_ HR.o;obtain⟨A6,c6,e6,-,-,-⟩:=DgTo.open_ HQ.o;rw[e5] at HR⊢;rw[e6] at HQ⊢;generalize a%(b*2^(i+1))=r at*;generalize a/(b*2^(i+1))=q at*;generalize hc:b*2^i=c at*;have HC:=zh hc;have i0:(i:Int)<(n:Int):=by omega
  have v2:IntKind.i64.wrap ((i:Int)-1)=(i:Int)-1:=yF _ (by omega);clear hx hQ e5 e6 e0 hc;go_wp2_with fail;refine (zu _ _ q q _ HQ.o HQ.o (by have:=pq.o;have:=HK.o;omega) (by have:=pq.o;have:=HK.o;omega)).mono ?_;rintro e w4 ⟨v4,rfl,bP,hq4⟩;obtain⟨A7,c7,rfl,-,-,-⟩:=DgTo.open_ hq4;have HQ4:=zh hq4;have HR4:=zh (DgTo.grow HR.o bP);have HX4:=zh (DgTo.grow HX.o bP);have gF:=zh (HS.o.below bP);have y4:=(bP.cell (p:=⟨g,i,none⟩) (HS.o.own.lt g rfl).2).trans y0
  clear bP hq4 HQ HR HX HS y0;go_wp2_with fail;refine (lp _ _ c r _ HX4.o HR4.o).mono ?_;rintro e w5 ⟨rfl,bf⟩;have HQ5:=zh (DgTo.grow HQ4.o bf);have ou:=zh (DgTo.grow HR4.o bf);have HX5:=zh (DgTo.grow HX4.o bf);have eP:=zh (gF.o.below bf);have y5:=(bf.cell (p:=⟨g,i,none⟩) (gF.o.own.lt g rfl).2).trans y4;clear bf HQ4 HR4 HX4 gF y4;by_cases aI:r<c
  ·rw[yD aI];have HE:=zh (aW.o.2 aI);clear aI aW;go_wp2_with fail;go_roundw
   case rel=>exact⟨i,by omega,by go_num,by rw[HC.o,HE.o.2];exact ou,by rw[HC.o,HE.o.1];exact HQ5,eP⟩
   simp[intOf] <;> omega
  rw[yC aI];have qn:Y0 (c≤r):=Nat.not_lt.1 aI;have HE:=zh (aW.o.1 qn.o);clear aI aW;go_wp2_with fail;refine (qC _ _ r c _ ou.o HX5.o (by have:=HLr.o;have:=HK.o;omega) qn.o).mono ?_;rintro e w8 ⟨v8,rfl,aT,yc⟩;obtain⟨A8,c8,rfl,-,-,-⟩:=DgTo.open_ yc;have pj:=zh yc;have HQ8:=zh (DgTo.grow HQ5.o aT);have dv:=zh (eP.o.below aT);clear aT yc HX5 HQ5 eP ou y5;go_wp2_with fail;refine (nt false _ (r-c) (ag r) _ pj.o (cv (Nat.sub_le _ _))).mono ?_
  rintro e w9 ⟨v9,rfl,fC,tZ⟩;obtain⟨A9,c9,rfl,-,-,-⟩:=DgTo.open_ tZ;have UK:=fun W=>lM (false&&decide (r-c≠0)) A9 (ag (r-c)) c9 W;rw[Bool.false_and] at UK;have fP:=zh tZ;have HQ9:=zh (DgTo.grow HQ8.o fC);have mQ:=zh (dv.o.below fC);have lS:Below w9.heap.size w9 (w9.alloc (.cells #[.int .i64 1] 3)):=(yB _ w9).alloc (yA _) _;have HO1:=zh (Un w9);have HDa:=zh (DgTo.grow fP.o lS);have HQa:=zh (DgTo.grow HQ9.o lS)
  have zl:=zh (mQ.o.below lS);clear tZ fC pj HQ8 dv lS fP HQ9 mQ;go_wp2_with fail;refine (zu _ _ (q+q) 1 _ HQa.o HO1.o (by have:=nW pq.o pq.o;have:=HK.o;omega) (by rw[wj];decide)).mono ?_;rintro e w6 ⟨v6,rfl,fk,hq6⟩;have HQ6:=zh hq6;have ot:=zh (DgTo.grow HDa.o fk);have Ee:=zh (zl.o.below fk);clear fk hq6 HDa HQa zl HO1;go_wp2_with fail;go_roundw
  case rel=>exact⟨i,by omega,by go_num,by rw[HC.o,HE.o.2];exact ot,by rw[HC.o,HE.o.1];exact HQ6,Ee⟩
  simp[intOf] <;> omega
 rw[yC aI];have qn:Y0 (b*2^j≤a):=Nat.not_lt.1 aI;have HE:Y0 (b*2^j+b*2^j=b*2^(j+1)):=by unfold Y0;rw[Nat.pow_succ,←Nat.mul_assoc];omega
 clear aI;go_wp2_with fail;refine (Uh _ _ (b*2^j) (b*2^j) _ HX3.o HX3.o (by have:=kR.o;omega) (by have:=kR.o;omega)).mono ?_;rintro e w4 ⟨v4,rfl,bP,hO4⟩;rw[HE.o] at hO4;have gF:=zh (mR.o.below bP);rw[Hn.o] at gF;have rB:=zh (KI hO4 mR.o.bel.size);obtain⟨A6,c6,e6⟩:=lw hO4;rw[e6] at rB⊢;generalize hl6:ag (b*2^(j+1))=l6 at rB⊢;have hO:=gF.o.own;have fO:=gF.o.bel.size;rw[←Hn.o] at hO;have LY:Y0 (∀v' w1,w1.ownsRow w.heap.size 33 1 v' (n+1) (vs++[.slice A6 l6 c6])→w4.grownBy w1 (Value.slice (some ⟨g,0,none⟩) n cap).ownBlock→QuoS w w1 v' b (vs++[.slice A6 l6 c6]) (n+1)):=fun v' w1 ho hg=>by
  have hh:=gF.o.push (u:=.slice A6 l6 c6) (by rw[hl6];exact rB.o) (by rw[←Hn.o];exact ho) (by exact hg);rw[←Hn.o] at hh;exact hh
 clear e6 hl6 bP hO4 mR HX3 wL y3;go_wp2_with (at_builtin;refine fE _ rfl (.tmp 26) (.tmp 30) 204 rfl w.heap.size 33 KW Tryz.underlying204 rfl _ n _ rfl hO (.slice A6 l6 c6) rfl rfl (by unfold maxLen;omega) (by omega) fO ?_;intro g4 vwu w5 bK bA xY GY;have eP:=zh (LY.o _ _ bK bA);clear bK bA GY xY);clear hO LY;go_roundg (24*K+1-(j+1))
 case rel=>exact⟨j+1,g4,vwu,_,by have:=Hg.o;have:=zR Tf.o Hb0.o (.inr (by rw[Nat.add_sub_cancel];exact qn.o));omega,by rw[Hn.o],by rw[Hn.o] at eP;exact eP,.inr (by rw[Nat.add_sub_cancel];exact qn.o)⟩
 have:=Hg.o;have:=zR Tf.o Hb0.o (.inr (by rw[Nat.add_sub_cancel];exact qn.o));omega
def eZ (w:World) (q:Rat) (K:Nat) (e:Ending) (w':World):Prop:=∃v,e=.returned v∧Below w.heap.size w w'∧ExqAt w' w'.heap.size v q K
theorem cf {w:World} {B:Nat} {x:Value} {q:Rat} {K:Nat} (h:ExqAt w B x q K):∃s1 A1 l1 c1 s2 A2 l2 c2 N D,x=.agg (zD s1 A1 l1 c1 s2 A2 l2 c2)∧BigAt w B s1 (.slice A1 l1 c1) N∧BigAt w B s2 (.slice A2 l2 c2) D∧0<D∧ag N.natAbs≤K∧ag D.natAbs≤K∧q=Rat.divInt N D:=by
 obtain⟨s1,v1,s2,v2,N,D,rfl,h1,h2,h3⟩:=h;obtain⟨A1,c1,rfl,-⟩:=DgTo.open_ h1.2;obtain⟨A2,c2,rfl,-⟩:=DgTo.open_ h2.2;exact⟨s1,A1,_,c1,s2,A2,_,c2,N,D,rfl,h1,h2,h3⟩
theorem Zg {f:FuncId} {args:Array Value} {w:World} {q:Rat} {K:Nat} (h:Calls Tryz.prog f args w (eZ w q K)):Calls Tryz.prog f args w fun e w'=>∃v,e=.returned v∧Below w.heap.size w w'∧(jw q K).σ v∧(jw q K).φ v w':=h.mono fun e w' h=>by
 obtain⟨v,rfl,hb,h1⟩:=h;obtain⟨s1,A1,l1,c1,s2,A2,l2,c2,N,D,rfl,h2⟩:=cf h1;exact⟨_,rfl,hb,⟨s1,A1,l1,c1,s2,A2,l2,c2,rfl⟩,h1⟩
theorem Y9 (s:Bool) (v:Value) (n:Int) (w:World) (hv:BigAt w w.heap.size s v n):Calls Tryz.prog 256 #[.agg #[.bool s,v]] w (rH w (-n)):=(qzp s v n w hv).mono fun e w' h=>by
 obtain⟨rfl,hb⟩:=h;have h2:=DgTo.grow hv.2 hb;exact⟨_,v,rfl,hb,rfl,by rw[Int.natAbs_neg];exact h2⟩
theorem Ly {m n:Int} {K:Nat} (h1:ag m.natAbs≤K) (h2:ag n.natAbs≤K):ag (m+n).natAbs≤K+1:=yH (cv (Int.natAbs_add_le m n)) (nW h1 h2)
theorem Vj {N D:Int} (hD:0<D) (h:0<Rat.divInt N D):0<N:=by
 obtain⟨h1,h2⟩:=Dv (N:=N) hD;rcases Int.lt_trichotomy N 0 with h3|h3|h3
 ·exact absurd h (Rat.not_lt.2 (Rat.le_of_lt (h1.2 h3)))
 ·rw[h2.2 h3] at h;exact absurd h (Rat.lt_irrefl)
 exact h3
theorem jd {w w8:World} {R:Nat} (hR:w.heap.size≤R) (hb:Below w.heap.size w w8) (hD:Blk w8 R 239 (zD false none 0 0 false none 0 0)) {s1 s2:Bool} {v1 v2:Value} {q:Rat} {K:Nat} (hv:ExqAt w8 w8.heap.size (.agg #[.bool s1,v1,.bool s2,v2]) q K) :
  Below w.heap.size w ((((w8.setCell ⟨R,0,none⟩ (.bool s1)).setCell ⟨R,1,none⟩ v1).setCell ⟨R,2,none⟩ (.bool s2)).setCell ⟨R,3,none⟩ v2)∧ExqAt ((((w8.setCell ⟨R,0,none⟩ (.bool s1)).setCell ⟨R,1,none⟩ v1).setCell ⟨R,2,none⟩ (.bool s2)).setCell ⟨R,3,none⟩ v2) ((((w8.setCell ⟨R,0,none⟩ (.bool s1)).setCell ⟨R,1,none⟩ v1).setCell ⟨R,2,none⟩ (.bool s2)).setCell ⟨R,3,none⟩ v2).heap.size (.agg #[.bool s1,v1,.bool s2,v2]) q K:=by
 have h1:=hD.set_ 0 (.bool s1);have h2:=h1.set_ 1 v1;have h3:=h2.set_ 2 (.bool s2);have z0:=hD.cell 0;have z1:=h1.cell 1;have z2:=h2.cell 2;have z3:=h3.cell 3;simp only[aB,aA] at z0;have fJ:∀ {v:Value} {x k:Nat},DgTo w8 w8.heap.size v x k→DgTo ((((w8.setCell ⟨R,0,none⟩ (.bool s1)).setCell ⟨R,1,none⟩ v1).setCell ⟨R,2,none⟩ (.bool s2)).setCell ⟨R,3,none⟩ v2) ((((w8.setCell ⟨R,0,none⟩ (.bool s1)).setCell ⟨R,1,none⟩ v1).setCell ⟨R,2,none⟩ (.bool s2)).setCell ⟨R,3,none⟩ v2).heap.size v x k:=fun h=>by
  have g1:=DgTo.set h z0 (fun z=>by simp) (.bool s1);have g2:=DgTo.set g1 (u:=.slice none 0 0) z1 (fun z=>by simp) v1;have g3:=DgTo.set g2 (u:=.bool false) z2 (fun z=>by simp) (.bool s2);have g4:=DgTo.set g3 (u:=.slice none 0 0) z3 (fun z=>by simp) v2;exact DgTo.mono g4 (by simp[World.setCell])
 obtain⟨_,_,_,_,N,D,e,h4,h5,h6⟩:=hv;cases e;exact⟨(((hb.setCell (p:=⟨R,0,none⟩) hR _).setCell (p:=⟨R,1,none⟩) hR _).setCell (p:=⟨R,2,none⟩) hR _).setCell (p:=⟨R,3,none⟩) hR _,_,_,_,_,N,D,rfl,⟨h4.1,fJ h4.2⟩,⟨h5.1,fJ h5.2⟩,h6⟩
theorem ig (v u:Value) (x y:Rat) (K M:Nat) (w:World) (hv:ExqAt w w.heap.size v x K) (hu:ExqAt w w.heap.size u y M) (hK:K+M+1≤400000) :
  Calls Tryz.prog 209 #[v,u] w (eZ w (x+y) (K+M+1)):=by
 obtain⟨kA,kC,ku,k7,k8,kB,kt,ky,N,D,rfl,cG,dc,hD,oF,lF,KY⟩:=cf hv;obtain⟨pL,pM,pJ,pK,oM,oN,oK,oL,N2,E,rfl,nJ,tD,hE,rJ,kh,Ml⟩:=cf hu;have HEq:Y0 (x+y=Rat.divInt (N*E+N2*D) (D*E)):=by rw[KY,Ml];exact RR hD hE
 have HP:Y0 (0<D*E):=Int.mul_pos hD hE;have HM1:Y0 (ag (N*E).natAbs≤K+M):=by unfold Y0;rw[Int.natAbs_mul];exact iy oF kh
 have Bp:Y0 (ag (N2*D).natAbs≤K+M):=by unfold Y0;rw[Int.natAbs_mul,Nat.mul_comm];exact iy lF rJ
 have tv:Y0 (ag (N*E+N2*D).natAbs≤K+M+1):=Ly HM1.o Bp.o;have gQ:Y0 (ag (D*E).natAbs≤K+M+1):=by unfold Y0;rw[Int.natAbs_mul];exact Nat.le_succ_of_le (iy lF kh)
 have tL:=zh cG;have kl:=zh dc;have oV:=zh nJ;have qp:=zh tD;have HK:=zh hK;have wJ:=zh oF;have rE:=zh lF;have cR:=zh rJ;have fX:=zh kh;have HV:=zh hv;have HU:=zh hu;have mJ:=zh (cu w 239 239 239 (zD kA kC ku k7 k8 kB kt ky) (zD pL pM pJ pK oM oN oK oL) (zD false none 0 0 false none 0 0));clear hv hu cG dc nJ tD oF lF rJ kh hK hD hE KY Ml;go_enter Tryz.func209,Tryz.ntmps209;go_wp2_with fail;generalize ((w.alloc (.cells (zD kA kC ku k7 k8 kB kt ky) 239)).alloc (.cells (zD pL pM pJ pK oM oN oK oL) 239)).alloc (.cells (zD false none 0 0 false none 0 0) 239)=W3 at*
 obtain⟨B1,B2,B3,bE⟩:=mJ.o;have gT:=B1.cell 0;have jz:=B1.cell 1;have oO:=B1.cell 2;have pP:=B1.cell 3;have jb:=B2.cell 0;have iJ:=B2.cell 1;have pO:=B2.cell 2;have pN:=B2.cell 3;simp only[aB,aD,aA] at gT jz oO pP jb iJ pO pN;have sR:=YL gT;have tB:=YL jz;have B7:=YL oO;have Ep:=YL pP;have wQ:=YL jb;have tR:=YL iJ;have EO:=YL pO;have EN:=YL pN;have B3:=zh B3;have bE:=zh bE;clear mJ B1 B2 gT jz oO pP jb iJ pO pN
 refine af 17 (fun i=>if i=4 then some (Ez (N*E)) else if i=9 then some (Ez (N2*D)) else if i=10 then some (Ez (N*E+N2*D)) else if i=15 then some (Ez (D*E)) else none) (by kernel_rfl) (by kernel_rfl) ?_;simp only[aO,aR,aP,aQ];refine zw 4 ?_;simp only[aO,aR,aP,aQ]
 repeat (go_big_quiet_step (fail))
 refine YE ?_;refine ae rfl rfl ?_ ?_
 ·intro w1 ak hk;have hb:=bE.o.trans (ak.mono bE.o.size);have hC:=ec (gH _ _ _ _ N E w1 (tL.o.grow hb) (qp.o.grow hb) (by have:=wJ.o;have:=HK.o;omega) (by have:=fX.o;have:=HK.o;omega));exact zc hC
 rintro _ ⟨Fl,Fo,Fj,rfl⟩;simp only[Act.put,aw,av,au];refine zw 4 ?_;simp only[aO,aR,aP,aQ]
 repeat (go_big_quiet_step (fail))
 refine YE ?_;refine ae rfl rfl ?_ ?_
 ·intro w1 ak hk;have hb:=bE.o.trans (ak.mono bE.o.size);have hC:=ec (gH _ _ _ _ N2 D w1 (oV.o.grow hb) (kl.o.grow hb) (by have:=cR.o;have:=HK.o;omega) (by have:=rE.o;have:=HK.o;omega));exact zc hC
 rintro _ ⟨pE,pG,pD,rfl⟩;simp only[Act.put,aw,av,au];refine ae rfl rfl ?_ ?_
 ·intro w1 ak hk;have hb:=bE.o.trans (ak.mono bE.o.size);obtain⟨_,_,e9,h9⟩:∃s v,Value.agg #[.bool Fl,.slice Fo (ag (N*E).natAbs) Fj]=.agg #[.bool s,v]∧BigAt w1 w1.heap.size s v (N*E):=hk 9 (by decide);cases e9;obtain⟨_,_,e14,My⟩:∃s v,Value.agg #[.bool pE,.slice pG (ag (N2*D).natAbs) pD]=.agg #[.bool s,v]∧BigAt w1 w1.heap.size s v (N2*D):=hk 14 (by decide);cases e14;have hC:=ec (qzo _ _ _ _ (N*E) (N2*D) w1 h9 My (by have:=HM1.o;have:=HK.o;omega) (by have:=Bp.o;have:=HK.o;omega))
  exact zc hC
 rintro _ ⟨Ph,Pj,Pg,rfl⟩;simp only[Act.put,aw,av,au];refine zw 4 ?_;simp only[aO,aR,aP,aQ]
 repeat (go_big_quiet_step (fail))
 refine YE ?_;refine ae rfl rfl ?_ ?_
 ·intro w1 ak hk;have hb:=bE.o.trans (ak.mono bE.o.size);have hC:=ec (gH _ _ _ _ D E w1 (kl.o.grow hb) (qp.o.grow hb) (by have:=rE.o;have:=HK.o;omega) (by have:=fX.o;have:=HK.o;omega));exact zc hC
 rintro _ ⟨OB,OC,OA,rfl⟩;simp only[Act.put,aw,av,au];refine zw 1 ?_;simp only[aO,aR,aP,aQ]
 repeat (go_big_quiet_step (fail))
 refine YE ?_;refine Zc ?_;intro w8 aT hF;obtain⟨_,_,e1,h1⟩:∃s v,Value.agg #[.bool Ph,.slice Pj (ag (N*E+N2*D).natAbs) Pg]=.agg #[.bool s,v]∧BigAt w8 w8.heap.size s v (N*E+N2*D):=hF 15;cases e1;obtain⟨_,_,e2,h2⟩:∃s v,Value.agg #[.bool OB,.slice OC (ag (D*E).natAbs) OA]=.agg #[.bool s,v]∧BigAt w8 w8.heap.size s v (D*E):=hF 20;cases e2;have HL:Y0 (ExqAt w8 w8.heap.size (.agg (zD Ph Pj (ag (N*E+N2*D).natAbs) Pg OB OC (ag (D*E).natAbs) OA)) (x+y) (K+M+1)):=⟨_,_,_,_,N*E+N2*D,D*E,rfl,h1,h2,HP.o,tv.o,gQ.o,HEq.o⟩
 clear h1 h2;have bp:=zh (B3.o.below aT B3.o.lt);have eG:=zh (bE.o.trans (aT.mono bE.o.size));have dT:=zh (jd (w:=w) (by omega) eG.o bp.o HL.o);have q0:=bp.o.cell 0;have q1:=bp.o.cell 1;have q2:=bp.o.cell 2;have q3:=bp.o.cell 3;have f0:=bp.o.frozen 0;have f1:=bp.o.frozen 1;have f2:=bp.o.frozen 2;have f3:=bp.o.frozen 3;simp only[aB,aD,aA] at q0 q1 q2 q3;clear hF aT B3 bE sR tB B7 Ep wQ tR EO EN;go_wp2_with fail
 refine YF (v:=.agg (zD Ph Pj (ag (N*E+N2*D).natAbs) Pg OB OC (ag (D*E).natAbs) OA)) (by simp[results,Tryz.results209,go_sem,q0,q1,q2,q3]) rfl ?_;exact⟨_,rfl,dT.o.1,dT.o.2⟩
theorem kq (v u:Value) (x y:Rat) (K M:Nat) (w:World) (hv:ExqAt w w.heap.size v x K) (hu:ExqAt w w.heap.size u y M) (hK:K+M+1≤400000) :
  Calls Tryz.prog 212 #[v,u] w (eZ w (x-y) (K+M+1)):=by
 obtain⟨kA,kC,ku,k7,k8,kB,kt,ky,N,D,rfl,cG,dc,hD,oF,lF,KY⟩:=cf hv;obtain⟨pL,pM,pJ,pK,oM,oN,oK,oL,N2,E,rfl,nJ,tD,hE,rJ,kh,Ml⟩:=cf hu;have HE:Y0 (x + -y=x-y):=(Rat.sub_eq_add_neg x y).symm;have HP:Y0 (0<E):=hE;have HNa:Y0 (ag (-N2).natAbs≤M):=by unfold Y0;rw[Int.natAbs_neg];exact rJ
 have HEq:Y0 (-y=Rat.divInt (-N2) E):=by unfold Y0;rw[Ml,Rat.neg_divInt]
 have tL:=zh cG;have kl:=zh dc;have oV:=zh nJ;have qp:=zh tD;have HK:=zh hK;have wJ:=zh oF;have rE:=zh lF;have cR:=zh rJ;have fX:=zh kh;have HV:=zh hv;have HU:=zh hu;have mJ:=zh (cu w 239 239 239 (zD kA kC ku k7 k8 kB kt ky) (zD pL pM pJ pK oM oN oK oL) (zD false none 0 0 false none 0 0));clear hv hu cG dc nJ tD oF lF rJ kh hK hD hE KY Ml;go_enter Tryz.func212,Tryz.ntmps212;go_wp2_with fail;generalize ((w.alloc (.cells (zD kA kC ku k7 k8 kB kt ky) 239)).alloc (.cells (zD pL pM pJ pK oM oN oK oL) 239)).alloc (.cells (zD false none 0 0 false none 0 0) 239)=W3 at*
 obtain⟨B1,B2,B3,bE⟩:=mJ.o;have gT:=B1.cell 0;have jz:=B1.cell 1;have oO:=B1.cell 2;have pP:=B1.cell 3;have jb:=B2.cell 0;have iJ:=B2.cell 1;have pO:=B2.cell 2;have pN:=B2.cell 3;simp only[aB,aD,aA] at gT jz oO pP jb iJ pO pN;have sR:=YL gT;have tB:=YL jz;have B7:=YL oO;have Ep:=YL pP;have wQ:=YL jb;have tR:=YL iJ;have EO:=YL pO;have EN:=YL pN;have B3:=zh B3;have bE:=zh bE;clear mJ B1 B2 gT jz oO pP jb iJ pO pN
 refine af 8 (fun i=>if i=3 then some (Ez (-N2)) else if i=7 then some (jw (x-y) (K+M+1)) else none) (by kernel_rfl) (by kernel_rfl) ?_;simp only[aO,aR,aP,aQ];refine zw 3 ?_;simp only[aO,aR,aP,aQ]
 repeat (go_big_quiet_step (fail))
 refine YE ?_;refine ae rfl rfl ?_ ?_
 ·intro w1 ak hk;have hb:=bE.o.trans (ak.mono bE.o.size);have hC:=ec (Y9 _ _ _ w1 (oV.o.grow hb));exact zc hC
 rintro _ ⟨r8b,r8A,r8c,rfl⟩;simp only[Act.put,aw,av,au];refine zw 3 ?_;simp only[aO,aR,aP,aQ]
 repeat (go_big_quiet_step (fail))
 refine YE ?_;refine ae rfl rfl ?_ ?_
 ·intro w1 ak hk;have hb:=bE.o.trans (ak.mono bE.o.size);obtain⟨_,_,e8,h8⟩:∃s v,Value.agg #[.bool r8b,.slice r8A (ag (-N2).natAbs) r8c]=.agg #[.bool s,v]∧BigAt w1 w1.heap.size s v (-N2):=hk 11 (by decide) 8 (by decide);cases e8;have hE:ExqAt w1 w1.heap.size (.agg (zD r8b r8A (ag (-N2).natAbs) r8c oM oN oK oL)) (-y) M:=⟨_,_,_,_,-N2,E,rfl,h8,qp.o.grow hb,HP.o,HNa.o,fX.o,HEq.o⟩;have hC:=Zg (HE.o▸ig _ _ x (-y) K M w1 (HV.o.grow hb) hE HK.o)
  exact zc hC
 rintro _ ⟨Cy,C0,Cu,Cw,Cx,Cz,Ct,Cv,rfl⟩;simp only[Act.put,aw,av,au];refine Zc ?_;intro w8 aT hF;have HL:Y0 (ExqAt w8 w8.heap.size (.agg (zD Cy C0 Cu Cw Cx Cz Ct Cv)) (x-y) (K+M+1)):=hF 12;have bp:=zh (B3.o.below aT B3.o.lt);have eG:=zh (bE.o.trans (aT.mono bE.o.size));have dT:=zh (jd (w:=w) (by omega) eG.o bp.o HL.o);have q0:=bp.o.cell 0;have q1:=bp.o.cell 1;have q2:=bp.o.cell 2;have q3:=bp.o.cell 3
 have f0:=bp.o.frozen 0;have f1:=bp.o.frozen 1;have f2:=bp.o.frozen 2;have f3:=bp.o.frozen 3;simp only[aB,aD,aA] at q0 q1 q2 q3;clear hF aT B3 bE sR tB B7 Ep wQ tR EO EN;go_wp2_with fail;refine YF (v:=.agg (zD Cy C0 Cu Cw Cx Cz Ct Cv)) (by simp[results,Tryz.results212,go_sem,q0,q1,q2,q3]) rfl ?_;exact⟨_,rfl,dT.o.1,dT.o.2⟩
theorem qD (v u:Value) (x y:Rat) (K M:Nat) (w:World) (hv:ExqAt w w.heap.size v x K) (hu:ExqAt w w.heap.size u y M) (hK:K+M+1≤400000) :
  Calls Tryz.prog 211 #[v,u] w (eZ w (x*y) (K+M)):=by
 obtain⟨kA,kC,ku,k7,k8,kB,kt,ky,N,D,rfl,cG,dc,hD,oF,lF,KY⟩:=cf hv;obtain⟨pL,pM,pJ,pK,oM,oN,oK,oL,N2,E,rfl,nJ,tD,hE,rJ,kh,Ml⟩:=cf hu;have HEq:Y0 (x*y=Rat.divInt (N*N2) (D*E)):=by rw[KY,Ml];exact Lt hD hE
 have HP:Y0 (0<D*E):=Int.mul_pos hD hE;have tv:Y0 (ag (N*N2).natAbs≤K+M):=by unfold Y0;rw[Int.natAbs_mul];exact iy oF rJ
 have gQ:Y0 (ag (D*E).natAbs≤K+M):=by unfold Y0;rw[Int.natAbs_mul];exact iy lF kh
 have tL:=zh cG;have kl:=zh dc;have oV:=zh nJ;have qp:=zh tD;have HK:=zh hK;have wJ:=zh oF;have rE:=zh lF;have cR:=zh rJ;have fX:=zh kh;have HV:=zh hv;have HU:=zh hu;have mJ:=zh (cu w 239 239 239 (zD kA kC ku k7 k8 kB kt ky) (zD pL pM pJ pK oM oN oK oL) (zD false none 0 0 false none 0 0));clear hv hu cG dc nJ tD oF lF rJ kh hK hD hE KY Ml;go_enter Tryz.func211,Tryz.ntmps211;go_wp2_with fail;generalize ((w.alloc (.cells (zD kA kC ku k7 k8 kB kt ky) 239)).alloc (.cells (zD pL pM pJ pK oM oN oK oL) 239)).alloc (.cells (zD false none 0 0 false none 0 0) 239)=W3 at*
 obtain⟨B1,B2,B3,bE⟩:=mJ.o;have gT:=B1.cell 0;have jz:=B1.cell 1;have oO:=B1.cell 2;have pP:=B1.cell 3;have jb:=B2.cell 0;have iJ:=B2.cell 1;have pO:=B2.cell 2;have pN:=B2.cell 3;simp only[aB,aD,aA] at gT jz oO pP jb iJ pO pN;have sR:=YL gT;have tB:=YL jz;have B7:=YL oO;have Ep:=YL pP;have wQ:=YL jb;have tR:=YL iJ;have EO:=YL pO;have EN:=YL pN;have B3:=zh B3;have bE:=zh bE;clear mJ B1 B2 gT jz oO pP jb iJ pO pN
 refine af 11 (fun i=>if i=4 then some (Ez (N*N2)) else if i=9 then some (Ez (D*E)) else none) (by kernel_rfl) (by kernel_rfl) ?_;simp only[aO,aR,aP,aQ];refine zw 4 ?_;simp only[aO,aR,aP,aQ]
 repeat (go_big_quiet_step (fail))
 refine YE ?_;refine ae rfl rfl ?_ ?_
 ·intro w1 ak hk;have hb:=bE.o.trans (ak.mono bE.o.size);have hC:=ec (gH _ _ _ _ N N2 w1 (tL.o.grow hb) (oV.o.grow hb) (by have:=wJ.o;have:=HK.o;omega) (by have:=cR.o;have:=HK.o;omega));exact zc hC
 rintro _ ⟨Fl,Fo,Fj,rfl⟩;simp only[Act.put,aw,av,au];refine zw 4 ?_;simp only[aO,aR,aP,aQ]
 repeat (go_big_quiet_step (fail))
 refine YE ?_;refine ae rfl rfl ?_ ?_
 ·intro w1 ak hk;have hb:=bE.o.trans (ak.mono bE.o.size);have hC:=ec (gH _ _ _ _ D E w1 (kl.o.grow hb) (qp.o.grow hb) (by have:=rE.o;have:=HK.o;omega) (by have:=fX.o;have:=HK.o;omega));exact zc hC
 rintro _ ⟨pE,pG,pD,rfl⟩;simp only[Act.put,aw,av,au];refine zw 1 ?_;simp only[aO,aR,aP,aQ]
 repeat (go_big_quiet_step (fail))
 refine YE ?_;refine Zc ?_;intro w8 aT hF;obtain⟨_,_,e1,h1⟩:∃s v,Value.agg #[.bool Fl,.slice Fo (ag (N*N2).natAbs) Fj]=.agg #[.bool s,v]∧BigAt w8 w8.heap.size s v (N*N2):=hF 9;cases e1;obtain⟨_,_,e2,h2⟩:∃s v,Value.agg #[.bool pE,.slice pG (ag (D*E).natAbs) pD]=.agg #[.bool s,v]∧BigAt w8 w8.heap.size s v (D*E):=hF 14;cases e2;have HL:Y0 (ExqAt w8 w8.heap.size (.agg (zD Fl Fo (ag (N*N2).natAbs) Fj pE pG (ag (D*E).natAbs) pD)) (x*y) (K+M)):=⟨_,_,_,_,N*N2,D*E,rfl,h1,h2,HP.o,tv.o,gQ.o,HEq.o⟩
 clear h1 h2;have bp:=zh (B3.o.below aT B3.o.lt);have eG:=zh (bE.o.trans (aT.mono bE.o.size));have dT:=zh (jd (w:=w) (by omega) eG.o bp.o HL.o);have q0:=bp.o.cell 0;have q1:=bp.o.cell 1;have q2:=bp.o.cell 2;have q3:=bp.o.cell 3;have f0:=bp.o.frozen 0;have f1:=bp.o.frozen 1;have f2:=bp.o.frozen 2;have f3:=bp.o.frozen 3;simp only[aB,aD,aA] at q0 q1 q2 q3;clear hF aT B3 bE sR tB B7 Ep wQ tR EO EN;go_wp2_with fail
 refine YF (v:=.agg (zD Fl Fo (ag (N*N2).natAbs) Fj pE pG (ag (D*E).natAbs) pD)) (by simp[results,Tryz.results211,go_sem,q0,q1,q2,q3]) rfl ?_;exact⟨_,rfl,dT.o.1,dT.o.2⟩
theorem ID (v u:Value) (x y:Rat) (K M:Nat) (w:World) (hv:ExqAt w w.heap.size v x K) (hu:ExqAt w w.heap.size u y M) (hy0:0<y) (hK:K+M+1≤400000) :
  Calls Tryz.prog 253 #[v,u] w (eZ w (x/y) (K+M)):=by
 obtain⟨kA,kC,ku,k7,k8,kB,kt,ky,N,D,rfl,cG,dc,hD,oF,lF,KY⟩:=cf hv;obtain⟨pL,pM,pJ,pK,oM,oN,oK,oL,N2,E,rfl,nJ,tD,hE,rJ,kh,Ml⟩:=cf hu;have hM0:0<N2:=Vj hE (Ml▸hy0);have HEq:Y0 (x/y=Rat.divInt (N*E) (D*N2)):=by rw[KY,Ml];exact RS hD hE hM0
 have HP:Y0 (0<D*N2):=Int.mul_pos hD hM0;have tv:Y0 (ag (N*E).natAbs≤K+M):=by unfold Y0;rw[Int.natAbs_mul];exact iy oF kh
 have gQ:Y0 (ag (D*N2).natAbs≤K+M):=by unfold Y0;rw[Int.natAbs_mul];exact iy lF rJ
 have tL:=zh cG;have kl:=zh dc;have oV:=zh nJ;have qp:=zh tD;have HK:=zh hK;have wJ:=zh oF;have rE:=zh lF;have cR:=zh rJ;have fX:=zh kh;have HV:=zh hv;have HU:=zh hu;have mJ:=zh (cu w 239 239 239 (zD kA kC ku k7 k8 kB kt ky) (zD pL pM pJ pK oM oN oK oL) (zD false none 0 0 false none 0 0));clear hM0 hy0 hv hu cG dc nJ tD oF lF rJ kh hK hD hE KY Ml;go_enter Tryz.func253,Tryz.ntmps253;go_wp2_with fail
 generalize ((w.alloc (.cells (zD kA kC ku k7 k8 kB kt ky) 239)).alloc (.cells (zD pL pM pJ pK oM oN oK oL) 239)).alloc (.cells (zD false none 0 0 false none 0 0) 239)=W3 at*;obtain⟨B1,B2,B3,bE⟩:=mJ.o;have gT:=B1.cell 0;have jz:=B1.cell 1;have oO:=B1.cell 2;have pP:=B1.cell 3;have jb:=B2.cell 0;have iJ:=B2.cell 1;have pO:=B2.cell 2;have pN:=B2.cell 3;simp only[aB,aD,aA] at gT jz oO pP jb iJ pO pN;have sR:=YL gT
 have tB:=YL jz;have B7:=YL oO;have Ep:=YL pP;have wQ:=YL jb;have tR:=YL iJ;have EO:=YL pO;have EN:=YL pN;have B3:=zh B3;have bE:=zh bE;clear mJ B1 B2 gT jz oO pP jb iJ pO pN;refine af 11 (fun i=>if i=4 then some (Ez (N*E)) else if i=9 then some (Ez (D*N2)) else none) (by kernel_rfl) (by kernel_rfl) ?_;simp only[aO,aR,aP,aQ];refine zw 4 ?_;simp only[aO,aR,aP,aQ]
 repeat (go_big_quiet_step (fail))
 refine YE ?_;refine ae rfl rfl ?_ ?_
 ·intro w1 ak hk;have hb:=bE.o.trans (ak.mono bE.o.size);have hC:=ec (gH _ _ _ _ N E w1 (tL.o.grow hb) (qp.o.grow hb) (by have:=wJ.o;have:=HK.o;omega) (by have:=fX.o;have:=HK.o;omega));exact zc hC
 rintro _ ⟨Fl,Fo,Fj,rfl⟩;simp only[Act.put,aw,av,au];refine zw 4 ?_;simp only[aO,aR,aP,aQ]
 repeat (go_big_quiet_step (fail))
 refine YE ?_;refine ae rfl rfl ?_ ?_
 ·intro w1 ak hk;have hb:=bE.o.trans (ak.mono bE.o.size);have hC:=ec (gH _ _ _ _ D N2 w1 (kl.o.grow hb) (oV.o.grow hb) (by have:=rE.o;have:=HK.o;omega) (by have:=cR.o;have:=HK.o;omega));exact zc hC
 rintro _ ⟨pE,pG,pD,rfl⟩;simp only[Act.put,aw,av,au];refine zw 1 ?_;simp only[aO,aR,aP,aQ]
 repeat (go_big_quiet_step (fail))
 refine YE ?_;refine Zc ?_;intro w8 aT hF;obtain⟨_,_,e1,h1⟩:∃s v,Value.agg #[.bool Fl,.slice Fo (ag (N*E).natAbs) Fj]=.agg #[.bool s,v]∧BigAt w8 w8.heap.size s v (N*E):=hF 9;cases e1;obtain⟨_,_,e2,h2⟩:∃s v,Value.agg #[.bool pE,.slice pG (ag (D*N2).natAbs) pD]=.agg #[.bool s,v]∧BigAt w8 w8.heap.size s v (D*N2):=hF 14;cases e2;have HL:Y0 (ExqAt w8 w8.heap.size (.agg (zD Fl Fo (ag (N*E).natAbs) Fj pE pG (ag (D*N2).natAbs) pD)) (x/y) (K+M)):=⟨_,_,_,_,N*E,D*N2,rfl,h1,h2,HP.o,tv.o,gQ.o,HEq.o⟩
 clear h1 h2;have bp:=zh (B3.o.below aT B3.o.lt);have eG:=zh (bE.o.trans (aT.mono bE.o.size));have dT:=zh (jd (w:=w) (by omega) eG.o bp.o HL.o);have q0:=bp.o.cell 0;have q1:=bp.o.cell 1;have q2:=bp.o.cell 2;have q3:=bp.o.cell 3;have f0:=bp.o.frozen 0;have f1:=bp.o.frozen 1;have f2:=bp.o.frozen 2;have f3:=bp.o.frozen 3;simp only[aB,aD,aA] at q0 q1 q2 q3;clear hF aT B3 bE sR tB B7 Ep wQ tR EO EN;go_wp2_with fail
 refine YF (v:=.agg (zD Fl Fo (ag (N*E).natAbs) Fj pE pG (ag (D*N2).natAbs) pD)) (by simp[results,Tryz.results253,go_sem,q0,q1,q2,q3]) rfl ?_;exact⟨_,rfl,dT.o.1,dT.o.2⟩
theorem qzr (v u:Value) (x y:Rat) (K M:Nat) (w:World) (hv:ExqAt w w.heap.size v x K) (hu:ExqAt w w.heap.size u y M) (hK:K+M+1≤400000) :
  Calls Tryz.prog 247 #[v,u] w fun e w'=>e=.returned (.int .i64 (rR (x-y)))∧Below w.heap.size w w':=by
 obtain⟨kA,kC,ku,k7,k8,kB,kt,ky,_,_,rfl,-⟩:=cf hv;obtain⟨pL,pM,pJ,pK,oM,oN,oK,oL,_,_,rfl,-⟩:=cf hu;have hb:Below w.heap.size w ((w.alloc (.cells (zD kA kC ku k7 k8 kB kt ky) 239)).alloc (.cells (zD pL pM pJ pK oM oN oK oL) 239)):=((yB _ w).alloc (yA _) _).alloc (by simp) _;have HV:=zh (hv.grow hb);have HU:=zh (hu.grow hb);have HB:=zh hb;have HK:=zh hK;clear hv hu hb hK;go_enter Tryz.func247,Tryz.ntmps247
 go_wp2_with fail;refine (kq _ _ x y K M _ HV.o HU.o HK.o).mono ?_;rintro e w3 ⟨v3,rfl,bZ,h3⟩;have H3:=zh h3;have cY:=zh (HB.o.trans (bZ.mono HB.o.size));clear h3 bZ HV HU HB;go_wp2_with fail;refine (Y8 _ (x-y) (K+M+1) _ H3.o).mono ?_;rintro e w4 ⟨rfl,bP⟩;have fj:=zh (cY.o.trans (bP.mono cY.o.size));clear bP H3 cY;go_wp2_with fail;go_ret;exact⟨rfl,fj.o⟩
def AQ (w:World) (q:Rat) (e:Ending) (w':World):Prop:=∃s1 v1 s2 v2,e=.returned (.agg #[.bool s1,v1,.bool s2,v2])∧Below w.heap.size w w'∧BigAt w' w'.heap.size s1 v1 q.num∧BigAt w' w'.heap.size s2 v2 (q.den:Int)
theorem U2 {N D:Int} (hD:0<D) (hN:N≠0):decide (N<0)=decide ((Rat.divInt N D).num<0):=by
 have h:=Jj (n:=N) (d:=D) (by omega) hN;exact decide_eq_decide.2 ⟨fun h1=>h.2 (.inl ⟨h1,hD⟩),fun h1=>by
  rcases h.1 h1 with h2|h2
  ·exact h2.1
  omega⟩
theorem C5 {w w8:World} {R:Nat} (hR:w.heap.size≤R) (hb:Below w.heap.size w w8) (hD:Blk w8 R 239 (zD false none 0 0 false none 0 0)) {s1 s2:Bool} {v1 v2:Value} {N D:Int} (h4:BigAt w8 w8.heap.size s1 v1 N) (h5:BigAt w8 w8.heap.size s2 v2 D) :
  Below w.heap.size w ((((w8.setCell ⟨R,0,none⟩ (.bool s1)).setCell ⟨R,1,none⟩ v1).setCell ⟨R,2,none⟩ (.bool s2)).setCell ⟨R,3,none⟩ v2)∧BigAt ((((w8.setCell ⟨R,0,none⟩ (.bool s1)).setCell ⟨R,1,none⟩ v1).setCell ⟨R,2,none⟩ (.bool s2)).setCell ⟨R,3,none⟩ v2) ((((w8.setCell ⟨R,0,none⟩ (.bool s1)).setCell ⟨R,1,none⟩ v1).setCell ⟨R,2,none⟩ (.bool s2)).setCell ⟨R,3,none⟩ v2).heap.size s1 v1 N∧BigAt ((((w8.setCell ⟨R,0,none⟩ (.bool s1)).setCell ⟨R,1,none⟩ v1).setCell ⟨R,2,none⟩ (.bool s2)).setCell ⟨R,3,none⟩ v2) ((((w8.setCell ⟨R,0,none⟩ (.bool s1)).setCell ⟨R,1,none⟩ v1).setCell ⟨R,2,none⟩ (.bool s2)).setCell ⟨R,3,none⟩ v2).heap.size s2 v2 D:=by
 have h1:=hD.set_ 0 (.bool s1);have h2:=h1.set_ 1 v1;have h3:=h2.set_ 2 (.bool s2);have z0:=hD.cell 0;have z1:=h1.cell 1;have z2:=h2.cell 2;have z3:=h3.cell 3;simp only[aB,aA] at z0;have fJ:∀ {v:Value} {x k:Nat},DgTo w8 w8.heap.size v x k→DgTo ((((w8.setCell ⟨R,0,none⟩ (.bool s1)).setCell ⟨R,1,none⟩ v1).setCell ⟨R,2,none⟩ (.bool s2)).setCell ⟨R,3,none⟩ v2) ((((w8.setCell ⟨R,0,none⟩ (.bool s1)).setCell ⟨R,1,none⟩ v1).setCell ⟨R,2,none⟩ (.bool s2)).setCell ⟨R,3,none⟩ v2).heap.size v x k:=fun h=>by
  have g1:=DgTo.set h z0 (fun z=>by simp) (.bool s1);have g2:=DgTo.set g1 (u:=.slice none 0 0) z1 (fun z=>by simp) v1;have g3:=DgTo.set g2 (u:=.bool false) z2 (fun z=>by simp) (.bool s2);have g4:=DgTo.set g3 (u:=.slice none 0 0) z3 (fun z=>by simp) v2;exact DgTo.mono g4 (by simp[World.setCell])
 exact⟨(((hb.setCell (p:=⟨R,0,none⟩) hR _).setCell (p:=⟨R,1,none⟩) hR _).setCell (p:=⟨R,2,none⟩) hR _).setCell (p:=⟨R,3,none⟩) hR _,⟨h4.1,fJ h4.2⟩,⟨h5.1,fJ h5.2⟩⟩
theorem zv (v:Value) (x:Rat) (K:Nat) (w:World) (hv:ExqAt w w.heap.size v x K) (hK:K≤300000) :
  Calls Tryz.prog 213 #[v] w (AQ w x):=by
 obtain⟨b1,v1,b2,v2,N,D,rfl,cG,dc,hD,oF,lF,KY⟩:=hv;obtain⟨A1,c1,rfl,Rb,xU,-⟩:=DgTo.open_ cG.2;obtain⟨A2,c2,rfl,hm2,Ew,-⟩:=DgTo.open_ dc.2;unfold maxLen at xU Ew;have hz:=nV (x:=N.natAbs);have tL:=zh cG;have kl:=zh dc;have HK:=zh hK;have wJ:=zh oF;have rE:=zh lF;have HD:=zh hD;have HXq:=zh KY;have B1:=(Blk.new w 239 (zD b1 A1 (ag N.natAbs) c1 b2 A2 (ag D.natAbs) c2)).alloc (.cells (zD false none 0 0 false none 0 0) 239)
 have B3:=Blk.new (w.alloc (.cells (zD b1 A1 (ag N.natAbs) c1 b2 A2 (ag D.natAbs) c2) 239)) 239 (zD false none 0 0 false none 0 0);rw[yZ] at B3;have bE:Below w.heap.size w ((w.alloc (.cells (zD b1 A1 (ag N.natAbs) c1 b2 A2 (ag D.natAbs) c2) 239)).alloc (.cells (zD false none 0 0 false none 0 0) 239)):=((yB _ w).alloc (yA _) _).alloc (by simp) _;clear cG dc oF lF hK hD KY;go_enter Tryz.func213,Tryz.ntmps213
 go_upto_region 1 with fail;generalize (w.alloc (.cells (zD b1 A1 (ag N.natAbs) c1 b2 A2 (ag D.natAbs) c2) 239)).alloc (.cells (zD false none 0 0 false none 0 0) 239)=W2 at*;have q0:=B1.cell 0;have q1:=B1.cell 1;have q3:=B1.cell 3;simp only[aB,aD,aA] at q0 q1 q3;have cw:=zh B1;have cY:=zh B3;have bE:=zh bE;clear B1 B3;by_cases JN:ag N.natAbs=0
 ·have hd:(ag N.natAbs==0)=true:=beq_iff_eq.2 JN;have M8:Y0 (N=0):=by have:=hz.1 JN;unfold Y0;omega
  clear hz;go_wp2_with fail;refine (xK 0 _ (by decide) (by decide)).mono ?_;rintro e w3 ⟨s3,v3,rfl,bZ,h3⟩;obtain⟨A3,c3,rfl,-⟩:=DgTo.open_ h3.2;have H3:=zh h3;have fj:=zh (cY.o.below bZ cY.o.lt);have LS:=zh (bE.o.trans (bZ.mono bE.o.size));clear bZ h3 q0 q1 q3;generalize hl3:ag (0:Int).natAbs=l3 at*;clear hl3;go_wp2_with fail;refine (xK 1 _ (by decide) (by decide)).mono ?_;rintro e w4 ⟨s4,v4,rfl,bP,h4⟩
  obtain⟨A4,c4,rfl,-⟩:=DgTo.open_ h4.2;have H4:=zh h4;have H5:=zh (H3.o.grow bP);have bp:=zh (fj.o.below bP fj.o.lt);have eG:=zh (LS.o.trans (bP.mono LS.o.size));clear bP h4 H3 fj LS;generalize hl4:ag (1:Int).natAbs=l4 at*;clear hl4;have dT:=zh (C5 (w:=w) (by omega) eG.o bp.o H5.o H4.o);have q0:=bp.o.cell 0;have q1:=bp.o.cell 1;have q2:=bp.o.cell 2;have q3:=bp.o.cell 3;have f0:=bp.o.frozen 0;have f1:=bp.o.frozen 1
  have f2:=bp.o.frozen 2;have f3:=bp.o.frozen 3;simp only[aB,aD,aA] at q0 q1 q2 q3;go_wp2_with fail;refine YF (v:=.agg (zD s3 A3 l3 c3 s4 A4 l4 c4)) (by simp[results,Tryz.results213,go_sem,q0,q1,q2,q3]) rfl ?_;have e0:x=((0:Int):Rat):=by rw[HXq.o,M8.o,tm]
  exact⟨_,_,_,_,rfl,dT.o.1,by rw[e0];exact dT.o.2.1,by rw[e0];exact dT.o.2.2⟩
 have hd:(ag N.natAbs==0)=false:=zb JN;have mA:(((ag N.natAbs:Nat):Int)==0)=false:=zb (by omega);have M8:Y0 (0<N.natAbs):=by unfold Y0;rcases Nat.eq_zero_or_pos N.natAbs with h|h;exact absurd (hz.2 h) JN;exact h
 have HDp:Y0 (0<D.natAbs):=by have:=HD.o;unfold Y0;omega
 have qj9:=zh (tL.o.grow bE.o);have qj8:=zh (kl.o.grow bE.o);clear hz JN;go_wp2_with fail;refine (qzq _ _ N.natAbs D.natAbs K _ qj9.o.2 qj8.o.2 HK.o wJ.o rE.o M8.o HDp.o).mono ?_;rintro e w3 ⟨v3,rfl,bZ,h3⟩;have HL:=zh (qN (n:=N) (d:=D) (by have:=HD.o;omega));have HGp:Y0 (0<Nat.gcd N.natAbs D.natAbs):=Nat.gcd_pos_of_pos_left _ M8.o;have Bq:Y0 (ag (Nat.gcd N.natAbs D.natAbs)≤K):=yH (cv (Nat.gcd_le_left _ M8.o)) wJ.o
 generalize Nat.gcd N.natAbs D.natAbs=G at*;obtain⟨A3,c3,rfl,-⟩:=DgTo.open_ h3;have H3:=zh h3;have wL:=zh (qj9.o.grow bZ);have HA4:=zh (qj8.o.grow bZ);have fj:=zh (cY.o.below bZ cY.o.lt);have dJ:=zh (cw.o.below bZ cw.o.lt);have LS:=zh (bE.o.trans (bZ.mono bE.o.size));clear bZ h3 q0 q1 q3 qj9 qj8 hd mA;have q0:=dJ.o.cell 0;have q1:=dJ.o.cell 1;have q3:=dJ.o.cell 3;simp only[aB,aD,aA] at q0 q1 q3;have u0:=YL q0
 have u1:=YL q1;have u3:=YL q3;clear q0 q1 q3;go_upto_region 4 with fail;refine af 16 (fun i=>if i=7 then some (gDg (N.natAbs/G)) else if i=13 then some (gDg (D.natAbs/G)) else none) (by kernel_rfl) (by kernel_rfl) ?_;simp only[aO,aR,aP,aQ];refine zw 7 ?_;simp only[aO,aR,aP,aQ]
 repeat (go_big_quiet_step (fail))
 refine YE ?_;refine ae rfl rfl ?_ ?_
 ·intro w1 ak hk;exact zc (sE (uJ _ _ N.natAbs G K w1 (wL.o.grow ak).2 (DgTo.grow H3.o ak) HK.o wJ.o Bq.o HGp.o))
 rintro _ ⟨A5,c5,rfl⟩;simp only[Act.put,aw,av,au];refine zw 5 ?_;simp only[aO,aR,aP,aQ]
 repeat (go_big_quiet_step (fail))
 refine YE ?_;refine ae rfl rfl ?_ ?_
 ·intro w1 ak hk;exact zc (sE (uJ _ _ D.natAbs G K w1 (HA4.o.grow ak).2 (DgTo.grow H3.o ak) HK.o rE.o Bq.o HGp.o))
 rintro _ ⟨A6,c6,rfl⟩;simp only[Act.put,aw,av,au];refine zw 2 ?_;simp only[aO,aR,aP,aQ]
 repeat (go_big_quiet_step (fail))
 refine YE ?_;refine Zc ?_;intro w8 aT hF;have h5:DgTo w8 w8.heap.size (.slice A5 (ag (N.natAbs/G)) c5) (N.natAbs/G) (ag (N.natAbs/G)):=hF 26;have h6:DgTo w8 w8.heap.size (.slice A6 (ag (D.natAbs/G)) c6) (D.natAbs/G) (ag (D.natAbs/G)):=hF 32;have bp:=zh (fj.o.below aT fj.o.lt);have eG:=zh (LS.o.trans (aT.mono LS.o.size));have hs:b1=decide (x.num<0):=by
  have:=M8.o;rw[tL.o.1,HXq.o];exact U2 HD.o (by omega)
 have H5:Y0 (BigAt w8 w8.heap.size b1 (.slice A5 (ag (N.natAbs/G)) c5) x.num):=⟨hs,by
  unfold dF;rw[HXq.o,HL.o.1];exact h5⟩
 have H6:Y0 (BigAt w8 w8.heap.size false (.slice A6 (ag (D.natAbs/G)) c6) (x.den:Int)):=⟨(yC (by omega)).symm,by
  unfold dF;rw[Int.natAbs_natCast,HXq.o,HL.o.2];exact h6⟩
 have dT:=zh (C5 (w:=w) (by omega) eG.o bp.o H5.o H6.o);have q0:=bp.o.cell 0;have q1:=bp.o.cell 1;have q2:=bp.o.cell 2;have q3:=bp.o.cell 3;have f0:=bp.o.frozen 0;have f1:=bp.o.frozen 1;have f2:=bp.o.frozen 2;have f3:=bp.o.frozen 3;simp only[aB,aD,aA] at q0 q1 q2 q3;clear hF aT hs h5 h6 u0 u1 u3;go_wp2_with fail;refine YF (v:=.agg (zD b1 A5 (ag (N.natAbs/G)) c5 false A6 (ag (D.natAbs/G)) c6)) (by simp[results,Tryz.results213,go_sem,q0,q1,q2,q3]) rfl ?_
 exact⟨_,_,_,_,rfl,dT.o.1,dT.o.2.1,dT.o.2.2⟩
theorem Jk {w:World} {q:Rat} {K:Nat} {e:Ending} {w':World} (h:AQ w q e w') (h1:ag q.num.natAbs≤K) (h2:ag q.den≤K):eZ w q K e w':=by
 obtain⟨s1,v1,s2,v2,rfl,hb,h3,h4⟩:=h;exact⟨_,rfl,hb,s1,v1,s2,v2,q.num,(q.den:Int),rfl,h3,h4,by have:=q.den_pos;omega,h1,by rw[Int.natAbs_natCast];exact h2,(Rat.num_divInt_den q).symm⟩
