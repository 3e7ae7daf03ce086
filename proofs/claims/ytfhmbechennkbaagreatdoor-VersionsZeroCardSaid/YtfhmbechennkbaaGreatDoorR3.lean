/- Lemmas. -/
import Derived.Test.YtfhmbechennkbaaGreatDoorC3
import Derived.Test.YtfhmbechennkbaaGreatDoorR2
namespace Go.Proofs.YtfhmbechennkbaaGreatDoor
set_option maxRecDepth 100000
set_option maxHeartbeats 40000000
open Go.RowKit Go.Shelf
def qqD (w:World) (n:Nat) (e:Ending) (w':World):Prop:=∃ v,e = .returned v∧Below w.heap.size w w'∧w'.ownsRow w.heap.size 3 1 v (aj n) ((cd n (aj n)).map qc)
theorem ZM (v u:Value) (m n:Nat) (w:World) (hv:dI w w.heap.size v m) (hu:dI w w.heap.size u n) (hm:aj m≤1000000) (hn:aj n≤1000000) :
  Calls Tryz.prog 205 #[v,u] w (qqD w (m+n)):=by
 have HDm:Y0 (∀ W,Below w.heap.size w W→∀ i,i≤maxLen→Calls Tryz.prog 208 #[v,.int .i64 (i:Nat)] W fun e w'=>e = .returned (.int .i64 (ay m i:Nat))∧W=w'):=fun W hb i hi=>pA v m i W (DgTo.grow hv hb) hi
 have Oq:Y0 (∀ W,Below w.heap.size w W→∀ i,i≤maxLen→Calls Tryz.prog 208 #[u,.int .i64 (i:Nat)] W fun e w'=>e = .returned (.int .i64 (ay n i:Nat))∧W=w'):=fun W hb i hi=>pA u n i W (DgTo.grow hu hb) hi
 have hmn:aj (m+n)≤1000001:=oT hm hn
 obtain⟨A1,c1,rfl,-,-,-⟩:=hv.open_
 obtain⟨A2,c2,rfl,-,-,-⟩:=hu.open_
 clear hv hu
 go_enter Tryz.func205,Tryz.ntmps205
 go_wp2_with fail
 go_loopw [7,6,5] (fun ix cx ox wr=>∃ i:Nat,i≤aj (m+n)∧ix = .int .i64 i∧cx = .int .i64 (cP m n i:Nat)∧Y0 (wr.ownsRow w.heap.size 3 1 ox i ((cd (m+n) i).map qc))∧Y0 (Below w.heap.size w wr)) (fun ix _ _ _=>aj (m+n)-(intOf ix).toNat)
 case atStart=>exact⟨0,yI _,rfl,by rw[BK];rfl,yJ _ _ _ _,yB _ _⟩
 obtain⟨i,hi,rfl,rfl,HO,HB⟩:=hrel
 rename_i ox wr
 have k0:(0:Int)≤(i:Int):=yE _
 have Cg:=Nl m n i
 have hcy:=sD m n i
 by_cases aw:i<aj (m+n)
 ·have hc:(decide (i<aj m)=true)∨(decide (i<aj m)=false∧decide (i<aj n)=true)∨(decide (i<aj m)=false∧decide (i<aj n)=false∧decide (0<cP m n i)=true):=by
   by_cases d1:i<aj m
   ·exact .inl (yD d1)
   by_cases d2:i<aj n
   ·exact .inr (.inl ⟨yC d1,yD d2⟩)
   exact .inr (.inr ⟨yC d1,yC d2,yD (by have:=Cg.2 aw;omega)⟩)
  have b1:=dO m i
  have b2:=dO n i
  have e1:=I4 m n i
  have e2:=AE m n i
  have H1:=HDm.o wr HB.o i (by unfold maxLen;omega)
  have H2:=Oq.o wr HB.o i (by unfold maxLen;omega)
  generalize cW:ay m i=x1 at *
  generalize cT:ay n i=x2 at *
  generalize hx3:cP m n i=x3 at *
  have v1:IntKind.i64.wrap ((x1:Int)+(x2:Int))=((x1+x2:Nat):Int):=(yF _ (by omega)).trans (by omega)
  have v2:IntKind.i64.wrap (((x1+x2:Nat):Int)+(x3:Int))=((x1+x2+x3:Nat):Int):=(yF _ (by omega)).trans (by omega)
  have HM:Y0 (((x1:Int)+(x2:Int)+(x3:Int)) % 16777216=((ay (m+n) i:Nat):Int)):=by unfold Y0;omega
  have HQ:Y0 (((x1:Int)+(x2:Int)+(x3:Int)) / 16777216=((cP m n (i+1):Nat):Int)):=by unfold Y0;omega
  have cD:=dO (m+n) i
  have NC:=sD m n (i+1)
  clear e1 e2 Cg cW cT hx3
  rcases hc with d1 | ⟨d1,d2⟩ | ⟨d1,d2,d3⟩
  all_goals
   go_wp2_with fail
   refine (H1).mono ?_
   rintro e w2 ⟨rfl,rfl⟩
   go_wp2_with fail
   refine (H2).mono ?_
   rintro e w3 ⟨rfl,rfl⟩
   have bY:=HB
   have FB:=HO.o
   clear H1 H2 HO
   go_wp2_with (at_builtin;refine cA _ rfl (.tmp 34) (.tmp 37) 22 rfl w.heap.size 3 kV Tryz.underlying22 rfl _ i _ rfl FB (.int .i64 (((x1:Int)+(x2:Int)+(x3:Int)) % 16777216)) rfl rfl (by unfold maxLen;omega) (by omega) bY.o.size ?_;intro g cap w4 bh bq vB jA;have dU:=zh (bY.o.grown bq bY.o.size (fun k hk=>(FB.lt k hk).1));have qo:=zh (oz (by rw[HM.o]) bh);clear bh bq jA)
   clear FB bY
   go_roundw
   case rel=>exact⟨i+1,by omega,by go_num,by rw[HQ.o],qo,dU⟩
   simp[intOf];omega
 have hc:decide (i<aj m)=false∧decide (i<aj n)=false∧decide (0<cP m n i)=false:=by
  have h1:¬ (i<aj m∨i<aj n∨0<cP m n i):=fun h=>aw (Cg.1 h)
  exact⟨yC (by omega),yC (by omega),yC (by omega)⟩
 obtain⟨d1,d2,d3⟩:=hc
 have YY:i=aj (m+n):=by omega
 have hF:=HO.o
 rw[YY] at hF
 have HF:=zh hF
 clear Cg YY hF
 generalize cP m n i=x3 at *
 go_wp2_with fail
 go_ret
 exact⟨_,rfl,HB.o,HF.o⟩
theorem Pu:(Tryz.prog.info? 22).map (fun i=>(i.zero,i.size,i.bytes))=some (some (.slice none 0 0),1,24):=by kernel_rfl
theorem Aw (w:World) (t:TypeId) (u:Value):(w.alloc (.cells #[u] t)).ownsRow w.heap.size t 1 (.slice (some ⟨w.heap.size,0,none⟩) 1 1) 1 [u] :=
 ⟨by simp,.inr ⟨w.heap.size,1,#[u],rfl,yA _,heap_alloc_new w _,yA _,by unfold maxLen;decide,rfl,by simp⟩⟩
theorem BD:aj 1=1:=by
 have h1:aj 1≤1:=jE (by decide)
 have h2:aj 1≠0:=fun e=>absurd (oS.1 e) (by decide)
 omega
theorem ZR (w:World):dI (w.alloc (.cells #[.int .i64 1] 3)) (w.alloc (.cells #[.int .i64 1] 3)).heap.size (.slice (some ⟨w.heap.size,0,none⟩) 1 1) 1:=by
 unfold dI
 rw[BD]
 exact kq (Aw w 3 (.int .i64 1))
def QEl (wr:World) (B:Nat) (u:Value) (x:Nat):Prop:=dI wr B u x∨wr.ownsRow B 3 1 u (aj x) ((cd x (aj x)).map qc)
theorem QEl.at_ {wr:World} {B:Nat} {u:Value} {x:Nat} (h:QEl wr B u x) (hB:B≤wr.heap.size):dI wr wr.heap.size u x:=by
 rcases h with h | h
 ·exact DgTo.mono h hB
 exact kq h
theorem QEl.below {wr w':World} {B:Nat} {u:Value} {x:Nat} (h:QEl wr B u x) (hB:B≤wr.heap.size) (hb:Below wr.heap.size wr w'):QEl w' B u x:=by
 rcases h with h | h
 ·exact .inl (DgTo.below h hb hB)
 exact .inr (AH h hb)
theorem Ng {w w':World} {B B' e t s m n:Nat} {v u:Value} {xs ys:List Value} (h:w.ownsRow B e 1 v n xs) (hg:w.grownBy w' v.ownBlock) (hk:w.ownsRow B' t s u m ys) (ht:t≠e):w'.ownsRow B' t s u m ys:=by
 refine hk.kept hg ?_
 rcases h.2 with⟨rfl,_⟩ | ⟨g,cap,cur,rfl,_,jA,_⟩
 ·exact Classical.em _
 exact Df hk fun r e1 cs f h2=>by
  obtain rfl:g=r:=by simpa[Value.ownBlock] using e1
  rw[jA] at h2
  injection h2 with h2
  injection h2 with _ h2 _
  exact ht h2.symm
theorem OY {w:World} {B B' e s n:Nat} {v:Value} {xs:List Value} (h:w.ownsRow B e s v n xs) (hB:B'≤B):w.ownsRow B' e s v n xs:=by
 refine⟨h.1,?_⟩
 rcases h.2 with h | ⟨g,cap,cur,e,hb,r⟩
 ·exact .inl h
 exact .inr ⟨g,cap,cur,e,yH hB hb,r⟩
structure QuoS (w wr:World) (rv:Value) (b:Nat) (vs:List Value) (n:Nat):Prop where
 bel:Below w.heap.size w wr
 own:wr.ownsRow w.heap.size 22 1 rv n vs
 el:∀ i,i<n→∃ u,vs[i]? = some u∧QEl wr w.heap.size u (b*2 ^ i)
section
variable {w wr w2 w':World} {rv u v':Value} {b n:Nat} {vs:List Value}
theorem QuoS.below (h:QuoS w wr rv b vs n) (hb:Below wr.heap.size wr w'):QuoS w w' rv b vs n :=
 ⟨h.bel.trans (hb.mono h.bel.size),AH h.own hb,fun i hi=>let ⟨u,e,hu⟩:=h.el i hi;⟨u,e,hu.below h.bel.size hb⟩⟩
theorem QuoS.push (h:QuoS w w2 rv b vs n) (hu:w2.ownsRow w.heap.size 3 1 u (aj (b*2 ^ n)) ((cd (b*2 ^ n) (aj (b*2 ^ n))).map qc)) (ho:w'.ownsRow w.heap.size 22 1 v' (n+1) (vs++[u])) (hg:w2.grownBy w' rv.ownBlock):QuoS w w' v' b (vs++[u]) (n+1):=by
 have hl:vs.length=n:=by have:=h.own.1;omega
 have jr:Below w.heap.size w2 w':=(yB _ w2).grown hg h.bel.size (fun k e=>(h.own.lt k e).1)
 refine⟨h.bel.trans jr,ho,fun i hi=>?_⟩
 rcases Nat.lt_or_ge i n with h1 | h1
 ·obtain⟨x,e,hx⟩:=h.el i h1
  refine⟨x,by rw[List.getElem?_append_left (by omega)];exact e,?_⟩
  rcases hx with hx | hx
  ·exact .inl (DgTo.below hx jr (yA _))
  exact .inr (Ng h.own hg hx (by decide))
 obtain rfl:i=n:=by omega
 exact⟨u,by rw[List.getElem?_append_right (by omega),hl,Nat.sub_self];rfl,.inr (Ng h.own hg hu (by decide))⟩
theorem QuoS.start (hu:dI w w.heap.size u b):QuoS w (w.alloc (.cells #[u] 22)) (.slice (some ⟨w.heap.size,0,none⟩) 1 1) b [u] 1:=by
 have hb:Below w.heap.size w (w.alloc (.cells #[u] 22)):=(yB _ w).alloc (yA _) _
 refine⟨hb,Aw _ _ _,fun i hi=>?_⟩
 obtain rfl:i=0:=by omega
 exact⟨u,rfl,.inl (by rw[Nat.pow_zero,Nat.mul_one];exact DgTo.below hu hb (yA _))⟩
end
theorem EE {K a b j:Nat} (ha:aj a≤K) (jr:0<b) (h:j=0∨b*2 ^ (j-1)≤a):j≤24*K:=by
 rcases h with rfl | h
 ·exact yI _
 have h1:1*2 ^ (j-1)≤b*2 ^ (j-1):=Nat.mul_le_mul_right _ jr
 have h2:=dv.2 ha
 rw[qV] at h2
 rw[Nat.one_mul] at h1
 have:=(Nat.pow_lt_pow_iff_right (a:=2) (by decide)).1 (Nat.lt_of_le_of_lt (yH h1 h) h2)
 omega
theorem qxw {K a b j:Nat} (ha:aj a≤K) (hb:aj b≤K) (h:j=0∨b*2 ^ (j-1)≤a):aj (b*2 ^ j)≤K+1:=by
 rcases j with _ | j
 ·rw[Nat.pow_zero,Nat.mul_one];omega
 rcases h with h | h
 ·omega
 have h1:aj (b*2 ^ j)≤K:=yH (cC h) ha
 rw[show b*2 ^ (j+1)=b*2 ^ j+b*2 ^ j by rw[yW,← yY];omega]
 exact oT h1 h1
theorem Vv {a b i:Nat} (jr:0<b):(b*2 ^ i≤a % (b*2 ^ (i+1))→a / (b*2 ^ i)=a / (b*2 ^ (i+1))+a / (b*2 ^ (i+1))+1∧a % (b*2 ^ i)=a % (b*2 ^ (i+1))-b*2 ^ i)∧(a % (b*2 ^ (i+1))<b*2 ^ i→a / (b*2 ^ i)=a / (b*2 ^ (i+1))+a / (b*2 ^ (i+1))∧a % (b*2 ^ i)=a % (b*2 ^ (i+1))):=by
 have hc:0<b*2 ^ i:=Nat.mul_pos jr (Nat.two_pow_pos i)
 have e:b*2 ^ (i+1)=b*2 ^ i*2:=by rw[yW,yY]
 rw[e]
 generalize b*2 ^ i=c at *
 have h1:=Nat.div_add_mod a (c*2)
 have h2:=Nat.mod_lt a (show 0<c*2 by omega)
 generalize a / (c*2)=q at *
 generalize a % (c*2)=r at *
 have h3:c*2*q=c*(q+q):=by rw[yY,Nat.two_mul]
 constructor
 ·intro h
  have:=(Nat.div_mod_unique (a:=a) (b:=c) (d:=q+q+1) (c:=r-c) hc).2 ⟨by rw[yX c (q+q) 1,Nat.mul_one];omega,by omega⟩
  exact this
 intro h
 have:=(Nat.div_mod_unique (a:=a) (b:=c) (d:=q+q) (c:=r) hc).2 ⟨by omega,h⟩
 exact this
theorem OT {a b j:Nat} (h:a<b*2 ^ j):a / (b*2 ^ (j+1))=0∧a % (b*2 ^ (j+1))=a:=by
 have h1:b*2 ^ j≤b*2 ^ (j+1):=Nat.mul_le_mul_left _ (Nat.pow_le_pow_right (by decide) (YK _))
 exact⟨Nat.div_eq_of_lt (by omega),Nat.mod_eq_of_lt (by omega)⟩
theorem ZS (w:World):dI w w.heap.size (.slice none 0 0) 0:=by
 unfold dI
 rw[iu]
 exact kq (yJ w w.heap.size _ _)
theorem wj (v u:Value) (a b K:Nat) (w:World) (hv:dI w w.heap.size v a) (hu:dI w w.heap.size u b) (hK:K≤300000) (ha:aj a≤K) (hb:aj b≤K) (jr:0<b) :
  Calls Tryz.prog 178 #[v,u] w (tV w (a / b)):=by
 obtain⟨A1,c1,rfl,-,-,-⟩:=DgTo.open_ hv
 obtain⟨A2,c2,rfl,-,-,-⟩:=DgTo.open_ hu
 have HA:=zh hv
 have qm:=zh (QuoS.start hu)
 have HK:Y0 (K≤300000):=hK
 have HLa:=zh ha
 have HLb:=zh hb
 have Hb0:=zh jr
 have Yu:=zh HLa.o
 have vqx:=zh HLb.o
 generalize YW:aj a=la at HA HLa ⊢
 have vqR:=zh YW
 generalize hlb:aj b=lb at qm HLb ⊢
 have HA1:Y0 (dI (w.alloc (.cells #[.slice A2 lb c2] 22)) w.heap.size (.slice A1 la c1) a):=DgTo.below HA.o qm.o.bel (yA _)
 clear hv hu hK ha hb jr YW hlb
 go_enter Tryz.func178,Tryz.ntmps178
 go_wp2_with fail
 go_loopg [5] (24*K+1) (fun gk rx wr=>∃ j g cap vs,gk+j=24*K+1∧rx = .slice (some ⟨g,0,none⟩) (j+1) cap∧Y0 (QuoS w wr (.slice (some ⟨g,0,none⟩) (j+1) cap) b vs (j+1))∧Y0 (j=0∨b*2 ^ (j-1)≤a))
 case atStart=>exact⟨0,_,_,_,rfl,rfl,qm,.inl rfl⟩
 clear qm HA1
 obtain⟨j,g,cap,vs,qi,rfl,HS,HP⟩:=hrel
 have hj:=EE Yu.o Hb0.o HP.o
 have HDl:=zh (qxw Yu.o vqx.o HP.o)
 have hK:=HK.o
 obtain⟨x,hx,hQ⟩:=HS.o.el j (Nat.lt_succ_self j)
 have y0:=(HS.o.own.cellAt j (by omega)).trans hx
 have HX:=zh (hQ.at_ HS.o.bel.size)
 have HAr:Y0 (dI wr wr.heap.size (.slice A1 la c1) a):=(DgTo.below HA.o HS.o.bel (yA _)).mono HS.o.bel.size
 obtain⟨A4,c4,rfl,-,-,-⟩:=DgTo.open_ HX.o
 obtain⟨n,hn⟩:∃ n,n=j+1:=⟨_,rfl⟩
 have Hn:=zh hn
 rw[← hn] at HS ⊢
 have v0:IntKind.i64.wrap ((n:Int)-1)=(j:Int):=(yF _ (by omega)).trans (by omega)
 have v1:(j:Int)<(n:Int):=by omega
 have hnb:n≤7200001:=by omega
 have Hg:=zh qi
 clear hx hQ hn qi
 go_wp2_with fail
 refine (lW _ _ (b*2 ^ j) a _ HX.o HAr.o).mono ?_
 rintro e w3 ⟨rfl,cO⟩
 have jS:=zh (HS.o.below cO)
 have HX3:=zh (DgTo.grow HX.o cO)
 have rq:=zh (DgTo.grow HAr.o cO)
 have y3:=(cO.cell (p:=⟨g,j,none⟩) (HS.o.own.lt g rfl).2).trans y0
 clear cO y0 HX HAr HS
 by_cases aw:a<b*2 ^ j
 ·rw[yD aw]
  have HQ0:=zh (OT aw)
  have qj7:=zh Yu.o
  have HAs:Y0 (dI w3 w3.heap.size (.slice A1 la c1) (a % (b*2 ^ n))):=by rw[Hn.o,HQ0.o.2];exact rq.o
  clear aw HP HDl HX3 y3 Hg
  go_wp2_with fail
  go_loopw [0,7,8] (fun va vq kx wr=>∃ m:Nat,m≤n∧kx = .int .i64 ((m:Int)-1)∧Y0 (dI wr wr.heap.size va (a % (b*2 ^ m)))∧Y0 (dI wr wr.heap.size vq (a / (b*2 ^ m)))∧Y0 (QuoS w wr (.slice (some ⟨g,0,none⟩) n cap) b vs n)) (fun _ _ kx _=>(intOf kx+1).toNat)
  case atStart=>exact⟨n,yA _,by have:=Hn.o;go_num,HAs,by rw[Hn.o,HQ0.o.1];exact ZS _,jS⟩
  clear rq jS HQ0
  obtain⟨m,hm,rfl,HR,HQ,HS⟩:=hrel
  rcases m with _ | i
  ·rw[Nat.pow_zero,Nat.mul_one] at HQ
   obtain⟨A7,c7,rfl,-,-,-⟩:=DgTo.open_ HQ.o
   clear hm
   go_wp2_with fail
   refine (nJ false _ (a / b) (aj (a / b)) _ HQ.o (yA _)).mono ?_
   rintro e w9 ⟨v9,rfl,ja,F9⟩
   obtain⟨A9,c9,rfl,-,-,-⟩:=DgTo.open_ F9
   have Ww:=fun W=>mq (false&&decide (a / b≠0)) A9 (aj (a / b)) c9 W
   rw[Bool.false_and] at Ww
   have vN:=zh F9
   have lJ:=zh (HS.o.bel.trans (ja.mono HS.o.bel.size))
   clear F9 ja HS HQ HR
   go_wp2_with fail
   go_ret
   exact⟨_,rfl,lJ.o,vN.o⟩
  have e0:((i+1:Nat):Int)-1=(i:Int):=by omega
  rw[e0]
  have aS:=zh (Vv (a:=a) (i:=i) Hb0.o)
  have HLq:Y0 (aj (a / (b*2 ^ (i+1)))≤K):=yH (cC (Nat.div_le_self _ _)) qj7.o
  have HLr:Y0 (aj (a % (b*2 ^ (i+1)))≤K):=yH (cC (Nat.mod_le _ _)) qj7.o
  have hi:i<n:=by omega
  obtain⟨x,hx,hQ⟩:=HS.o.el i hi
  have y0:=(HS.o.own.cellAt i (by omega)).trans hx
  have HX:=zh (hQ.at_ HS.o.bel.size)
  obtain⟨A4,c4,rfl,-,-,-⟩:=DgTo.open_ HX.o
  obtain⟨A5,c5,e5,-,-,-⟩:=DgTo.open_ HR.o
  obtain⟨A6,c6,e6,-,-,-⟩:=DgTo.open_ HQ.o
  rw[e5] at HR ⊢
  rw[e6] at HQ ⊢
  generalize a % (b*2 ^ (i+1))=r at *
  generalize a / (b*2 ^ (i+1))=q at *
  generalize hc:b*2 ^ i=c at *
  have HC:=zh hc
  have i0:(i:Int)<(n:Int):=by omega
  have v2:IntKind.i64.wrap ((i:Int)-1)=(i:Int)-1:=yF _ (by omega)
  clear hx hQ e5 e6 e0 hc
  go_wp2_with fail
  refine (Em _ _ q q _ HQ.o HQ.o (by have:=HLq.o;have:=HK.o;omega) (by have:=HLq.o;have:=HK.o;omega)).mono ?_
  rintro e w4 ⟨v4,rfl,cD,hq4⟩
  obtain⟨A7,c7,rfl,-,-,-⟩:=DgTo.open_ hq4
  have HQ4:=zh hq4
  have HR4:=zh (DgTo.grow HR.o cD)
  have Yd:=zh (DgTo.grow HX.o cD)
  have iW:=zh (HS.o.below cD)
  have y4:=(cD.cell (p:=⟨g,i,none⟩) (HS.o.own.lt g rfl).2).trans y0
  clear cD hq4 HQ HR HX HS y0
  go_wp2_with fail
  refine (lW _ _ c r _ Yd.o HR4.o).mono ?_
  rintro e w5 ⟨rfl,bg⟩
  have HQ5:=zh (DgTo.grow HQ4.o bg)
  have m8:=zh (DgTo.grow HR4.o bg)
  have HX5:=zh (DgTo.grow Yd.o bg)
  have gD:=zh (iW.o.below bg)
  have y5:=(bg.cell (p:=⟨g,i,none⟩) (iW.o.own.lt g rfl).2).trans y4
  clear bg HQ4 HR4 Yd iW y4
  by_cases aw:r<c
  ·rw[yD aw]
   have HE:=zh (aS.o.2 aw)
   clear aw aS
   go_wp2_with fail
   go_roundw
   case rel=>exact⟨i,by omega,by go_num,by rw[HC.o,HE.o.2];exact m8,by rw[HC.o,HE.o.1];exact HQ5,gD⟩
   simp[intOf] <;> omega
  rw[yC aw]
  have BU:Y0 (c≤r):=Nat.not_lt.1 aw
  have HE:=zh (aS.o.1 BU.o)
  clear aw aS
  go_wp2_with fail
  refine (rF _ _ r c _ m8.o HX5.o (by have:=HLr.o;have:=HK.o;omega) BU.o).mono ?_
  rintro e w8 ⟨v8,rfl,aM,D7⟩
  obtain⟨A8,c8,rfl,-,-,-⟩:=DgTo.open_ D7
  have qn:=zh D7
  have HQ8:=zh (DgTo.grow HQ5.o aM)
  have iV:=zh (gD.o.below aM)
  clear aM D7 HX5 HQ5 gD m8 y5
  go_wp2_with fail
  refine (nJ false _ (r-c) (aj r) _ qn.o (cC (Nat.sub_le _ _))).mono ?_
  rintro e w9 ⟨v9,rfl,ja,F9⟩
  obtain⟨A9,c9,rfl,-,-,-⟩:=DgTo.open_ F9
  have Ww:=fun W=>mq (false&&decide (r-c≠0)) A9 (aj (r-c)) c9 W
  rw[Bool.false_and] at Ww
  have vN:=zh F9
  have HQ9:=zh (DgTo.grow HQ8.o ja)
  have ny:=zh (iV.o.below ja)
  have iP:Below w9.heap.size w9 (w9.alloc (.cells #[.int .i64 1] 3)):=(yB _ w9).alloc (yA _) _
  have QR:=zh (ZR w9)
  have BX:=zh (DgTo.grow vN.o iP)
  have HQa:=zh (DgTo.grow HQ9.o iP)
  have Zv:=zh (ny.o.below iP)
  clear F9 ja qn HQ8 iV iP vN HQ9 ny
  go_wp2_with fail
  refine (Em _ _ (q+q) 1 _ HQa.o QR.o (by have:=oT HLq.o HLq.o;have:=HK.o;omega) (by rw[BD];decide)).mono ?_
  rintro e w6 ⟨v6,rfl,iq,hq6⟩
  have HQ6:=zh hq6
  have vm:=zh (DgTo.grow BX.o iq)
  have HS6:=zh (Zv.o.below iq)
  clear iq hq6 BX HQa Zv QR
  go_wp2_with fail
  go_roundw
  case rel=>exact⟨i,by omega,by go_num,by rw[HC.o,HE.o.2];exact vm,by rw[HC.o,HE.o.1];exact HQ6,HS6⟩
  simp[intOf] <;> omega
 rw[yC aw]
 have BU:Y0 (b*2 ^ j≤a):=Nat.not_lt.1 aw
 have HE:Y0 (b*2 ^ j+b*2 ^ j=b*2 ^ (j+1)):=by unfold Y0;rw[Nat.pow_succ,← Nat.mul_assoc];omega
 clear aw
 go_wp2_with fail
 refine (ZM _ _ (b*2 ^ j) (b*2 ^ j) _ HX3.o HX3.o (by have:=HDl.o;omega) (by have:=HDl.o;omega)).mono ?_
 rintro e w4 ⟨v4,rfl,cD,hO4⟩
 rw[HE.o] at hO4
 have iW:=zh (jS.o.below cD)
 rw[Hn.o] at iW
 have qo:=zh (OY hO4 jS.o.bel.size)
 obtain⟨A6,c6,e6⟩:=lY hO4
 rw[e6] at qo ⊢
 generalize hl6:aj (b*2 ^ (j+1))=l6 at qo ⊢
 have hO:=iW.o.own
 have dK:=iW.o.bel.size
 rw[← Hn.o] at hO
 have Qw:Y0 (∀ v' w1,w1.ownsRow w.heap.size 22 1 v' (n+1) (vs++[.slice A6 l6 c6])→w4.grownBy w1 (Value.slice (some ⟨g,0,none⟩) n cap).ownBlock→QuoS w w1 v' b (vs++[.slice A6 l6 c6]) (n+1)):=fun v' w1 ho hg=>by
  have hh:=iW.o.push (u:=.slice A6 l6 c6) (by rw[hl6];exact qo.o) (by rw[← Hn.o];exact ho) (by exact hg)
  rw[← Hn.o] at hh
  exact hh
 clear e6 hl6 cD hO4 jS HX3 rq y3
 go_wp2_with (at_builtin;refine cA _ rfl (.tmp 26) (.tmp 30) 251 rfl w.heap.size 22 Pu Tryz.underlying251 rfl _ n _ rfl hO (.slice A6 l6 c6) rfl rfl (by unfold maxLen;omega) (by omega) dK ?_;intro g4 vqm w5 bh bq vB jA;have gD:=zh (Qw.o _ _ bh bq);clear bh bq jA vB)
 clear hO Qw
 go_roundg (24*K+1-(j+1))
 case rel=>exact⟨j+1,g4,vqm,_,by have:=Hg.o;have:=EE Yu.o Hb0.o (.inr (by rw[Nat.add_sub_cancel];exact BU.o));omega,by rw[Hn.o],by rw[Hn.o] at gD;exact gD,.inr (by rw[Nat.add_sub_cancel];exact BU.o)⟩
 have:=Hg.o;have:=EE Yu.o Hb0.o (.inr (by rw[Nat.add_sub_cancel];exact BU.o));omega
def fa (w:World) (q:Rat) (K:Nat) (e:Ending) (w':World):Prop:=∃ v,e = .returned v∧Below w.heap.size w w'∧ExqAt w' w'.heap.size v q K
theorem bR {w:World} {B:Nat} {x:Value} {q:Rat} {K:Nat} (h:ExqAt w B x q K):∃ s1 A1 l1 c1 s2 A2 l2 c2 N D,x = .agg (zD s1 A1 l1 c1 s2 A2 l2 c2)∧BigAt w B s1 (.slice A1 l1 c1) N∧BigAt w B s2 (.slice A2 l2 c2) D∧0<D∧aj N.natAbs≤K∧aj D.natAbs≤K∧q=Rat.divInt N D:=by
 obtain⟨s1,v1,s2,v2,N,D,rfl,h1,h2,h3⟩:=h
 obtain⟨A1,c1,rfl,-⟩:=DgTo.open_ h1.2
 obtain⟨A2,c2,rfl,-⟩:=DgTo.open_ h2.2
 exact⟨s1,A1,_,c1,s2,A2,_,c2,N,D,rfl,h1,h2,h3⟩
theorem Zg {f:FuncId} {args:Array Value} {w:World} {q:Rat} {K:Nat} (h:Calls Tryz.prog f args w (fa w q K)):Calls Tryz.prog f args w fun e w'=>∃ v,e = .returned v∧Below w.heap.size w w'∧(jb q K).σ v∧(jb q K).φ v w':=h.mono fun e w' h=>by
 obtain⟨v,rfl,hb,h1⟩:=h
 obtain⟨s1,A1,l1,c1,s2,A2,l2,c2,N,D,rfl,h2⟩:=bR h1
 exact⟨_,rfl,hb,⟨s1,A1,l1,c1,s2,A2,l2,c2,rfl⟩,h1⟩
theorem qqN (s:Bool) (v:Value) (n:Int) (w:World) (hv:BigAt w w.heap.size s v n):Calls Tryz.prog 176 #[.agg #[.bool s,v]] w (sM w (-n)):=(qzK s v n w hv).mono fun e w' h=>by
 obtain⟨rfl,hb⟩:=h
 have h2:=DgTo.grow hv.2 hb
 exact⟨_,v,rfl,hb,rfl,by rw[Int.natAbs_neg];exact h2⟩
theorem PU {m n:Int} {K:Nat} (h1:aj m.natAbs≤K) (h2:aj n.natAbs≤K):aj (m+n).natAbs≤K+1:=yH (cC (Int.natAbs_add_le m n)) (oT h1 h2)
theorem qqj {N D:Int} (hD:0<D) (h:0<Rat.divInt N D):0<N:=by
 obtain⟨h1,h2⟩:=Js (N:=N) hD
 rcases Int.lt_trichotomy N 0 with h3 | h3 | h3
 ·exact absurd h (Rat.not_lt.2 (Rat.le_of_lt (h1.2 h3)))
 ·rw[h2.2 h3] at h
  exact absurd h (Rat.lt_irrefl)
 exact h3
theorem jC {w w8:World} {R:Nat} (hR:w.heap.size≤R) (hb:Below w.heap.size w w8) (hD:Blk w8 R 175 (zD false none 0 0 false none 0 0)) {s1 s2:Bool} {v1 v2:Value} {q:Rat} {K:Nat} (hv:ExqAt w8 w8.heap.size (.agg #[.bool s1,v1,.bool s2,v2]) q K) :
  Below w.heap.size w ((((w8.setCell ⟨R,0,none⟩ (.bool s1)).setCell ⟨R,1,none⟩ v1).setCell ⟨R,2,none⟩ (.bool s2)).setCell ⟨R,3,none⟩ v2)∧ExqAt ((((w8.setCell ⟨R,0,none⟩ (.bool s1)).setCell ⟨R,1,none⟩ v1).setCell ⟨R,2,none⟩ (.bool s2)).setCell ⟨R,3,none⟩ v2) ((((w8.setCell ⟨R,0,none⟩ (.bool s1)).setCell ⟨R,1,none⟩ v1).setCell ⟨R,2,none⟩ (.bool s2)).setCell ⟨R,3,none⟩ v2).heap.size (.agg #[.bool s1,v1,.bool s2,v2]) q K:=by
 have h1:=hD.set_ 0 (.bool s1)
 have h2:=h1.set_ 1 v1
 have h3:=h2.set_ 2 (.bool s2)
 have z0:=hD.cell 0
 have z1:=h1.cell 1
 have z2:=h2.cell 2
 have z3:=h3.cell 3
 simp only[aP,aO] at z0
 have oI:∀ {v:Value} {x k:Nat},DgTo w8 w8.heap.size v x k→DgTo ((((w8.setCell ⟨R,0,none⟩ (.bool s1)).setCell ⟨R,1,none⟩ v1).setCell ⟨R,2,none⟩ (.bool s2)).setCell ⟨R,3,none⟩ v2) ((((w8.setCell ⟨R,0,none⟩ (.bool s1)).setCell ⟨R,1,none⟩ v1).setCell ⟨R,2,none⟩ (.bool s2)).setCell ⟨R,3,none⟩ v2).heap.size v x k:=fun h=>by
  have g1:=DgTo.set h z0 (fun z=>by simp) (.bool s1)
  have g2:=DgTo.set g1 (u:=.slice none 0 0) z1 (fun z=>by simp) v1
  have g3:=DgTo.set g2 (u:=.bool false) z2 (fun z=>by simp) (.bool s2)
  have g4:=DgTo.set g3 (u:=.slice none 0 0) z3 (fun z=>by simp) v2
  exact DgTo.mono g4 (by simp[World.setCell])
 obtain⟨_,_,_,_,N,D,e,h4,h5,h6⟩:=hv
 cases e
 exact⟨(((hb.setCell (p:=⟨R,0,none⟩) hR _).setCell (p:=⟨R,1,none⟩) hR _).setCell (p:=⟨R,2,none⟩) hR _).setCell (p:=⟨R,3,none⟩) hR _,_,_,_,_,N,D,rfl,⟨h4.1,oI h4.2⟩,⟨h5.1,oI h5.2⟩,h6⟩
theorem ft (v u:Value) (x y:Rat) (K M:Nat) (w:World) (hv:ExqAt w w.heap.size v x K) (hu:ExqAt w w.heap.size u y M) (hK:K+M+1≤400000) :
  Calls Tryz.prog 133 #[v,u] w (fa w (x+y) (K+M+1)):=by
 obtain⟨fJ,fK,fH,fI,fw,fx,fu,fv,N,D,rfl,cW,cT,hD,uY,nh,Py⟩:=bR hv
 obtain⟨kl,ko,ki,kj,jI,jJ,jG,jH,N2,E,rfl,Be,Bd,hE,ES,li,QE⟩:=bR hu
 have HEq:Y0 (x+y=Rat.divInt (N*E+N2*D) (D*E)):=by rw[Py,QE];exact Xl hD hE
 have HP:Y0 (0<D*E):=Int.mul_pos hD hE
 have Q0:Y0 (aj (N*E).natAbs≤K+M):=by unfold Y0;rw[Int.natAbs_mul];exact iS uY li
 have JN:Y0 (aj (N2*D).natAbs≤K+M):=by unfold Y0;rw[Int.natAbs_mul,Nat.mul_comm];exact iS nh ES
 have rm:Y0 (aj (N*E+N2*D).natAbs≤K+M+1):=PU Q0.o JN.o
 have gx:Y0 (aj (D*E).natAbs≤K+M+1):=by unfold Y0;rw[Int.natAbs_mul];exact Nat.le_succ_of_le (iS nh li)
 have DZ:=zh cW
 have vk:=zh cT
 have My:=zh Be
 have JJ:=zh Bd
 have HK:=zh hK
 have Fy:=zh uY
 have eK:=zh nh
 have HN2:=zh ES
 have nD:=zh li
 have HV:=zh hv
 have HU:=zh hu
 have po:=zh (cf w 175 175 175 (zD fJ fK fH fI fw fx fu fv) (zD kl ko ki kj jI jJ jG jH) (zD false none 0 0 false none 0 0))
 clear hv hu cW cT Be Bd uY nh ES li hK hD hE Py QE
 go_enter Tryz.func133,Tryz.ntmps133
 go_wp2_with fail
 generalize ((w.alloc (.cells (zD fJ fK fH fI fw fx fu fv) 175)).alloc (.cells (zD kl ko ki kj jI jJ jG jH) 175)).alloc (.cells (zD false none 0 0 false none 0 0) 175)=W3 at *
 obtain⟨B1,B2,B3,bw⟩:=po.o
 have iZ:=B1.cell 0
 have j9:=B1.cell 1
 have mY:=B1.cell 2
 have ow:=B1.cell 3
 have jX:=B2.cell 0
 have jT:=B2.cell 1
 have qz:=B2.cell 2
 have qy:=B2.cell 3
 simp only[aP,aQ,aO] at iZ j9 mY ow jX jT qz qy
 have tX:=YL iZ
 have tW:=YL j9
 have FW:=YL mY
 have Ku:=YL ow
 have Cb:=YL jX
 have vu:=YL jT
 have Kt:=YL qz
 have Ks:=YL qy
 have B3:=zh B3
 have bw:=zh bw
 clear po B1 B2 iZ j9 mY ow jX jT qz qy
 refine ag 17 (fun i=>if i=4 then some (Kd (N*E)) else if i=9 then some (Kd (N2*D)) else if i=10 then some (Kd (N*E+N2*D)) else if i=15 then some (Kd (D*E)) else none) (by kernel_rfl) (by kernel_rfl) ?_
 simp only[aU,aT,aW,aX]
 refine ae 4 (by kernel_rfl) (by rfl) (by decide) ?_
 simp only[aU,aT,aW,aX]
 repeat (go_big_quiet_step (fail))
 refine YH ?_
 refine af rfl rfl ?_ ?_
 ·intro w1 ao hk
  have hb:=bw.o.trans (ao.mono bw.o.size)
  have hC:=ea (ic _ _ _ _ N E w1 (DZ.o.grow hb) (JJ.o.grow hb) (by have:=Fy.o;have:=HK.o;omega) (by have:=nD.o;have:=HK.o;omega))
  exact⟨175,#[.agg #[.bool fJ,.slice fK fH fI],.agg #[.bool jI,.slice jJ jG jH]],by go_simp,hC⟩
 rintro _ ⟨Et,Eu,Es,rfl⟩
 simp only[Act.put,aJ,aI,aH]
 refine ae 4 (by kernel_rfl) (by rfl) (by decide) ?_
 simp only[aU,aT,aW,aX]
 repeat (go_big_quiet_step (fail))
 refine YH ?_
 refine af rfl rfl ?_ ?_
 ·intro w1 ao hk
  have hb:=bw.o.trans (ao.mono bw.o.size)
  have hC:=ea (ic _ _ _ _ N2 D w1 (My.o.grow hb) (vk.o.grow hb) (by have:=HN2.o;have:=HK.o;omega) (by have:=eK.o;have:=HK.o;omega))
  exact⟨175,#[.agg #[.bool kl,.slice ko ki kj],.agg #[.bool fw,.slice fx fu fv]],by go_simp,hC⟩
 rintro _ ⟨mJ,mK,mI,rfl⟩
 simp only[Act.put,aJ,aI,aH]
 refine af rfl rfl ?_ ?_
 ·intro w1 ao hk
  have hb:=bw.o.trans (ao.mono bw.o.size)
  obtain⟨_,_,e9,h9⟩:∃ s v,Value.agg #[.bool Et,.slice Eu (aj (N*E).natAbs) Es] = .agg #[.bool s,v]∧BigAt w1 w1.heap.size s v (N*E):=hk 9 (by decide)
  cases e9
  obtain⟨_,_,e14,QN⟩:∃ s v,Value.agg #[.bool mJ,.slice mK (aj (N2*D).natAbs) mI] = .agg #[.bool s,v]∧BigAt w1 w1.heap.size s v (N2*D):=hk 14 (by decide)
  cases e14
  have hC:=ea (qzJ _ _ _ _ (N*E) (N2*D) w1 h9 QN (by have:=Q0.o;have:=HK.o;omega) (by have:=JN.o;have:=HK.o;omega))
  exact⟨174,#[.agg #[.bool Et,.slice Eu (aj (N*E).natAbs) Es],.agg #[.bool mJ,.slice mK (aj (N2*D).natAbs) mI]],by go_simp,hC⟩
 rintro _ ⟨OR,OS,OQ,rfl⟩
 simp only[Act.put,aJ,aI,aH]
 refine ae 4 (by kernel_rfl) (by rfl) (by decide) ?_
 simp only[aU,aT,aW,aX]
 repeat (go_big_quiet_step (fail))
 refine YH ?_
 refine af rfl rfl ?_ ?_
 ·intro w1 ao hk
  have hb:=bw.o.trans (ao.mono bw.o.size)
  have hC:=ea (ic _ _ _ _ D E w1 (vk.o.grow hb) (JJ.o.grow hb) (by have:=eK.o;have:=HK.o;omega) (by have:=nD.o;have:=HK.o;omega))
  exact⟨175,#[.agg #[.bool fw,.slice fx fu fv],.agg #[.bool jI,.slice jJ jG jH]],by go_simp,hC⟩
 rintro _ ⟨OO,OP,OM,rfl⟩
 simp only[Act.put,aJ,aI,aH]
 refine ae 1 (by kernel_rfl) (by rfl) (by decide) ?_
 simp only[aU,aT,aW,aX]
 repeat (go_big_quiet_step (fail))
 refine YH ?_
 refine Zc ?_
 intro w8 aM hF
 obtain⟨_,_,e1,h1⟩:∃ s v,Value.agg #[.bool OR,.slice OS (aj (N*E+N2*D).natAbs) OQ] = .agg #[.bool s,v]∧BigAt w8 w8.heap.size s v (N*E+N2*D):=hF 15
 cases e1
 obtain⟨_,_,e2,h2⟩:∃ s v,Value.agg #[.bool OO,.slice OP (aj (D*E).natAbs) OM] = .agg #[.bool s,v]∧BigAt w8 w8.heap.size s v (D*E):=hF 20
 cases e2
 have HL:Y0 (ExqAt w8 w8.heap.size (.agg (zD OR OS (aj (N*E+N2*D).natAbs) OQ OO OP (aj (D*E).natAbs) OM)) (x+y) (K+M+1)):=⟨_,_,_,_,N*E+N2*D,D*E,rfl,h1,h2,HP.o,rm.o,gx.o,HEq.o⟩
 clear h1 h2
 have bj:=zh (B3.o.below aM B3.o.lt)
 have dP:=zh (bw.o.trans (aM.mono bw.o.size))
 have dQ:=zh (jC (w:=w) (by omega) dP.o bj.o HL.o)
 have q0:=bj.o.cell 0
 have q1:=bj.o.cell 1
 have q2:=bj.o.cell 2
 have q3:=bj.o.cell 3
 have f0:=bj.o.frozen 0
 have f1:=bj.o.frozen 1
 have f2:=bj.o.frozen 2
 have f3:=bj.o.frozen 3
 simp only[aP,aQ,aO] at q0 q1 q2 q3
 clear hF aM B3 bw tX tW FW Ku Cb vu Kt Ks
 go_wp2_with fail
 refine YI (v:=.agg (zD OR OS (aj (N*E+N2*D).natAbs) OQ OO OP (aj (D*E).natAbs) OM)) (by simp[results,Tryz.results133,go_sem,q0,q1,q2,q3]) rfl ?_
 exact⟨_,rfl,dQ.o.1,dQ.o.2⟩
theorem kh (v u:Value) (x y:Rat) (K M:Nat) (w:World) (hv:ExqAt w w.heap.size v x K) (hu:ExqAt w w.heap.size u y M) (hK:K+M+1≤400000) :
  Calls Tryz.prog 136 #[v,u] w (fa w (x-y) (K+M+1)):=by
 obtain⟨fJ,fK,fH,fI,fw,fx,fu,fv,N,D,rfl,cW,cT,hD,uY,nh,Py⟩:=bR hv
 obtain⟨kl,ko,ki,kj,jI,jJ,jG,jH,N2,E,rfl,Be,Bd,hE,ES,li,QE⟩:=bR hu
 have HE:Y0 (x + -y=x-y):=(Rat.sub_eq_add_neg x y).symm
 have HP:Y0 (0<E):=hE
 have HNa:Y0 (aj (-N2).natAbs≤M):=by unfold Y0;rw[Int.natAbs_neg];exact ES
 have HEq:Y0 (-y=Rat.divInt (-N2) E):=by unfold Y0;rw[QE,Rat.neg_divInt]
 have DZ:=zh cW
 have vk:=zh cT
 have My:=zh Be
 have JJ:=zh Bd
 have HK:=zh hK
 have Fy:=zh uY
 have eK:=zh nh
 have HN2:=zh ES
 have nD:=zh li
 have HV:=zh hv
 have HU:=zh hu
 have po:=zh (cf w 175 175 175 (zD fJ fK fH fI fw fx fu fv) (zD kl ko ki kj jI jJ jG jH) (zD false none 0 0 false none 0 0))
 clear hv hu cW cT Be Bd uY nh ES li hK hD hE Py QE
 go_enter Tryz.func136,Tryz.ntmps136
 go_wp2_with fail
 generalize ((w.alloc (.cells (zD fJ fK fH fI fw fx fu fv) 175)).alloc (.cells (zD kl ko ki kj jI jJ jG jH) 175)).alloc (.cells (zD false none 0 0 false none 0 0) 175)=W3 at *
 obtain⟨B1,B2,B3,bw⟩:=po.o
 have iZ:=B1.cell 0
 have j9:=B1.cell 1
 have mY:=B1.cell 2
 have ow:=B1.cell 3
 have jX:=B2.cell 0
 have jT:=B2.cell 1
 have qz:=B2.cell 2
 have qy:=B2.cell 3
 simp only[aP,aQ,aO] at iZ j9 mY ow jX jT qz qy
 have tX:=YL iZ
 have tW:=YL j9
 have FW:=YL mY
 have Ku:=YL ow
 have Cb:=YL jX
 have vu:=YL jT
 have Kt:=YL qz
 have Ks:=YL qy
 have B3:=zh B3
 have bw:=zh bw
 clear po B1 B2 iZ j9 mY ow jX jT qz qy
 refine ag 8 (fun i=>if i=3 then some (Kd (-N2)) else if i=7 then some (jb (x-y) (K+M+1)) else none) (by kernel_rfl) (by kernel_rfl) ?_
 simp only[aU,aT,aW,aX]
 refine ae 3 (by kernel_rfl) (by rfl) (by decide) ?_
 simp only[aU,aT,aW,aX]
 repeat (go_big_quiet_step (fail))
 refine YH ?_
 refine af rfl rfl ?_ ?_
 ·intro w1 ao hk
  have hb:=bw.o.trans (ao.mono bw.o.size)
  have hC:=ea (qqN _ _ _ w1 (My.o.grow hb))
  exact⟨176,#[.agg #[.bool kl,.slice ko ki kj]],by go_simp,hC⟩
 rintro _ ⟨r8b,r8A,r8c,rfl⟩
 simp only[Act.put,aJ,aI,aH]
 refine ae 3 (by kernel_rfl) (by rfl) (by decide) ?_
 simp only[aU,aT,aW,aX]
 repeat (go_big_quiet_step (fail))
 refine YH ?_
 refine af rfl rfl ?_ ?_
 ·intro w1 ao hk
  have hb:=bw.o.trans (ao.mono bw.o.size)
  obtain⟨_,_,e8,h8⟩:∃ s v,Value.agg #[.bool r8b,.slice r8A (aj (-N2).natAbs) r8c] = .agg #[.bool s,v]∧BigAt w1 w1.heap.size s v (-N2):=hk 11 (by decide) 8 (by decide)
  cases e8
  have hE:ExqAt w1 w1.heap.size (.agg (zD r8b r8A (aj (-N2).natAbs) r8c jI jJ jG jH)) (-y) M:=⟨_,_,_,_,-N2,E,rfl,h8,JJ.o.grow hb,HP.o,HNa.o,nD.o,HEq.o⟩
  have hC:=Zg (HE.o▸ft _ _ x (-y) K M w1 (HV.o.grow hb) hE HK.o)
  exact⟨133,#[.agg (zD fJ fK fH fI fw fx fu fv),.agg (zD r8b r8A (aj (-N2).natAbs) r8c jI jJ jG jH)],by go_simp,hC⟩
 rintro _ ⟨Iz,I1,Iv,Ix,Iy,I0,Iu,Iw,rfl⟩
 simp only[Act.put,aJ,aI,aH]
 refine Zc ?_
 intro w8 aM hF
 have HL:Y0 (ExqAt w8 w8.heap.size (.agg (zD Iz I1 Iv Ix Iy I0 Iu Iw)) (x-y) (K+M+1)):=hF 12
 have bj:=zh (B3.o.below aM B3.o.lt)
 have dP:=zh (bw.o.trans (aM.mono bw.o.size))
 have dQ:=zh (jC (w:=w) (by omega) dP.o bj.o HL.o)
 have q0:=bj.o.cell 0
 have q1:=bj.o.cell 1
 have q2:=bj.o.cell 2
 have q3:=bj.o.cell 3
 have f0:=bj.o.frozen 0
 have f1:=bj.o.frozen 1
 have f2:=bj.o.frozen 2
 have f3:=bj.o.frozen 3
 simp only[aP,aQ,aO] at q0 q1 q2 q3
 clear hF aM B3 bw tX tW FW Ku Cb vu Kt Ks
 go_wp2_with fail
 refine YI (v:=.agg (zD Iz I1 Iv Ix Iy I0 Iu Iw)) (by simp[results,Tryz.results136,go_sem,q0,q1,q2,q3]) rfl ?_
 exact⟨_,rfl,dQ.o.1,dQ.o.2⟩
theorem nL (v u:Value) (x y:Rat) (K M:Nat) (w:World) (hv:ExqAt w w.heap.size v x K) (hu:ExqAt w w.heap.size u y M) (hK:K+M+1≤400000) :
  Calls Tryz.prog 135 #[v,u] w (fa w (x*y) (K+M)):=by
 obtain⟨fJ,fK,fH,fI,fw,fx,fu,fv,N,D,rfl,cW,cT,hD,uY,nh,Py⟩:=bR hv
 obtain⟨kl,ko,ki,kj,jI,jJ,jG,jH,N2,E,rfl,Be,Bd,hE,ES,li,QE⟩:=bR hu
 have HEq:Y0 (x*y=Rat.divInt (N*N2) (D*E)):=by rw[Py,QE];exact PR hD hE
 have HP:Y0 (0<D*E):=Int.mul_pos hD hE
 have rm:Y0 (aj (N*N2).natAbs≤K+M):=by unfold Y0;rw[Int.natAbs_mul];exact iS uY ES
 have gx:Y0 (aj (D*E).natAbs≤K+M):=by unfold Y0;rw[Int.natAbs_mul];exact iS nh li
 have DZ:=zh cW
 have vk:=zh cT
 have My:=zh Be
 have JJ:=zh Bd
 have HK:=zh hK
 have Fy:=zh uY
 have eK:=zh nh
 have HN2:=zh ES
 have nD:=zh li
 have HV:=zh hv
 have HU:=zh hu
 have po:=zh (cf w 175 175 175 (zD fJ fK fH fI fw fx fu fv) (zD kl ko ki kj jI jJ jG jH) (zD false none 0 0 false none 0 0))
 clear hv hu cW cT Be Bd uY nh ES li hK hD hE Py QE
 go_enter Tryz.func135,Tryz.ntmps135
 go_wp2_with fail
 generalize ((w.alloc (.cells (zD fJ fK fH fI fw fx fu fv) 175)).alloc (.cells (zD kl ko ki kj jI jJ jG jH) 175)).alloc (.cells (zD false none 0 0 false none 0 0) 175)=W3 at *
 obtain⟨B1,B2,B3,bw⟩:=po.o
 have iZ:=B1.cell 0
 have j9:=B1.cell 1
 have mY:=B1.cell 2
 have ow:=B1.cell 3
 have jX:=B2.cell 0
 have jT:=B2.cell 1
 have qz:=B2.cell 2
 have qy:=B2.cell 3
 simp only[aP,aQ,aO] at iZ j9 mY ow jX jT qz qy
 have tX:=YL iZ
 have tW:=YL j9
 have FW:=YL mY
 have Ku:=YL ow
 have Cb:=YL jX
 have vu:=YL jT
 have Kt:=YL qz
 have Ks:=YL qy
 have B3:=zh B3
 have bw:=zh bw
 clear po B1 B2 iZ j9 mY ow jX jT qz qy
 refine ag 11 (fun i=>if i=4 then some (Kd (N*N2)) else if i=9 then some (Kd (D*E)) else none) (by kernel_rfl) (by kernel_rfl) ?_
 simp only[aU,aT,aW,aX]
 refine ae 4 (by kernel_rfl) (by rfl) (by decide) ?_
 simp only[aU,aT,aW,aX]
 repeat (go_big_quiet_step (fail))
 refine YH ?_
 refine af rfl rfl ?_ ?_
 ·intro w1 ao hk
  have hb:=bw.o.trans (ao.mono bw.o.size)
  have hC:=ea (ic _ _ _ _ N N2 w1 (DZ.o.grow hb) (My.o.grow hb) (by have:=Fy.o;have:=HK.o;omega) (by have:=HN2.o;have:=HK.o;omega))
  exact⟨175,#[.agg #[.bool fJ,.slice fK fH fI],.agg #[.bool kl,.slice ko ki kj]],by go_simp,hC⟩
 rintro _ ⟨Et,Eu,Es,rfl⟩
 simp only[Act.put,aJ,aI,aH]
 refine ae 4 (by kernel_rfl) (by rfl) (by decide) ?_
 simp only[aU,aT,aW,aX]
 repeat (go_big_quiet_step (fail))
 refine YH ?_
 refine af rfl rfl ?_ ?_
 ·intro w1 ao hk
  have hb:=bw.o.trans (ao.mono bw.o.size)
  have hC:=ea (ic _ _ _ _ D E w1 (vk.o.grow hb) (JJ.o.grow hb) (by have:=eK.o;have:=HK.o;omega) (by have:=nD.o;have:=HK.o;omega))
  exact⟨175,#[.agg #[.bool fw,.slice fx fu fv],.agg #[.bool jI,.slice jJ jG jH]],by go_simp,hC⟩
 rintro _ ⟨mJ,mK,mI,rfl⟩
 simp only[Act.put,aJ,aI,aH]
 refine ae 1 (by kernel_rfl) (by rfl) (by decide) ?_
 simp only[aU,aT,aW,aX]
 repeat (go_big_quiet_step (fail))
 refine YH ?_
 refine Zc ?_
 intro w8 aM hF
 obtain⟨_,_,e1,h1⟩:∃ s v,Value.agg #[.bool Et,.slice Eu (aj (N*N2).natAbs) Es] = .agg #[.bool s,v]∧BigAt w8 w8.heap.size s v (N*N2):=hF 9
 cases e1
 obtain⟨_,_,e2,h2⟩:∃ s v,Value.agg #[.bool mJ,.slice mK (aj (D*E).natAbs) mI] = .agg #[.bool s,v]∧BigAt w8 w8.heap.size s v (D*E):=hF 14
 cases e2
 have HL:Y0 (ExqAt w8 w8.heap.size (.agg (zD Et Eu (aj (N*N2).natAbs) Es mJ mK (aj (D*E).natAbs) mI)) (x*y) (K+M)):=⟨_,_,_,_,N*N2,D*E,rfl,h1,h2,HP.o,rm.o,gx.o,HEq.o⟩
 clear h1 h2
 have bj:=zh (B3.o.below aM B3.o.lt)
 have dP:=zh (bw.o.trans (aM.mono bw.o.size))
 have dQ:=zh (jC (w:=w) (by omega) dP.o bj.o HL.o)
 have q0:=bj.o.cell 0
 have q1:=bj.o.cell 1
 have q2:=bj.o.cell 2
 have q3:=bj.o.cell 3
 have f0:=bj.o.frozen 0
 have f1:=bj.o.frozen 1
 have f2:=bj.o.frozen 2
 have f3:=bj.o.frozen 3
 simp only[aP,aQ,aO] at q0 q1 q2 q3
 clear hF aM B3 bw tX tW FW Ku Cb vu Kt Ks
 go_wp2_with fail
 refine YI (v:=.agg (zD Et Eu (aj (N*N2).natAbs) Es mJ mK (aj (D*E).natAbs) mI)) (by simp[results,Tryz.results135,go_sem,q0,q1,q2,q3]) rfl ?_
 exact⟨_,rfl,dQ.o.1,dQ.o.2⟩
theorem MR (v u:Value) (x y:Rat) (K M:Nat) (w:World) (hv:ExqAt w w.heap.size v x K) (hu:ExqAt w w.heap.size u y M) (hy0:0<y) (hK:K+M+1≤400000) :
  Calls Tryz.prog 173 #[v,u] w (fa w (x / y) (K+M)):=by
 obtain⟨fJ,fK,fH,fI,fw,fx,fu,fv,N,D,rfl,cW,cT,hD,uY,nh,Py⟩:=bR hv
 obtain⟨kl,ko,ki,kj,jI,jJ,jG,jH,N2,E,rfl,Be,Bd,hE,ES,li,QE⟩:=bR hu
 have hM0:0<N2:=qqj hE (QE▸hy0)
 have HEq:Y0 (x / y=Rat.divInt (N*E) (D*N2)):=by rw[Py,QE];exact Xm hD hE hM0
 have HP:Y0 (0<D*N2):=Int.mul_pos hD hM0
 have rm:Y0 (aj (N*E).natAbs≤K+M):=by unfold Y0;rw[Int.natAbs_mul];exact iS uY li
 have gx:Y0 (aj (D*N2).natAbs≤K+M):=by unfold Y0;rw[Int.natAbs_mul];exact iS nh ES
 have DZ:=zh cW
 have vk:=zh cT
 have My:=zh Be
 have JJ:=zh Bd
 have HK:=zh hK
 have Fy:=zh uY
 have eK:=zh nh
 have HN2:=zh ES
 have nD:=zh li
 have HV:=zh hv
 have HU:=zh hu
 have po:=zh (cf w 175 175 175 (zD fJ fK fH fI fw fx fu fv) (zD kl ko ki kj jI jJ jG jH) (zD false none 0 0 false none 0 0))
 clear hM0 hy0 hv hu cW cT Be Bd uY nh ES li hK hD hE Py QE
 go_enter Tryz.func173,Tryz.ntmps173
 go_wp2_with fail
 generalize ((w.alloc (.cells (zD fJ fK fH fI fw fx fu fv) 175)).alloc (.cells (zD kl ko ki kj jI jJ jG jH) 175)).alloc (.cells (zD false none 0 0 false none 0 0) 175)=W3 at *
 obtain⟨B1,B2,B3,bw⟩:=po.o
 have iZ:=B1.cell 0
 have j9:=B1.cell 1
 have mY:=B1.cell 2
 have ow:=B1.cell 3
 have jX:=B2.cell 0
 have jT:=B2.cell 1
 have qz:=B2.cell 2
 have qy:=B2.cell 3
 simp only[aP,aQ,aO] at iZ j9 mY ow jX jT qz qy
 have tX:=YL iZ
 have tW:=YL j9
 have FW:=YL mY
 have Ku:=YL ow
 have Cb:=YL jX
 have vu:=YL jT
 have Kt:=YL qz
 have Ks:=YL qy
 have B3:=zh B3
 have bw:=zh bw
 clear po B1 B2 iZ j9 mY ow jX jT qz qy
 refine ag 11 (fun i=>if i=4 then some (Kd (N*E)) else if i=9 then some (Kd (D*N2)) else none) (by kernel_rfl) (by kernel_rfl) ?_
 simp only[aU,aT,aW,aX]
 refine ae 4 (by kernel_rfl) (by rfl) (by decide) ?_
 simp only[aU,aT,aW,aX]
 repeat (go_big_quiet_step (fail))
 refine YH ?_
 refine af rfl rfl ?_ ?_
 ·intro w1 ao hk
  have hb:=bw.o.trans (ao.mono bw.o.size)
  have hC:=ea (ic _ _ _ _ N E w1 (DZ.o.grow hb) (JJ.o.grow hb) (by have:=Fy.o;have:=HK.o;omega) (by have:=nD.o;have:=HK.o;omega))
  exact⟨175,#[.agg #[.bool fJ,.slice fK fH fI],.agg #[.bool jI,.slice jJ jG jH]],by go_simp,hC⟩
 rintro _ ⟨Et,Eu,Es,rfl⟩
 simp only[Act.put,aJ,aI,aH]
 refine ae 4 (by kernel_rfl) (by rfl) (by decide) ?_
 simp only[aU,aT,aW,aX]
 repeat (go_big_quiet_step (fail))
 refine YH ?_
 refine af rfl rfl ?_ ?_
 ·intro w1 ao hk
  have hb:=bw.o.trans (ao.mono bw.o.size)
  have hC:=ea (ic _ _ _ _ D N2 w1 (vk.o.grow hb) (My.o.grow hb) (by have:=eK.o;have:=HK.o;omega) (by have:=HN2.o;have:=HK.o;omega))
  exact⟨175,#[.agg #[.bool fw,.slice fx fu fv],.agg #[.bool kl,.slice ko ki kj]],by go_simp,hC⟩
 rintro _ ⟨mJ,mK,mI,rfl⟩
 simp only[Act.put,aJ,aI,aH]
 refine ae 1 (by kernel_rfl) (by rfl) (by decide) ?_
 simp only[aU,aT,aW,aX]
 repeat (go_big_quiet_step (fail))
 refine YH ?_
 refine Zc ?_
 intro w8 aM hF
 obtain⟨_,_,e1,h1⟩:∃ s v,Value.agg #[.bool Et,.slice Eu (aj (N*E).natAbs) Es] = .agg #[.bool s,v]∧BigAt w8 w8.heap.size s v (N*E):=hF 9
 cases e1
 obtain⟨_,_,e2,h2⟩:∃ s v,Value.agg #[.bool mJ,.slice mK (aj (D*N2).natAbs) mI] = .agg #[.bool s,v]∧BigAt w8 w8.heap.size s v (D*N2):=hF 14
 cases e2
 have HL:Y0 (ExqAt w8 w8.heap.size (.agg (zD Et Eu (aj (N*E).natAbs) Es mJ mK (aj (D*N2).natAbs) mI)) (x / y) (K+M)):=⟨_,_,_,_,N*E,D*N2,rfl,h1,h2,HP.o,rm.o,gx.o,HEq.o⟩
 clear h1 h2
 have bj:=zh (B3.o.below aM B3.o.lt)
 have dP:=zh (bw.o.trans (aM.mono bw.o.size))
 have dQ:=zh (jC (w:=w) (by omega) dP.o bj.o HL.o)
 have q0:=bj.o.cell 0
 have q1:=bj.o.cell 1
 have q2:=bj.o.cell 2
 have q3:=bj.o.cell 3
 have f0:=bj.o.frozen 0
 have f1:=bj.o.frozen 1
 have f2:=bj.o.frozen 2
 have f3:=bj.o.frozen 3
 simp only[aP,aQ,aO] at q0 q1 q2 q3
 clear hF aM B3 bw tX tW FW Ku Cb vu Kt Ks
 go_wp2_with fail
 refine YI (v:=.agg (zD Et Eu (aj (N*E).natAbs) Es mJ mK (aj (D*N2).natAbs) mI)) (by simp[results,Tryz.results173,go_sem,q0,q1,q2,q3]) rfl ?_
 exact⟨_,rfl,dQ.o.1,dQ.o.2⟩
theorem qzM (v u:Value) (x y:Rat) (K M:Nat) (w:World) (hv:ExqAt w w.heap.size v x K) (hu:ExqAt w w.heap.size u y M) (hK:K+M+1≤400000) :
  Calls Tryz.prog 167 #[v,u] w fun e w'=>e = .returned (.int .i64 (sX (x-y)))∧Below w.heap.size w w':=by
 obtain⟨fJ,fK,fH,fI,fw,fx,fu,fv,_,_,rfl,-⟩:=bR hv
 obtain⟨kl,ko,ki,kj,jI,jJ,jG,jH,_,_,rfl,-⟩:=bR hu
 have hb:Below w.heap.size w ((w.alloc (.cells (zD fJ fK fH fI fw fx fu fv) 175)).alloc (.cells (zD kl ko ki kj jI jJ jG jH) 175)):=((yB _ w).alloc (yA _) _).alloc (by simp) _
 have HV:=zh (hv.grow hb)
 have HU:=zh (hu.grow hb)
 have HB:=zh hb
 have HK:=zh hK
 clear hv hu hb hK
 go_enter Tryz.func167,Tryz.ntmps167
 go_wp2_with fail
 refine (kh _ _ x y K M _ HV.o HU.o HK.o).mono ?_
 rintro e w3 ⟨v3,rfl,cO,h3⟩
 have H3:=zh h3
 have bY:=zh (HB.o.trans (cO.mono HB.o.size))
 clear h3 cO HV HU HB
 go_wp2_with fail
 refine (qqM _ (x-y) (K+M+1) _ H3.o).mono ?_
 rintro e w4 ⟨rfl,cD⟩
 have dU:=zh (bY.o.trans (cD.mono bY.o.size))
 clear cD H3 bY
 go_wp2_with fail
 go_ret
 exact⟨rfl,dU.o⟩
def Ft (w:World) (q:Rat) (e:Ending) (w':World):Prop:=∃ s1 v1 s2 v2,e = .returned (.agg #[.bool s1,v1,.bool s2,v2])∧Below w.heap.size w w'∧BigAt w' w'.heap.size s1 v1 q.num∧BigAt w' w'.heap.size s2 v2 (q.den:Int)
theorem qqb {N D:Int} (hD:0<D) (hN:N≠0):decide (N<0)=decide ((Rat.divInt N D).num<0):=by
 have h:=Nt (n:=N) (d:=D) (by omega) hN
 exact decide_eq_decide.2 ⟨fun h1=>h.2 (.inl ⟨h1,hD⟩),fun h1=>by
  rcases h.1 h1 with h2 | h2
  ·exact h2.1
  omega⟩
theorem I5 {w w8:World} {R:Nat} (hR:w.heap.size≤R) (hb:Below w.heap.size w w8) (hD:Blk w8 R 175 (zD false none 0 0 false none 0 0)) {s1 s2:Bool} {v1 v2:Value} {N D:Int} (h4:BigAt w8 w8.heap.size s1 v1 N) (h5:BigAt w8 w8.heap.size s2 v2 D) :
  Below w.heap.size w ((((w8.setCell ⟨R,0,none⟩ (.bool s1)).setCell ⟨R,1,none⟩ v1).setCell ⟨R,2,none⟩ (.bool s2)).setCell ⟨R,3,none⟩ v2)∧BigAt ((((w8.setCell ⟨R,0,none⟩ (.bool s1)).setCell ⟨R,1,none⟩ v1).setCell ⟨R,2,none⟩ (.bool s2)).setCell ⟨R,3,none⟩ v2) ((((w8.setCell ⟨R,0,none⟩ (.bool s1)).setCell ⟨R,1,none⟩ v1).setCell ⟨R,2,none⟩ (.bool s2)).setCell ⟨R,3,none⟩ v2).heap.size s1 v1 N∧BigAt ((((w8.setCell ⟨R,0,none⟩ (.bool s1)).setCell ⟨R,1,none⟩ v1).setCell ⟨R,2,none⟩ (.bool s2)).setCell ⟨R,3,none⟩ v2) ((((w8.setCell ⟨R,0,none⟩ (.bool s1)).setCell ⟨R,1,none⟩ v1).setCell ⟨R,2,none⟩ (.bool s2)).setCell ⟨R,3,none⟩ v2).heap.size s2 v2 D:=by
 have h1:=hD.set_ 0 (.bool s1)
 have h2:=h1.set_ 1 v1
 have h3:=h2.set_ 2 (.bool s2)
 have z0:=hD.cell 0
 have z1:=h1.cell 1
 have z2:=h2.cell 2
 have z3:=h3.cell 3
 simp only[aP,aO] at z0
 have oI:∀ {v:Value} {x k:Nat},DgTo w8 w8.heap.size v x k→DgTo ((((w8.setCell ⟨R,0,none⟩ (.bool s1)).setCell ⟨R,1,none⟩ v1).setCell ⟨R,2,none⟩ (.bool s2)).setCell ⟨R,3,none⟩ v2) ((((w8.setCell ⟨R,0,none⟩ (.bool s1)).setCell ⟨R,1,none⟩ v1).setCell ⟨R,2,none⟩ (.bool s2)).setCell ⟨R,3,none⟩ v2).heap.size v x k:=fun h=>by
  have g1:=DgTo.set h z0 (fun z=>by simp) (.bool s1)
  have g2:=DgTo.set g1 (u:=.slice none 0 0) z1 (fun z=>by simp) v1
  have g3:=DgTo.set g2 (u:=.bool false) z2 (fun z=>by simp) (.bool s2)
  have g4:=DgTo.set g3 (u:=.slice none 0 0) z3 (fun z=>by simp) v2
  exact DgTo.mono g4 (by simp[World.setCell])
 exact⟨(((hb.setCell (p:=⟨R,0,none⟩) hR _).setCell (p:=⟨R,1,none⟩) hR _).setCell (p:=⟨R,2,none⟩) hR _).setCell (p:=⟨R,3,none⟩) hR _,⟨h4.1,oI h4.2⟩,⟨h5.1,oI h5.2⟩⟩
theorem En (v:Value) (x:Rat) (K:Nat) (w:World) (hv:ExqAt w w.heap.size v x K) (hK:K≤300000) :
  Calls Tryz.prog 137 #[v] w (Ft w x):=by
 obtain⟨b1,v1,b2,v2,N,D,rfl,cW,cT,hD,uY,nh,Py⟩:=hv
 obtain⟨A1,c1,rfl,Bj,hn1,-⟩:=DgTo.open_ cW.2
 obtain⟨A2,c2,rfl,hm2,hn2,-⟩:=DgTo.open_ cT.2
 unfold maxLen at hn1 hn2
 have hz:=oS (x:=N.natAbs)
 have DZ:=zh cW
 have vk:=zh cT
 have HK:=zh hK
 have Fy:=zh uY
 have eK:=zh nh
 have HD:=zh hD
 have HXq:=zh Py
 have B1:=(Blk.new w 175 (zD b1 A1 (aj N.natAbs) c1 b2 A2 (aj D.natAbs) c2)).alloc (.cells (zD false none 0 0 false none 0 0) 175)
 have B3:=Blk.new (w.alloc (.cells (zD b1 A1 (aj N.natAbs) c1 b2 A2 (aj D.natAbs) c2) 175)) 175 (zD false none 0 0 false none 0 0)
 rw[yZ] at B3
 have bw:Below w.heap.size w ((w.alloc (.cells (zD b1 A1 (aj N.natAbs) c1 b2 A2 (aj D.natAbs) c2) 175)).alloc (.cells (zD false none 0 0 false none 0 0) 175)):=((yB _ w).alloc (yA _) _).alloc (by simp) _
 clear cW cT uY nh hK hD Py
 go_enter Tryz.func137,Tryz.ntmps137
 go_upto_region 1 with fail
 generalize (w.alloc (.cells (zD b1 A1 (aj N.natAbs) c1 b2 A2 (aj D.natAbs) c2) 175)).alloc (.cells (zD false none 0 0 false none 0 0) 175)=W2 at *
 have q0:=B1.cell 0
 have q1:=B1.cell 1
 have q3:=B1.cell 3
 simp only[aP,aQ,aO] at q0 q1 q3
 have bZ:=zh B1
 have bY:=zh B3
 have bw:=zh bw
 clear B1 B3
 by_cases NW:aj N.natAbs=0
 ·have hd:(aj N.natAbs==0)=true:=beq_iff_eq.2 NW
  have QT:Y0 (N=0):=by have:=hz.1 NW;unfold Y0;omega
  clear hz
  go_wp2_with fail
  refine (CR 0 _ (by decide) (by decide)).mono ?_
  rintro e w3 ⟨s3,v3,rfl,cO,h3⟩
  obtain⟨A3,c3,rfl,-⟩:=DgTo.open_ h3.2
  have H3:=zh h3
  have dU:=zh (bY.o.below cO bY.o.lt)
  have Qu:=zh (bw.o.trans (cO.mono bw.o.size))
  clear cO h3 q0 q1 q3
  generalize hl3:aj (0:Int).natAbs=l3 at *
  clear hl3
  go_wp2_with fail
  refine (CR 1 _ (by decide) (by decide)).mono ?_
  rintro e w4 ⟨s4,v4,rfl,cD,h4⟩
  obtain⟨A4,c4,rfl,-⟩:=DgTo.open_ h4.2
  have H4:=zh h4
  have H5:=zh (H3.o.grow cD)
  have bj:=zh (dU.o.below cD dU.o.lt)
  have dP:=zh (Qu.o.trans (cD.mono Qu.o.size))
  clear cD h4 H3 dU Qu
  generalize hl4:aj (1:Int).natAbs=l4 at *
  clear hl4
  have dQ:=zh (I5 (w:=w) (by omega) dP.o bj.o H5.o H4.o)
  have q0:=bj.o.cell 0
  have q1:=bj.o.cell 1
  have q2:=bj.o.cell 2
  have q3:=bj.o.cell 3
  have f0:=bj.o.frozen 0
  have f1:=bj.o.frozen 1
  have f2:=bj.o.frozen 2
  have f3:=bj.o.frozen 3
  simp only[aP,aQ,aO] at q0 q1 q2 q3
  go_wp2_with fail
  refine YI (v:=.agg (zD s3 A3 l3 c3 s4 A4 l4 c4)) (by simp[results,Tryz.results137,go_sem,q0,q1,q2,q3]) rfl ?_
  have e0:x=((0:Int):Rat):=by rw[HXq.o,QT.o,uI]
  exact⟨_,_,_,_,rfl,dQ.o.1,by rw[e0];exact dQ.o.2.1,by rw[e0];exact dQ.o.2.2⟩
 have hd:(aj N.natAbs==0)=false:=beq_eq_false_iff_ne.2 NW
 have im:(((aj N.natAbs:Nat):Int)==0)=false:=beq_eq_false_iff_ne.2 (by omega)
 have QT:Y0 (0<N.natAbs):=by unfold Y0;rcases Nat.eq_zero_or_pos N.natAbs with h | h;exact absurd (hz.2 h) NW;exact h
 have HDp:Y0 (0<D.natAbs):=by have:=HD.o;unfold Y0;omega
 have qv9:=zh (DZ.o.grow bw.o)
 have qv8:=zh (vk.o.grow bw.o)
 clear hz NW
 go_wp2_with fail
 refine (qzL _ _ N.natAbs D.natAbs K _ qv9.o.2 qv8.o.2 HK.o Fy.o eK.o QT.o HDp.o).mono ?_
 rintro e w3 ⟨v3,rfl,cO,h3⟩
 have HL:=zh (rS (n:=N) (d:=D) (by have:=HD.o;omega))
 have HGp:Y0 (0<Nat.gcd N.natAbs D.natAbs):=Nat.gcd_pos_of_pos_left _ QT.o
 have HGl:Y0 (aj (Nat.gcd N.natAbs D.natAbs)≤K):=yH (cC (Nat.gcd_le_left _ QT.o)) Fy.o
 generalize Nat.gcd N.natAbs D.natAbs=G at *
 obtain⟨A3,c3,rfl,-⟩:=DgTo.open_ h3
 have H3:=zh h3
 have rq:=zh (qv9.o.grow cO)
 have HA4:=zh (qv8.o.grow cO)
 have dU:=zh (bY.o.below cO bY.o.lt)
 have cN:=zh (bZ.o.below cO bZ.o.lt)
 have Qu:=zh (bw.o.trans (cO.mono bw.o.size))
 clear cO h3 q0 q1 q3 qv9 qv8 hd im
 have q0:=cN.o.cell 0
 have q1:=cN.o.cell 1
 have q3:=cN.o.cell 3
 simp only[aP,aQ,aO] at q0 q1 q3
 have u0:=YL q0
 have u1:=YL q1
 have u3:=YL q3
 clear q0 q1 q3
 go_upto_region 4 with fail
 refine ag 16 (fun i=>if i=7 then some (gDg (N.natAbs / G)) else if i=13 then some (gDg (D.natAbs / G)) else none) (by kernel_rfl) (by kernel_rfl) ?_
 simp only[aU,aT,aW,aX]
 refine ae 7 (by kernel_rfl) (by rfl) (by decide) ?_
 simp only[aU,aT,aW,aX]
 repeat (go_big_quiet_step (fail))
 refine YH ?_
 refine af rfl rfl ?_ ?_
 ·intro w1 ao hk
  exact⟨178,#[.slice A1 (aj N.natAbs) c1,.slice A3 (aj G) c3],by go_simp,tI (wj _ _ N.natAbs G K w1 (rq.o.grow ao).2 (DgTo.grow H3.o ao) HK.o Fy.o HGl.o HGp.o)⟩
 rintro _ ⟨A5,c5,rfl⟩
 simp only[Act.put,aJ,aI,aH]
 refine ae 5 (by kernel_rfl) (by rfl) (by decide) ?_
 simp only[aU,aT,aW,aX]
 repeat (go_big_quiet_step (fail))
 refine YH ?_
 refine af rfl rfl ?_ ?_
 ·intro w1 ao hk
  exact⟨178,#[.slice A2 (aj D.natAbs) c2,.slice A3 (aj G) c3],by go_simp,tI (wj _ _ D.natAbs G K w1 (HA4.o.grow ao).2 (DgTo.grow H3.o ao) HK.o eK.o HGl.o HGp.o)⟩
 rintro _ ⟨A6,c6,rfl⟩
 simp only[Act.put,aJ,aI,aH]
 refine ae 2 (by kernel_rfl) (by rfl) (by decide) ?_
 simp only[aU,aT,aW,aX]
 repeat (go_big_quiet_step (fail))
 refine YH ?_
 refine Zc ?_
 intro w8 aM hF
 have h5:DgTo w8 w8.heap.size (.slice A5 (aj (N.natAbs / G)) c5) (N.natAbs / G) (aj (N.natAbs / G)):=hF 26
 have h6:DgTo w8 w8.heap.size (.slice A6 (aj (D.natAbs / G)) c6) (D.natAbs / G) (aj (D.natAbs / G)):=hF 32
 have bj:=zh (dU.o.below aM dU.o.lt)
 have dP:=zh (Qu.o.trans (aM.mono Qu.o.size))
 have hs:b1=decide (x.num<0):=by
  have:=QT.o
  rw[DZ.o.1,HXq.o]
  exact qqb HD.o (by omega)
 have H5:Y0 (BigAt w8 w8.heap.size b1 (.slice A5 (aj (N.natAbs / G)) c5) x.num):=⟨hs,by
  unfold dI
  rw[HXq.o,HL.o.1]
  exact h5⟩
 have H6:Y0 (BigAt w8 w8.heap.size false (.slice A6 (aj (D.natAbs / G)) c6) (x.den:Int)):=⟨(yC (by omega)).symm,by
  unfold dI
  rw[Int.natAbs_natCast,HXq.o,HL.o.2]
  exact h6⟩
 have dQ:=zh (I5 (w:=w) (by omega) dP.o bj.o H5.o H6.o)
 have q0:=bj.o.cell 0
 have q1:=bj.o.cell 1
 have q2:=bj.o.cell 2
 have q3:=bj.o.cell 3
 have f0:=bj.o.frozen 0
 have f1:=bj.o.frozen 1
 have f2:=bj.o.frozen 2
 have f3:=bj.o.frozen 3
 simp only[aP,aQ,aO] at q0 q1 q2 q3
 clear hF aM hs h5 h6 u0 u1 u3
 go_wp2_with fail
 refine YI (v:=.agg (zD b1 A5 (aj (N.natAbs / G)) c5 false A6 (aj (D.natAbs / G)) c6)) (by simp[results,Tryz.results137,go_sem,q0,q1,q2,q3]) rfl ?_
 exact⟨_,_,_,_,rfl,dQ.o.1,dQ.o.2.1,dQ.o.2.2⟩
theorem Nu {w:World} {q:Rat} {K:Nat} {e:Ending} {w':World} (h:Ft w q e w') (h1:aj q.num.natAbs≤K) (h2:aj q.den≤K):fa w q K e w':=by
 obtain⟨s1,v1,s2,v2,rfl,hb,h3,h4⟩:=h
 exact⟨_,rfl,hb,s1,v1,s2,v2,q.num,(q.den:Int),rfl,h3,h4,by have:=q.den_pos;omega,h1,by rw[Int.natAbs_natCast];exact h2,(Rat.num_divInt_den q).symm⟩
end Go.Proofs.YtfhmbechennkbaaGreatDoor
