/- Lemmas. -/
import Derived.Test.YtfhmbechennkbaaGreatDoorI6
namespace Go.Proofs.YtfhmbechennkbaaGreatDoor
set_option maxRecDepth 100000
set_option maxHeartbeats 40000000
open Go.RowKit Go.Shelf
theorem vP (w:World):(zeroValue 111).run Tryz.prog w = .ok (.agg #[.slice none 0 0,.int .i64 0]) w:=Tryz.zeroValue111 w
theorem sW {x:SetT} (h:bS x=true):(⟨(eu x).toArray⟩:ByteArray).size≤maxLen:=by
 have h1:=pw h _ _ (yA _) (yA _)
 rw[vX] at h1
 have h2:=(Zm h).wts.1
 have h3:=(dY h).1
 show (eu x).toArray.size≤_
 rw[List.size_toArray]
 unfold maxLen
 omega
theorem Ba {w:World} {B:Nat} {M:Nat→Prop} {mv:Value} {K:List SetT} (h:KnownAt w B M mv K) {x:SetT} (hx:bS x=true) :
  ∃ A n c re,(Instr.lookup 54 mv (.string ⟨(eu x).toArray⟩) true).run Tryz.prog w = .ok (.tuple #[.agg #[.slice A n c,.int .i64 re],.bool (decide (x∈K))]) w∧(x∈K→re=Zs x∧FlatM w M (.slice A n c) (ax x).length ((ax x).flatMap FrT.cells)):=by
 rcases h with⟨rfl,rfl⟩ | ⟨b,F,rfl,h2,h3,h4,h5,h6⟩
 ·refine⟨none,0,0,0,?_,fun h=>absurd h YG⟩
  exact Maps.look_nil true qH Tryz.underlying54 (vP w) (rU (sW hx))
 have hl:=h4.look Tryz.underlying54 (vP w) (sW hx)
 by_cases hm:x∈K
 ·obtain⟨v,e1,e2⟩:=h6 x hm
  have e2':=e2
  obtain⟨A,c,ev,-⟩:=e2
  subst ev
  refine⟨A,(ax x).length,c,Zs x,?_,fun _=>⟨rfl,e2'⟩⟩
  rw[hl,e1,yD hm]
  rfl
 have hn:F ⟨(eu x).toArray⟩=none:=by
  have:=h5 x hx
  rw[yC hm] at this
  cases hF:F ⟨(eu x).toArray⟩with
  | none=>rfl
  | some v=>rw[hF] at this;cases this
 refine⟨none,0,0,0,?_,fun h=>absurd h hm⟩
 rw[hl,hn,yC hm]
 rfl
def iQ (st:St) (nm:ByteArray):Bool×Int :=
 match fG st.sets nm with
 | some k=>(match st.sets[k]? with | some x=>decide (x∈st.known) | none=>false,0)
 | none=>(false,9)
theorem Dh {w:World} {B D:Nat} {M:Nat→Prop} {st:St} {r:StR} {nm:ByteArray} (h:StoreAt w B D M st r) (aK:StOk st) {e:Ending} {w':World} (hp:tQ st r nm w e w') :
  Below w.heap.size w w'∧((∃ k c,fG st.sets nm=some k∧st.sets[k]? = some c.s∧e = .returned (.tuple #[c.val,.int .i64 0])∧SetCM w' M c∧bS c.s=true)∨(fG st.sets nm=none∧e = .returned (.tuple #[nE.val,.int .i64 9]))):=by
 obtain⟨hb,⟨k,c,hi,hk,he⟩ | ⟨hi,he⟩⟩:=hp
 ·have e1:st.sets[k]? = some c.s:=by rw[← h.setsE,YD,hk];rfl
  exact⟨hb,.inl ⟨k,c,hi,e1,he,(h.below hb).sets.2 c (List.mem_of_getElem? hk),aK.sets c.s (List.mem_of_getElem? e1)⟩⟩
 exact⟨hb,.inr ⟨hi,he⟩⟩
theorem kP {x:SetT} (hb:bS x=true):SetNames x :=
 ⟨yH (gn (py hb)) (by unfold maxLen;decide),fun y hy=>Nat.le_trans (gn (mW ((Zm hb).wts.2 y hy).1)) (by unfold maxLen;decide),fun y hy=>Nat.le_trans (gn (lG ((dY hb).2 y hy)).1) (by unfold maxLen;decide)⟩
theorem ZF (B D:Nat) (M:Nat→Prop) (st:St) (r:StR) (nm:ByteArray) (w:World) (h:StoreAt w B D M st r) (aK:StOk st) (ht:Tab w) :
  Calls Tryz.prog 23 #[.pointer (some ⟨D,0,none⟩),.string nm] w fun e w'=>e = .returned (.tuple #[.bool (iQ st nm).1,.int .i64 (iQ st nm).2])∧Below w.heap.size w w':=by
 have hN:=(Ek B D M st r nm w h).mono fun _ _ hp=>Dh h aK hp
 have HS:=zh h
 have HT:=zh ht
 clear h aK ht
 go_enter Tryz.func23,Tryz.ntmps23
 go_wp2_with fail
 refine hN.mono ?_
 rintro e w2 ⟨bE,⟨k,⟨s,al,cl,ai,ci,ab,cb⟩,hi,hk,rfl,hc,hv⟩ | ⟨hi,rfl⟩⟩
 ·simp only at hk hv
  have e0:iQ st nm=(decide (s∈st.known),0):=by unfold iQ;rw[hi];simp[hk]
  have HE:=zh e0
  have bK:=zh bE
  have hs:=hc.set
  change SetAt w2 w2.heap.size (aL s al cl ai ci ab cb) s at hs
  have ha:=(yB w2.heap.size w2).alloc (yA _) (.cells (zA s al cl ai ci ab cb) 26)
  have hTx:=(VH _ s _ ((hs.below ha (yA _)).mono ha.size) (kP hv) ((HT.o.below bE).below ha))
  rw[if_pos hv] at hTx
  have HV:=zh hv
  have HA:=zh ha
  have gx:=zh (HS.o.below bE)
  clear bE hi hk hc hv e0 hs ha hN HS HT
  unfold SetC.val aL at *
  go_wp2_with fail
  refine hTx.mono ?_
  rintro e w3 ⟨rfl,cO⟩
  have jS:=zh ((gx.o.below HA.o).below cO)
  have bY:=zh (bK.o.trans ((HA.o.trans (cO.mono HA.o.size)).mono bK.o.size))
  obtain⟨A,n,c,re,Dv,-⟩:=Ba jS.o.known HV.o
  have im:=jS.o.blk.cell 2
  simp only[aP,aQ,aO] at im
  have Kc:=jS.o.blk.lt
  generalize decide (s∈st.known)=q at *
  generalize (⟨(eu s).toArray⟩:ByteArray)=tx at *
  have HMv:=zh jS.o.known
  clear cO gx jS bK HA hTx HV
  generalize r.mv=mv at *
  have hmv:(∃ b,mv = .map (some b))∨mv = .map none:=by
   rcases HMv.o with⟨e,_⟩ | ⟨b,F,e,_⟩
   ·exact .inr e
   exact .inl ⟨b,e⟩
  clear HMv
  rcases hmv with⟨b,rfl⟩ | rfl
  case' inl=>
   go_wp2_with fail
  case' inr=>
   go_wp2_with fail
  all_goals
   go_ret2
   exact⟨by rw[HE.o];rfl,bY.o.alloc bY.o.size _⟩
 have e0:iQ st nm=(false,9):=by unfold iQ;rw[hi]
 have HE:=zh e0
 have bK:=zh bE
 clear bE hi e0 hN HS HT
 unfold nE dV SetC.val aL at *
 simp only[]
 go_wp2_with fail
 go_ret2
 exact⟨by rw[HE.o];rfl,bK.o.trans (((yB _ _).alloc (yA _) _).mono bK.o.size)⟩
def DU (b:BeamT) (l:List Rat) (w:World) (e:Ending) (w':World):Prop :=
 Below w.heap.size w w'∧((dt b=true∧cJ b=true∧iU l=true∧∃ v,e = .returned (.tuple #[v,.int .i64 0])∧w'.ownsRow w.heap.size 82 2 v (l.map B5).length ((l.map B5).flatMap FrT.cells))∨(∃ k,k≠0∧(eX b≠0∨iU l=false)∧e = .returned (.tuple #[.slice none 0 0,.int .i64 k])∧(eX b=0→k=5)))
theorem FracsPost.tellO {b:BeamT} {l:List Rat} {w w1 w':World} {e:Ending} (h:FracsPost l w1 e w') (hb:Below w.heap.size w w1) (h1:dt b=true) (h2:cJ b=true):DU b l w e w':=by
 obtain⟨gZ,⟨h3,v,rfl,h4⟩ | ⟨h3,rfl⟩⟩:=h
 ·refine⟨hb.trans (gZ.mono hb.size),.inl ⟨h1,h2,h3,v,rfl,?_⟩⟩
  rw[yP]
  exact bo h4 hb.size
 exact⟨hb.trans (gZ.mono hb.size),.inr ⟨5,by decide,.inr h3,rfl,fun _=>rfl⟩⟩
def qY (s:SetT) (w:World) (e:Ending) (w':World):Prop :=
 Below w.heap.size w w'∧((Zs s=0∧∃ v,e = .returned (.tuple #[v,.int .i64 0])∧w'.ownsRow w.heap.size 82 2 v (oA s).length ((oA s).flatMap FrT.cells))∨(Zs s≠0∧e = .returned (.tuple #[.slice none 0 0,.int .i64 (Zs s)])))
theorem Fg (v:Value) (b:BeamT) (w:World) (hv:BeamAt w w.heap.size v b) (hn:b.name.size≤maxLen):Calls Tryz.prog 75 #[v] w (DU b (ef b) w):=by
 have HGi:=fun W h=>qqt v b W h hn
 have Cj:=fun h W u h1 hu=>XH v u b W h1 hu h
 have HV:=zh hv
 obtain⟨As,cs,Al,cl,rfl,hS,hL⟩:=hv
 have HD:=zh (Blk.new w 122 (zC b As cs Al cl))
 have HB:=zh ((yB _ w).alloc (yA _) (.cells (zC b As cs Al cl) 122))
 clear hS hL
 go_enter Tryz.func75,Tryz.ntmps75
 go_wp2_with (exact Go.WalkKit.wp_stop)
 generalize w.alloc (.cells (zC b As cs Al cl) 122)=W1 at *
 have hgi:=HGi W1 (HV.o.grow HB.o)
 have Cj:=zh Cj
 obtain⟨y0,y1,y2,y3,y4⟩:=HD.o.c5
 clear HGi
 by_cases hc:dt b=true∧cJ b=true
 ·obtain⟨aK,P0⟩:=hc
  have HE:Y0 (¬ eX b≠0):=by unfold Y0 eX;rw[aK,P0];simp
  have Zt:=zh aK
  have Htl:=zh P0
  clear aK P0
  have qvj:Calls Tryz.prog 117 #[.agg (zC b As cs Al cl)] W1 fun e w'=>∃ u,e = .returned (.tuple #[u,.int .i64 0])∧Y0 (Below W1.heap.size W1 w')∧Y0 (ExsAt w' u (tr b)):=by
   refine hgi.mono ?_
   rintro e w' ⟨h1,⟨-,-,u,rfl,h2⟩ | ⟨h2,-⟩⟩
   ·exact⟨u,rfl,h1,h2⟩
   exact absurd h2 HE.o
  clear hgi
  go_wp2_with (first | (go_at_call 117;refine qvj.mono ?_;rintro e w2 ⟨u,rfl,bE,ET⟩;have bK:=zh (HB.o.trans (bE.o.mono HB.o.size));have cF:=zh (HD.o.below bE.o HD.o.lt);clear bE;have z0:=cF.o.cell 0;have z1:=cF.o.cell 1;have z2:=cF.o.cell 2;have z3:=cF.o.cell 3;have z4:=cF.o.cell 4;simp only[aP,aQ,aO] at z0 z1 z2 z3 z4;have hre:=Cj.o (kr Zt.o) w2 u (HV.o.grow bK.o) ET.o) | (go_at_call 119;refine hre.mono ?_;rintro e w3 ⟨cO,v3,rfl,hE3⟩;have bY:=zh (bK.o.trans (cO.mono bK.o.size));have hfr:=qqu v3 (ef b) w3 hE3 (by have:=(kr Zt.o).sup1;unfold ef;simp;omega);clear cO hE3) | (go_at_call 118;refine hfr.mono ?_;intro e w4 h4;have hT:=FracsPost.tellO h4 bY.o Zt.o Htl.o;obtain⟨-,⟨-,v4,rfl,-⟩ | ⟨-,rfl⟩⟩:=h4))
  all_goals
   go_ret2
   exact hT
 have HE:Y0 (¬ (dt b=true∧cJ b=true)):=hc
 clear hc
 have qvj:Calls Tryz.prog 117 #[.agg (zC b As cs Al cl)] W1 fun e w'=>eX b≠0∧e = .returned (.tuple #[.slice none 0 0,.int .i64 (eX b)])∧Y0 (Below W1.heap.size W1 w'):=by
  refine hgi.mono ?_
  rintro e w' ⟨h1,⟨h3,h4,-⟩ | ⟨h2,rfl⟩⟩
  ·exact absurd ⟨h3,h4⟩ HE.o
  exact⟨h2,rfl,h1⟩
 clear hgi
 generalize hk:eX b=k at *
 have HK:=zh hk
 clear hk
 go_wp2_with (go_at_call 117;refine qvj.mono ?_;rintro e w2 ⟨hk,rfl,bE⟩;have YX:(k==0)=false:=beq_eq_false_iff_ne.2 hk;have LO:(k != 0)=true:=bne_iff_ne.2 hk)
 go_ret2
 exact⟨HB.o.trans (bE.o.mono HB.o.size),.inr ⟨k,hk,.inl (by rw[HK.o];exact hk),rfl,fun h=>absurd h (by rw[HK.o];exact hk)⟩⟩
theorem I8 {v:Value} {s:SetT} {w:World} (hv:BeamAt w w.heap.size v (fD s)) (hn:s.name.size≤maxLen) (aK:bS s=true) :
  Calls Tryz.prog 75 #[v] w (qY s w):=by
 refine (Fg v (fD s) w hv hn).mono ?_
 rintro e w' ⟨hb,⟨-,-,h3,v',rfl,h4⟩ | ⟨k,hk,h,rfl,h5⟩⟩
 ·exact⟨hb,.inl ⟨by unfold Zs;rw[aK,h3];rfl,v',rfl,h4⟩⟩
 obtain rfl:=h5 (uK aK)
 have h3:iU (ef (fD s))=false:=by
  rcases h with h | h
  ·exact absurd (uK aK) h
  exact h
 have hE:Zs s=5:=by unfold Zs;rw[aK,h3];rfl
 exact⟨hb,.inr ⟨by rw[hE];decide,by rw[hE]⟩⟩
theorem Qn (v:Value) (s:SetT) (w:World) (hv:SetAt w w.heap.size v s) (hn:SetNames s):Calls Tryz.prog 34 #[v] w (qY s w):=by
 have JK:=fun W (hb:Below w.heap.size w W)=>BQ v s W ((hv.below hb (yA _)).mono hb.size) hn
 have HBo:=zh fun (aK:bS s=true) W (hb:Below w.heap.size w W)=>Qq v s W ((hv.below hb (yA _)).mono hb.size) aK
 have HLi:=zh fun (aK:bS s=true) v W (h:BeamAt W W.heap.size v (fD s))=>I8 h hn.name aK
 obtain⟨Al,cl,Ai,ci,Ab,cb,rfl,-,-,-⟩:=hv
 have HD:=zh (Blk.new w 26 (zA s Al cl Ai ci Ab cb))
 have bZ:=zh ((yB _ w).alloc (yA _) (.cells (zA s Al cl Ai ci Ab cb) 26))
 clear hn
 have Cf:=JK _ bZ.o
 clear JK
 unfold aL at *
 rcases yL (bS s) with aK | aK
 ·have PD:=HBo.o aK
  have hli:=HLi.o aK
  rw[aK] at Cf
  clear aK HBo HLi
  go_enter Tryz.func34,Tryz.ntmps34
  go_wp2_with (first | (go_at_call 69;refine Cf.mono ?_;rintro e w2 ⟨rfl,bE⟩;have hbx:=bZ.o.trans (bE.mono bZ.o.size);have cF:=zh (HD.o.below bE HD.o.lt);have z0:=cF.o.cell 0;have z1:=cF.o.cell 1;have z2:=cF.o.cell 2;have z3:=cF.o.cell 3;have z4:=cF.o.cell 4;have z5:=cF.o.cell 5;have z6:=cF.o.cell 6;have z7:=cF.o.cell 7;have z8:=cF.o.cell 8;have z9:=cF.o.cell 9;have jg:=cF.o.cell 10;have fc:=cF.o.cell 11;have gU:=cF.o.cell 12;simp only[aP,aQ,aO] at z0 z1 z2 z3 z4 z5 z6 z7 z8 z9 jg fc gU) | (go_at_call 76;refine (PD _ hbx).mono ?_;rintro e w3 ⟨cO,v3,rfl,NI⟩;have bY:=zh (hbx.trans (cO.mono hbx.size));have qkJ:=hli v3 w3 NI) | (go_at_call 75;refine qkJ.mono ?_;rintro e w4 ⟨cD,⟨hE,v4,rfl,h4⟩ | ⟨hE,rfl⟩⟩))
  ·go_ret2
   exact⟨bY.o.trans (cD.mono bY.o.size),.inl ⟨hE,v4,rfl,bo h4 bY.o.size⟩⟩
  go_ret2
  exact⟨bY.o.trans (cD.mono bY.o.size),.inr ⟨hE,rfl⟩⟩
 have HE:Y0 (Zs s=1):=by unfold Y0 Zs;rw[aK];rfl
 rw[aK] at Cf
 clear aK HBo HLi
 go_enter Tryz.func34,Tryz.ntmps34
 go_wp2_with (go_at_call 69;refine Cf.mono ?_;rintro e w2 ⟨rfl,bE⟩)
 go_ret2
 exact⟨bZ.o.trans (bE.mono bZ.o.size),.inr ⟨by rw[HE.o];decide,by rw[HE.o];rfl⟩⟩
def sV (x:SetT):ByteArray:=⟨(eu x).toArray⟩
theorem FX {x y:SetT} (hx:bS x=true) (hy:bS y=true) (h:sV x=sV y):x=y:=by
 refine Gj (wa hx) (wa hy) ?_
 have:=congrArg (fun b:ByteArray=>b.data.toList) h
 simpa[sV] using this
def KF (w:World) (M:Nat→Prop) (K:List SetT) (F:ByteArray→Option Value):Prop :=
 (∀ x,bS x=true→(F (sV x)).isSome=decide (x∈K))∧∀ x∈K,∃ v,F (sV x)=some (.agg #[v,.int .i64 (Zs x)])∧FlatM w M v (ax x).length ((ax x).flatMap FrT.cells)
theorem KF.none (w:World) (M:Nat→Prop):KF w M [] (fun _=>Option.none):=⟨fun _ _=>by simp,fun _ h=>absurd h YG⟩
theorem KF.add {w w':World} {M M':Nat→Prop} {K:List SetT} {F:ByteArray→Option Value} (h:KF w M K F) (hK:∀ y∈K,bS y=true) {x:SetT} (hx:bS x=true) (hn:x∉K) {v:Value}
  (hk:KeepM M w w') (hs:∀ g,M g→M' g) (hv:FlatM w' M' v (ax x).length ((ax x).flatMap FrT.cells)):KF w' M' (K++[x]) (qg F (sV x) (.agg #[v,.int .i64 (Zs x)])):=by
 constructor
 ·intro y hy
  unfold qg
  by_cases e:sV y=sV x
  ·rw[if_pos e]
   obtain rfl:=FX hy hx e
   simp
  rw[if_neg e,h.1 y hy]
  refine decide_eq_decide.2 ⟨fun h=>List.mem_append_left _ h,fun h=>(List.mem_append.1 h).resolve_right fun h=>e ?_⟩
  rw[List.mem_singleton.1 h]
 intro y hy
 unfold qg
 rcases List.mem_append.1 hy with hy | hy
 ·have e:sV y≠sV x:=fun e=>hn (FX (hK y hy) hx e▸hy)
  rw[if_neg e]
  obtain⟨u,e1,e2⟩:=h.2 y hy
  exact⟨u,e1,(e2.kept hk).sub hs⟩
 rw[List.mem_singleton] at hy
 subst hy
 rw[if_pos rfl]
 exact⟨v,rfl,hv⟩
theorem KnownAt.open_ {w:World} {B:Nat} {M:Nat→Prop} {mv:Value} {K:List SetT} (h:KnownAt w B M mv K):(mv = .map none∧K=[])∨∃ b F,mv = .map (some b)∧B≤b∧¬ M b∧KMap w b K.length F∧KF w M K F:=by
 rcases h with h | ⟨b,F,h1,h2,h3,h4,h5,h6⟩
 ·exact .inl h
 exact .inr ⟨b,F,h1,h2,h3,h4,h5,h6⟩
section
variable {W W8:World} {B D:Nat} {M:Nat→Prop} {st:St} {r:StR} {x:SetT} {v:Value} {b base:Nat} {F:ByteArray→Option Value}
def Ee (M:Nat→Prop) (v:Value) (g:Nat):Prop:=M g∨v.ownBlock=some g
theorem Gf (h:StoreAt W B D M st r) (aK:StOk st) (hx:bS x=true) (hn:x∉st.known) (hKF:KF W M st.known F)
  (hv:W.ownsRow base 82 2 v (ax x).length ((ax x).flatMap FrT.cells)) (hs:W.heap.size≤W8.heap.size)
  (Wq:∀ g,g<W.heap.size→g≠D→r.mv ≠ .map (some g)→W8.heap[g]? = W.heap[g]?)
  (WC:Blk W8 D 56 #[r.sv,r.pv,.map (some b),.int .i64 ((st.work+1:Nat):Int)])
  (hb:B≤b) (hbM:¬ M b) (Wn:KMap W8 b (st.known.length+1) (qg F (sV x) (.agg #[v,.int .i64 (Zs x)]))) :
  StoreAt W8 B D (Ee M v) { st with known:=st.known++[x],work:=st.work+1 } ⟨r.sv,r.L,r.pv,r.P,.map (some b)⟩:=by
 have hvt:=fun g (e:v.ownBlock=some g)=>cm hv e
 have hmv:∀ g cs t f,W.heap[g]? = some (.cells cs t f)→r.mv ≠ .map (some g):=fun g cs t f hc e=>by
  rcases h.known with⟨k,_⟩ | ⟨b',F',h1,h2,h3,h4,_⟩
  ·rw[k] at e;cases e
  rw[h1] at e
  obtain rfl:b'=g:=by simpa using e
  obtain⟨D',⟨es,clock,jr,_⟩,_⟩:=h4
  rw[jr] at hc
  cases hc
 have hDv:∀ g,v.ownBlock=some g→g≠D:=fun g e e'=>by
  obtain⟨cs,hc⟩:=hvt g e
  have:=h.blk
  unfold Blk at this
  rw[e',this] at hc
  injection hc with hc
  injection hc with _ hc _
  exact absurd hc (by decide)
 have hM:KeepM M W W8:=⟨hs,fun g hg hl=>Wq g hl (fun e=>h.notM (e▸hg)) (fun e=>by
  rcases h.known with⟨k,_⟩ | ⟨b',F',h1,h2,h3,_⟩
  ·rw[k] at e;cases e
  rw[h1] at e
  obtain rfl:b'=g:=by simpa using e
  exact h3 hg)⟩
 have hv8:W8.ownsRow base 82 2 v (ax x).length ((ax x).flatMap FrT.cells):=bX hv fun g e=>by
  obtain⟨cs,hc⟩:=hvt g e
  exact Wq g (hv.lt g e).2 (hDv g e) (hmv g cs _ _ hc)
 have LJ:∀ g,M g→Ee M v g:=fun g hg=>.inl hg
 refine⟨WC,h.base,?_,?_,(h.sets.kept hM).sub LJ,h.setsE,?_,?_,fun q hq=>((h.past q hq).kept hM).sub LJ,h.pastE,?_⟩
 ·rintro (hg | hg)
  ·exact h.notM hg
  exact hDv D hg rfl
 ·rintro g (hg | hg)
  ·exact yK (h.lt g hg) hs
  exact (hv8.lt g hg).2
 ·refine bX h.own fun g e=>?_
  obtain⟨cs,hc⟩:=cm h.own e
  refine Wq g (h.own.lt g e).2 (fun e'=>?_) (hmv g cs _ _ hc)
  have:=h.blk
  unfold Blk at this
  rw[e',this] at hc
  injection hc with hc
  injection hc with _ hc _
  exact absurd hc (by decide)
 ·rintro g e (hg | hg)
  ·exact h.ownM g e hg
  obtain⟨cs,hc⟩:=cm h.own e
  obtain⟨cs',pZ⟩:=hvt g hg
  rw[hc] at pZ
  injection pZ with pZ
  injection pZ with _ pZ _
  exact absurd pZ (by decide)
 have qjJ:=hKF.add aK.known hx hn hM LJ (FlatM.of_own hv8 fun g hg=>.inr hg)
 refine .inr ⟨b,_,rfl,hb,?_,?_,qjJ.1,qjJ.2⟩
 ·rintro (hg | hg)
  ·exact hbM hg
  obtain⟨cs,hc⟩:=cm hv8 hg
  obtain⟨D',⟨es,clock,jr,_⟩,_⟩:=Wn
  rw[jr] at hc
  cases hc
 rw[yQ]
 exact Wn
theorem J4 {i:Nat} {u:Value} {cs:Array Value} (hb:Blk W D 56 cs) (hB:B≤D):ChgS B W (W.setCell ⟨D,i,none⟩ u):=by
 have hG:=aY W D i u
 refine⟨(yB B W).grown hG (yH hB (YJ hb.lt)) (fun k e=>by have e1:D=k:=(by simpa using e);omega),fun g cs' t f hc h1 _=>hG.block g (Array.getElem?_eq_some_iff.1 hc).1 (fun e=>?_)⟩
 have e1:g=D:=by simpa using e
 unfold Blk at hb
 rw[e1,hb] at hc
 injection hc with hc
 injection hc with _ hc _
 exact h1 hc.symm
theorem Qe {i:Nat} {u:Value} {sv pv mv wk sv' pv' mv' wk':Value} (hb:Blk W D 56 #[sv,pv,mv,wk]) (hB:B≤D) (gZ:Blk (W.setCell ⟨D,i,none⟩ u) D 56 #[sv',pv',mv',wk']) (hp:∀ g,pv'.ownBlock=some g→pv.ownBlock=some g∨W.heap.size≤g) (hm:∀ g,mv' = .map (some g)→mv = .map (some g)∨W.heap.size≤g):ChgF B D W (W.setCell ⟨D,i,none⟩ u) :=
 ⟨J4 hb hB,KeepF.of hb (aY W D i u).size (fun g aw h1 _ _=>(aY W D i u).block g aw (fun e=>h1 (by simpa using e))) gZ hp hm⟩
theorem qqr {n:Nat} (hm:KMap W b n F) (hB:B≤b) (hG:W.grownBy W8 (some b)):ChgS B W W8:=by
 refine⟨(yB B W).grown hG (yH hB (YJ hm.lt)) (fun k e=>by have e1:b=k:=(by simpa using e);omega),fun g cs' t f hc _ _=>hG.block g (Array.getElem?_eq_some_iff.1 hc).1 (fun e=>?_)⟩
 have e1:g=b:=by simpa using e
 obtain⟨D',⟨es,clock,jr,_⟩,_⟩:=hm
 rw[e1,jr] at hc
 cases hc
theorem XA {n:Nat} {sv pv wk:Value} (hb:Blk W D 56 #[sv,pv,.map (some b),wk]) (hm:KMap W b n F) (hB:B≤b) (hG:W.grownBy W8 (some b)):ChgF B D W W8:=by
 refine⟨qqr hm hB hG,KeepF.of hb hG.size (fun g aw _ _ h3=>hG.block g aw (fun e=>h3 (by rw[e]))) (hb.kept hG (fun e=>?_)) (fun _ e=>.inl e) (fun _ e=>.inl e)⟩
 have e1:D=b:=by simpa using e
 obtain⟨D',⟨es,clock,jr,_⟩,_⟩:=hm
 unfold Blk at hb
 rw[e1,jr] at hb
 cases hb
end
def ma (st:St) (nm:ByteArray):List FrT×Int :=
 match fG st.sets nm with
 | some k=>(match st.sets[k]? with | some x=>(ax x,Zs x) | none=>([],0))
 | none=>([],9)
def lI (B D:Nat) (M:Nat→Prop) (st:St) (nm:ByteArray) (w:World) (e:Ending) (w':World):Prop :=
 ChgF B D w w'∧∃ M' r' v,StoreAt w' B D M' (bG st nm) r'∧(∀ g,M' g→M g∨w.heap.size≤g)∧e = .returned (.tuple #[v,.int .i64 (ma st nm).2]) ∧
  w'.ownsRow w.heap.size 82 2 v (ma st nm).1.length ((ma st nm).1.flatMap FrT.cells)∧∀ g,v.ownBlock=some g→¬ M' g
theorem XC {B D:Nat} {a b:World} (h:ChgF B D a b) (hB:B≤a.heap.size):B≤b.heap.size:=yH hB h.bel.size
def qzp (w W5 W6:World) (B D:Nat) (M:Nat→Prop) (st:St) (r:StR) (b R:Nat) (v:Value) (er:Int):Prop :=
 ∃ F,KF W5 M st.known F∧KMap W6 b st.known.length F∧B≤b∧¬ M b∧Blk W6 D 56 #[r.sv,r.pv,.map (some b),.int .i64 (st.work:Int)]∧ChgF B D w W6∧W5.heap.size≤W6.heap.size ∧
  (∀ g,g<W5.heap.size→g≠D→r.mv ≠ .map (some g)→W6.heap[g]? = W5.heap[g]?)∧Blk W6 R 111 #[v,.int .i64 er]∧∀ g,g<W5.heap.size→r.mv ≠ .map (some g)→g≠b
theorem Pj {w W5:World} {B D:Nat} {M:Nat→Prop} {st:St} {r:StR} {b R:Nat} {v:Value} {er:Int} (h:StoreAt W5 B D M st r) (hm:r.mv = .map (some b)) (hw:Below w.heap.size w W5) (hB:B≤w.heap.size) (hR:Blk W5 R 111 #[v,.int .i64 er]):qzp w W5 W5 B D M st r b R v er:=by
 rcases h.known.open_ with⟨e,_⟩ | ⟨b',F,e,k1,k2,k3,k4⟩
 ·rw[hm] at e;cases e
 rw[hm] at e
 obtain rfl:b=b':=by simpa using e
 refine⟨F,k4,k3,k1,k2,?_,ChgF.of_below hw hB,yA _,fun _ _ _ _=>rfl,hR,fun g _ h e=>h (e▸hm)⟩
 have:=h.blk
 rw[hm] at this
 exact this
theorem Pk {w W5:World} {B D:Nat} {M:Nat→Prop} {st:St} {r:StR} {b R:Nat} {v:Value} {er:Int} (h:StoreAt W5 B D M st r) (hm:r.mv = .map none) (hw:Below w.heap.size w W5) (hB:B≤w.heap.size) (hR:Blk W5 R 111 #[v,.int .i64 er]) (hb:b=W5.heap.size) (hRD:R≠D) :
  qzp w W5 ((W5.alloc (.map #[] 0)).setCell ⟨D,2,none⟩ (.map (some b))) B D M st r b R v er:=by
 subst hb
 have hK:st.known=[]:=by
  rcases h.known.open_ with⟨_,e⟩ | ⟨b',F,e,_⟩
  ·exact e
  rw[hm] at e;cases e
 have hbD:W5.heap.size≠D:=fun e=>by have:=h.blk.lt;omega
 have ha:=(yB W5.heap.size W5).alloc (yA _) (.map #[] 0)
 have WC:=h.blk.alloc (.map #[] 0)
 refine⟨fun _=>none,by rw[hK];exact KF.none _ _,?_,yH hB hw.size,fun hg=>by have:=h.lt _ hg;omega,?_,?_,?_,?_,?_,fun g hg _ e=>by omega⟩
 ·rw[hK]
  exact (KMap.made W5).of_heap (YC _ _ _ _ hbD)
 ·have:=WC.set_ 2 (.map (some W5.heap.size))
  simpa using this
 ·exact⟨((ChgS.of_below hw hB).trans (ChgS.of_below ha (yH hB hw.size))).trans (J4 WC h.base),(KeepF.of_below hw).trans (KeepF.of h.blk (yH ha.size (aY (W5.alloc (.map #[] 0)) D 2 (.map (some W5.heap.size))).size) (fun g hg hD _ _=>by rw[YC _ _ _ _ hD];exact ha.block g hg) (sv':=r.sv) (pv':=r.pv) (mv':=.map (some W5.heap.size)) (wk':=.int .i64 (st.work:Int)) (by have:=WC.set_ 2 (.map (some W5.heap.size));simpa using this) (fun _ e=>.inl e) (fun g e=>.inr (by have e1:W5.heap.size=g:=(by simpa using e);omega)))⟩
 ·have:=(aY (W5.alloc (.map #[] 0)) D 2 (.map (some W5.heap.size))).size
  exact yH ha.size this
 ·intro g hg hD _
  rw[YC _ _ _ _ hD]
  exact ha.block g hg
 exact (hR.alloc _).far hRD _
theorem Mi (b:Nat) (w:World):(binOp .eql 54 (.map (some b)) (.map none)).run Tryz.prog w = .ok (.bool false) w:=by kernel_rfl
theorem PT (w:World):(binOp .eql 54 (.map none) (.map none)).run Tryz.prog w = .ok (.bool true) w:=by kernel_rfl
theorem Di {s:SetT} (h:bS s=true):(ax s).length≤10:=by
 unfold ax
 split
 ·unfold oA ef
  rw[yP,yP,List.length_range]
  exact (jL h).1
 exact yI _
theorem L5 {s:SetT} {w:World} {e:Ending} {w':World} (h:qY s w e w'):Below w.heap.size w w'∧∃ A c,e = .returned (.tuple #[.slice A (ax s).length c,.int .i64 (Zs s)])∧w'.ownsRow w.heap.size 82 2 (.slice A (ax s).length c) (ax s).length ((ax s).flatMap FrT.cells):=by
 obtain⟨hb,⟨h0,v,rfl,ho⟩ | ⟨h0,rfl⟩⟩:=h
 ·refine⟨hb,?_⟩
  unfold ax
  rw[if_pos h0,h0]
  obtain⟨A,c,rfl⟩:=bD ho
  exact⟨A,c,rfl,ho⟩
 refine⟨hb,none,0,?_,?_⟩
 ·unfold ax
  rw[if_neg h0]
  rfl
 unfold ax
 rw[if_neg h0]
 exact yJ _ _ _ _
theorem vw (B D:Nat) (M:Nat→Prop) (st:St) (r:StR) (nm:ByteArray) (w:World) (h:StoreAt w B D M st r) (aK:StOk st) (ht:Tab w) (hw:st.work≤1000000) (Wp:st.known.length≤1000000) :
  Calls Tryz.prog 22 #[.pointer (some ⟨D,0,none⟩),.string nm] w (lI B D M st nm w):=by
 have hN:=(Ek B D M st r nm w h).mono fun _ _ hp=>Dh h aK hp
 have hB:=yH h.base (YJ h.blk.lt)
 have HLt:=zh h.lt
 have HS:=zh h
 have HT:=zh ht
 have Qy:=zh aK
 clear h aK ht
 go_enter Tryz.func22,Tryz.ntmps22
 go_wp2_with fail
 refine hN.mono ?_
 rintro e w2 ⟨bE,⟨k,⟨s,al,cl,ai,ci,ab,cb⟩,hi,hk,rfl,hc,hv⟩ | ⟨hi,rfl⟩⟩
 ·simp only at hk hv
  have nD:Y0 (ma st nm=(ax s,Zs s)):=by unfold Y0 ma;rw[hi];simp[hk]
  have lP:Y0 (bG st nm=if s∈st.known then st else { st with known:=st.known++[s],work:=st.work+1 }):=by unfold Y0 bG;rw[hi];simp[hk]
  have bK:=zh bE
  have hs:=hc.set
  change SetAt w2 w2.heap.size (aL s al cl ai ci ab cb) s at hs
  have ha:=(yB w2.heap.size w2).alloc (yA _) (.cells (zA s al cl ai ci ab cb) 26)
  have hTx:=(VH _ s _ ((hs.below ha (yA _)).mono ha.size) (kP hv) ((HT.o.below bE).below ha))
  rw[if_pos hv] at hTx
  have HV:=zh hv
  have HA:=zh ha
  have HSs:=zh hs
  have gx:=zh (HS.o.below bE)
  have HCb:=zh (Blk.new w2 26 (zA s al cl ai ci ab cb))
  clear bE hi hk hc hv hs ha hN HS HT
  unfold SetC.val aL at *
  go_wp2_with fail
  refine hTx.mono ?_
  rintro e w3 ⟨rfl,cO⟩
  have jS:=zh ((gx.o.below HA.o).below cO)
  have rq:=zh (HA.o.trans (cO.mono HA.o.size))
  have bY:=zh (bK.o.trans (rq.o.mono bK.o.size))
  have qzx:=zh (HCb.o.below cO HCb.o.lt)
  obtain⟨A,n,c,re,Dv,IX⟩:=Ba jS.o.known HV.o
  have HIn:=zh IX
  have im:=jS.o.blk.cell 2
  simp only[aP,aQ,aO] at im
  have Kc:=jS.o.blk.lt
  have HTz:=zh (sW HV.o)
  generalize hTg:(⟨(eu s).toArray⟩:ByteArray)=tx at *
  have Oc:Y0 (tx=sV s):=hTg.symm
  clear hTg
  clear cO gx bK HA hTx IX HCb
  by_cases hm:s∈st.known
  ·obtain⟨hre,Ww⟩:=HIn.o hm
   rw[yD hm] at Dv
   subst hre
   obtain⟨Av,cv,ev,-⟩:=Ww
   injection ev with e1 e2 e3
   subst e1 e2 e3
   have WM:=(yB w3.heap.size w3).alloc (yA _) (.cells #[.slice A (ax s).length c,.int .i64 (Zs s)] 111)
   have HR:=zh (Blk.new w3 111 #[.slice A (ax s).length c,.int .i64 (Zs s)])
   have dU:=zh (bY.o.trans (WM.mono bY.o.size))
   have iW:=zh (jS.o.below WM)
   have qjB:FrsAt (w3.alloc (.cells #[.slice A (ax s).length c,.int .i64 (Zs s)] 111)) w3.heap.size (.slice A (ax s).length c) (ax s):=Flat.below (HIn.o hm).2.flat WM (yA _)
   have HE3:Y0 (bG st nm=st):=by unfold Y0;rw[lP.o,if_pos hm]
   have QZ:Y0 (∀ w1,Below (w3.alloc (.cells #[.slice A (ax s).length c,.int .i64 (Zs s)] 111)).heap.size (w3.alloc (.cells #[.slice A (ax s).length c,.int .i64 (Zs s)] 111)) w1→Calls Tryz.prog 68 #[.slice A (ax s).length c] w1 fun e w'=>∃ u,e = .returned u∧Below w1.heap.size w1 w'∧(vd w.heap.size 82 2 (ax s).length ((ax s).flatMap FrT.cells)).σ u∧(vd w.heap.size 82 2 (ax s).length ((ax s).flatMap FrT.cells)).φ u w'):=fun w1 ao=>by
    have hl:=Di HV.o
    exact CP (B:=w.heap.size) (DI _ (ax s) w1 ((FrsAt.below qjB ao (by have:=WM.size;omega)).mono (yH (by have:=WM.size;omega) ao.size)) (by omega)) (yH dU.o.size ao.size)
   obtain⟨b,hmv⟩:∃ b,r.mv = .map (some b):=by
    rcases jS.o.known.open_ with⟨_,e⟩ | ⟨b,F,e,_⟩
    ·rw[e] at hm
     exact absurd hm YG
    exact⟨b,e⟩
   rw[hmv] at im Dv
   obtain⟨yr0,yr1⟩:=HR.o.c2
   clear hm HIn jS bY lP qzx HSs HV qjB hmv
   go_wp2_with fail
   generalize w3.alloc (.cells #[.slice A (ax s).length c,.int .i64 (Zs s)] 111)=W4 at *
   clear im Dv WM HR rq
   generalize Zs s=er at *
   obtain⟨Av,cv,hcv⟩:∃ Av cv,(Value.slice Av (ax s).length cv) = .slice A (ax s).length c:=⟨A,c,rfl⟩
   rw[← hcv] at QZ yr0
   clear hcv
   have u0:=YL yr0
   have u1:=YL yr1
   clear yr0 yr1
   refine ag 6 (fun jx=>if jx=2 then some (vd w.heap.size 82 2 (ax s).length ((ax s).flatMap FrT.cells)) else none) (by kernel_rfl) (by kernel_rfl) ?_
   simp only[aU,aT,aW,aX]
   refine ae 2 (by kernel_rfl) (by rfl) (by decide) ?_
   simp only[aU,aT,aW,aX]
   repeat (go_big_quiet_step (fail))
   refine YH ?_
   refine af rfl rfl ?_ ?_
   ·intro w1 ao hk
    exact⟨68,#[.slice Av (ax s).length cv],by go_simp,QZ.o w1 ao⟩
   rintro _ ⟨Ak,ck,rfl⟩
   simp only[Act.put,aJ,aI,aH]
   refine ae 3 (by kernel_rfl) (by rfl) (by decide) ?_
   simp only[aU,aT,aW,aX]
   repeat (go_big_quiet_step (fail))
   refine YH ?_
   refine Zc ?_
   intro w9 ja hF
   have o9:w9.ownsRow w.heap.size 82 2 (.slice Ak (ax s).length ck) (ax s).length ((ax s).flatMap FrT.cells):=hF 70
   clear hF
   go_wp2_with fail
   go_ret2
   have Jb:=dU.o.trans (ja.mono dU.o.size)
   refine⟨ChgF.of_below Jb hB,M,r,_,?_,fun g hg=>.inl hg,by rw[nD.o];rfl,by rw[nD.o];exact o9,fun g e hg=>?_⟩
   ·rw[HE3.o]
    exact iW.o.below ja
   have h1:=(o9.lt g e).1
   have h2:=HLt.o g hg
   omega
  rw[yC hm] at Dv
  have HM:=zh hm
  have WM:=(yB w3.heap.size w3).alloc (yA _) (.cells #[.slice A n c,.int .i64 re] 111)
  have Oh:=zh WM
  have HR:=zh (Blk.new w3 111 #[.slice A n c,.int .i64 re])
  have JX:=HSs.o.below rq.o (yA _)
  have hsb:=(JX.below WM (YJ (by have:=rq.o.size;have:=qzx.o.lt;omega))).mono (yH rq.o.size WM.size)
  have PH:=(Qn _ s _ hsb (kP HV.o)).mono fun _ _ hp=>L5 hp
  unfold aL at PH
  have zc0:=fun o=>(qzx.o.alloc o).cell 0
  have Z6:=fun o=>(qzx.o.alloc o).cell 1
  have Z5:=fun o=>(qzx.o.alloc o).cell 2
  have zc3:=fun o=>(qzx.o.alloc o).cell 3
  have zc4:=fun o=>(qzx.o.alloc o).cell 4
  have zc5:=fun o=>(qzx.o.alloc o).cell 5
  have zc6:=fun o=>(qzx.o.alloc o).cell 6
  have zc7:=fun o=>(qzx.o.alloc o).cell 7
  have zc8:=fun o=>(qzx.o.alloc o).cell 8
  have zc9:=fun o=>(qzx.o.alloc o).cell 9
  have qkq:=fun o=>(qzx.o.alloc o).cell 10
  have qkp:=fun o=>(qzx.o.alloc o).cell 11
  have qko:=fun o=>(qzx.o.alloc o).cell 12
  simp only[aP,aQ,aO] at zc0 Z6 Z5 zc3 zc4 zc5 zc6 zc7 zc8 zc9 qkq qkp qko
  clear hm HIn HSs JX hsb WM
  generalize qvf:r.mv=mv at *
  have Yc:=zh qvf
  have hmv:(∃ b,mv = .map (some b))∨mv = .map none:=by
   rw[← qvf]
   rcases jS.o.known.open_ with⟨e,_⟩ | ⟨b,F,e,_⟩
   ·exact .inr e
   exact .inl ⟨b,e⟩
  clear qvf
  go_wp2_with fail
  refine PH.mono ?_
  rintro e w4 ⟨cD,Av,cv,rfl,YU⟩
  clear zc0 Z6 Z5 zc3 zc4 zc5 zc6 zc7 zc8 zc9 qkq qkp qko
  have HR4:=zh (HR.o.below cD HR.o.lt)
  have hr0:=HR4.o.cell 0
  have Zb:=HR4.o.frozen 0
  have qzv:=zh (HR4.o.set_ 0 (.slice Av (ax s).length cv))
  have hr1:=qzv.o.cell 1
  have hf1:=qzv.o.frozen 1
  have m8:=zh (qzv.o.set_ 1 (.int .i64 (Zs s)))
  simp only[aJ,aI] at hr1
  simp only[aP,aQ,aO] at hr0 hr1
  have bg:Below w3.heap.size w3 ((w4.setCell ⟨w3.heap.size,0,none⟩ (.slice Av (ax s).length cv)).setCell ⟨w3.heap.size,1,none⟩ (.int .i64 (Zs s))):=((Oh.o.trans (cD.mono Oh.o.size)).setCell (yA _) _).setCell (yA _) _
  have cN:=zh bg
  have gD:=zh (jS.o.below bg)
  have kg:Y0 (((w4.setCell ⟨w3.heap.size,0,none⟩ (.slice Av (ax s).length cv)).setCell ⟨w3.heap.size,1,none⟩ (.int .i64 (Zs s))).ownsRow (w3.heap.size+1) 82 2 (.slice Av (ax s).length cv) (ax s).length ((ax s).flatMap FrT.cells)):=by
   rw[yZ] at YU
   refine bX YU fun g e=>?_
   have:=(YU.lt g e).1
   rw[YC _ _ _ _ (by show g≠w3.heap.size;omega),YC _ _ _ _ (by show g≠w3.heap.size;omega)]
  have P6:=gD.o.blk.cell 2
  simp only[aP,aQ,aO] at P6
  rw[Yc.o] at P6
  have qjp:=zh (bY.o.trans (bg.mono bY.o.size))
  have vqO:=gD.o.blk.lt
  simp only[aJ,aI,aH] at m8
  have hws:=bY.o.size
  clear cD bg YU im Dv HR4 qzv Oh HR PH rq qzx jS bY
  have QF:=@run_makeMap Tryz.prog
  have YT:=Mi
  have hq2:=PT
  have hdA:=fun o=>(gD.o.blk.alloc o).cell 2
  have hfA:=fun o=>(gD.o.blk.alloc o).frozen 2
  simp only[aP,aQ,aO] at hdA
  rw[Yc.o] at hdA
  rcases hmv with⟨b,rfl⟩ | rfl
  case' inl=>
   go_upto_region 12 with fail
   generalize ((w4.setCell ⟨w3.heap.size,0,none⟩ (.slice Av (ax s).length cv)).setCell ⟨w3.heap.size,1,none⟩ (.int .i64 (Zs s)))=W5 at *
   have H6:=Pj gD.o Yc.o qjp.o hB m8.o
   obtain⟨W6,hW6⟩:∃ W6,W5=W6:=⟨_,rfl⟩
   have H6:Y0 (qzp w W5 W6 B D M st r b w3.heap.size (.slice Av (ax s).length cv) (Zs s)):=hW6▸H6
   rw[hW6]
   clear hW6 hdA hfA QF YT hq2 P6 hr0 hr1 Zb hf1
  case' inr=>
   have qjL:Y0 (w4.heap.size=((w4.setCell ⟨w3.heap.size,0,none⟩ (.slice Av (ax s).length cv)).setCell ⟨w3.heap.size,1,none⟩ (.int .i64 (Zs s))).heap.size):=by unfold Y0;simp
   go_upto_region 12 with fail
   generalize ((w4.setCell ⟨w3.heap.size,0,none⟩ (.slice Av (ax s).length cv)).setCell ⟨w3.heap.size,1,none⟩ (.int .i64 (Zs s)))=W5 at *
   have H6:Y0 (qzp w W5 ((W5.alloc (.map #[] 0)).setCell ⟨D,2,none⟩ (.map (some w4.heap.size))) B D M st r w4.heap.size w3.heap.size (.slice Av (ax s).length cv) (Zs s)):=Pk gD.o Yc.o qjp.o hB m8.o qjL.o (by omega)
   clear hdA hfA QF YT hq2 P6 hr0 hr1 Zb hf1 qjL
   generalize (W5.alloc (.map #[] 0)).setCell ⟨D,2,none⟩ (.map (some w4.heap.size))=W6 at *
   generalize w4.heap.size=b at *
  all_goals
   obtain⟨F,k1,k2,k3,k4,k5,k6,k7,k8,k9,k10⟩:=H6.o
   have HgB:=zh k10
   have b7:Blk W6.drew D 56 #[r.sv,r.pv,.map (some b),.int .i64 (st.work:Int)]:=k5
   have R7:Blk W6.drew w3.heap.size 111 #[.slice Av (ax s).length cv,.int .i64 (Zs s)]:=k9
   have m7:KMap W6.drew b st.known.length F:=k2
   have c7:ChgF B D w W6.drew:=k6.trans (ChgF.of_below ((yB W6.heap.size W6).drew) (XC k6 hB))
   have z7:W5.heap.size≤W6.drew.heap.size:=k7
   have p7:∀ g,g<W5.heap.size→g≠D→r.mv ≠ .map (some g)→W6.drew.heap[g]? = W5.heap[g]?:=k8
   have q2:=b7.cell 2
   have Ni:=R7.cell 0
   have Nh:=R7.cell 1
   simp only[aP,aQ,aO] at q2 Ni Nh
   have q4:=b7.lt
   have HKF:=zh k1
   have Hk3:=zh k3
   have Hk4:=zh k4
   have B7:=zh b7
   have RR7:=zh R7
   have M7:=zh m7
   have C7:=zh c7
   have Z7:=zh z7
   have P7:=zh p7
   clear k1 k2 k3 k4 k5 k6 k7 k8 k9 k10 H6 b7 R7 m7 c7 z7 p7 m8
   refine fL 6 (by kernel_rfl) (by kernel_rfl) ?_
   simp only[aU,aT,aW,aX]
   repeat (go_big_quiet_step (fail))
   refine YH ?_
   generalize W6.drew=W7 at *
   clear q2 Ni Nh q4
   obtain⟨D',j1,j2,j3⟩:=M7.o
   have P4:=rU HTz.o
   have J2:=zh j2
   have J3:=zh j3
   clear j2 j3
   refine wpList_mapUpdate_own _ rfl _ _ _ 54 rfl 9 111 qH Tryz.underlying54 rY b st.known.length D' rfl j1 (by unfold maxLen;omega) _ _ _ rfl rfl P4 (.held (.agg #[.slice Av (ax s).length cv,.int .i64 (Zs s)])) [] rfl ?_
   intro W8 qxL tE
   have Zz:Y0 (KMap W8 b (st.known.length+1) (qg F tx (.agg #[.slice Av (ax s).length cv,.int .i64 (Zs s)]))):=⟨_,qxL,(KMap.step j1.isMap J2.o J3.o).1,(KMap.step j1.isMap J2.o J3.o).2⟩
   have hC8:=C7.o.trans (XA B7.o M7.o Hk3.o tE)
   have hbD:b≠D:=fun e=>by
    obtain⟨_,⟨es,clock,jr,_⟩,_⟩:=M7.o
    have:=B7.o
    unfold Blk at this
    rw[← e,jr] at this
    cases this
   have hbR:b≠w3.heap.size:=fun e=>by
    obtain⟨_,⟨es,clock,jr,_⟩,_⟩:=M7.o
    have:=RR7.o
    unfold Blk at this
    rw[← e,jr] at this
    cases this
   have B8:=zh (B7.o.kept tE (fun e=>hbD (by simpa using e.symm)))
   have R8:=zh (RR7.o.kept tE (fun e=>hbR (by simpa using e.symm)))
   have Z8:=zh (yH Z7.o tE.size)
   have P8:Y0 (∀ g,g<W5.heap.size→g≠D→r.mv ≠ .map (some g)→W8.heap[g]? = W5.heap[g]?):=fun g h1 h2 h3=>(tE.block g (yK h1 Z7.o) (fun e=>HgB.o g h1 h3 (by simpa using e))).trans (P7.o g h1 h2 h3)
   have q3:=B8.o.cell 3
   have f3:=B8.o.frozen 3
   simp only[aP,aQ,aO] at q3
   have q4:=B8.o.lt
   have w0:(0:Int)≤(st.work:Int):=yE _
   have w1:(st.work:Int)≤1000000:=by omega
   have MF:=zh hC8
   have HbD:=zh hbD
   clear qxL tE hC8 j1 J2 J3 P4 M7 B7 RR7 P7 C7 hbD hbR
   go_wp2_with fail
   have R9:=zh (R8.o.far (p:=⟨D,3,none⟩) (by show w3.heap.size≠D;omega) (.int .i64 ((st.work:Int)+1)))
   have B9:Y0 (Blk (W8.setCell ⟨D,3,none⟩ (.int .i64 ((st.work:Int)+1))) D 56 #[r.sv,r.pv,.map (some b),.int .i64 ((st.work+1:Nat):Int)]):=by
    have h1:=B8.o.set_ 3 (.int .i64 ((st.work:Int)+1))
    unfold Y0
    rw[show ((st.work+1:Nat):Int)=(st.work:Int)+1 by omega]
    simpa using h1
   have hC9:=MF.o.trans (Qe (i:=3) (u:=.int .i64 ((st.work:Int)+1)) B8.o gD.o.base B9.o (fun _ e=>.inl e) (fun _ e=>.inl e))
   have hz9:W5.heap.size≤(W8.setCell ⟨D,3,none⟩ (.int .i64 ((st.work:Int)+1))).heap.size:=yH Z8.o (aY W8 D 3 _).size
   have hm9:KMap (W8.setCell ⟨D,3,none⟩ (.int .i64 ((st.work:Int)+1))) b (st.known.length+1) (qg F (sV s) (.agg #[.slice Av (ax s).length cv,.int .i64 (Zs s)])):=by
    rw[← Oc.o]
    exact Zz.o.of_heap (YC _ _ _ _ HbD.o)
   have gg:s∉st.known:=HM.o
   have hS9:=Gf gD.o Qy.o HV.o gg HKF.o kg.o hz9 (fun g h1 h2 h3=>by
    rw[YC _ _ _ _ (by exact h2)]
    exact P8.o g h1 h2 h3) B9.o Hk3.o Hk4.o hm9
   have hO9:=bX kg.o (w':=W8.setCell ⟨D,3,none⟩ (.int .i64 ((st.work:Int)+1))) (fun g e=>by
    obtain⟨cs,hc⟩:=cm kg.o e
    have P5:g≠D:=fun e'=>by
     have:=gD.o.blk
     unfold Blk at this
     rw[← e',hc] at this
     injection this with this
     injection this with _ this _
     exact absurd this (by decide)
    rw[YC _ _ _ _ (by exact P5)]
    exact P8.o g (kg.o.lt g e).2 P5 (fun e'=>by
     rcases gD.o.known.open_ with⟨e2,_⟩ | ⟨b2,F2,e2,_,_,l3,_⟩
     ·rw[e2] at e';cases e'
     rw[e2] at e'
     obtain rfl:b2=g:=by simpa using e'
     obtain⟨_,⟨es,clock,jr,_⟩,_⟩:=l3
     rw[jr] at hc
     cases hc))
   have ny:=zh hS9
   have Kg:=zh hO9
   have HC9:=zh hC9
   have HvB:Y0 (∀ g,(Value.slice Av (ax s).length cv).ownBlock=some g→w.heap.size≤g):=fun g e=>by
    have:=(kg.o.lt g e).1
    omega
   have HE3:Y0 (bG st nm={ st with known:=st.known++[s],work:=st.work+1 }):=by unfold Y0;rw[lP.o,if_neg gg]
   clear hS9 hO9 hC9 hm9 hz9 gg HM lP Zz HKF Hk3 Hk4 P8 Z8 B8 B9 R8 HbD MF q3 f3 q4 gD kg cN qjp Yc HgB
   obtain⟨yr0,yr1⟩:=R9.o.c2
   generalize W8.setCell ⟨D,3,none⟩ (.int .i64 ((st.work:Int)+1))=W9 at *
   have QZ:Y0 (∀ w1,Below W9.heap.size W9 w1→Calls Tryz.prog 68 #[.slice Av (ax s).length cv] w1 fun e w'=>∃ u,e = .returned u∧Below w1.heap.size w1 w'∧(vd W9.heap.size 82 2 (ax s).length ((ax s).flatMap FrT.cells)).σ u∧(vd W9.heap.size 82 2 (ax s).length ((ax s).flatMap FrT.cells)).φ u w'):=fun w1 ao=>by
    have hl:=Di HV.o
    exact CP (B:=W9.heap.size) (DI _ (ax s) w1 ((FrsAt.below (Flat.of_own Kg.o) ao (yA _)).mono ao.size) (by omega)) ao.size
   generalize Zs s=er at *
   clear R9 Kg
   have u0:=YL yr0
   have u1:=YL yr1
   clear yr0 yr1
   refine ag 6 (fun jx=>if jx=2 then some (vd W9.heap.size 82 2 (ax s).length ((ax s).flatMap FrT.cells)) else none) (by kernel_rfl) (by kernel_rfl) ?_
   simp only[aU,aT,aW,aX]
   refine ae 2 (by kernel_rfl) (by rfl) (by decide) ?_
   simp only[aU,aT,aW,aX]
   repeat (go_big_quiet_step (fail))
   refine YH ?_
   refine af rfl rfl ?_ ?_
   ·intro w1 ao hk
    exact⟨68,#[.slice Av (ax s).length cv],by go_simp,QZ.o w1 ao⟩
   rintro _ ⟨Ak,ck,rfl⟩
   simp only[Act.put,aJ,aI,aH]
   refine ae 3 (by kernel_rfl) (by rfl) (by decide) ?_
   simp only[aU,aT,aW,aX]
   repeat (go_big_quiet_step (fail))
   refine YH ?_
   refine Zc ?_
   intro w9 ja hF
   have o9:w9.ownsRow W9.heap.size 82 2 (.slice Ak (ax s).length ck) (ax s).length ((ax s).flatMap FrT.cells):=hF 70
   clear hF
   go_wp2_with fail
   go_ret2
   have hw9:=HC9.o.bel.size
   refine⟨HC9.o.trans (ChgF.of_below ja (yH hB hw9)),Ee M (.slice Av (ax s).length cv),⟨r.sv,r.L,r.pv,r.P,.map (some b)⟩,.slice Ak (ax s).length ck,?_,?_,by rw[nD.o];rfl,?_,?_⟩
   ·rw[HE3.o]
    exact ny.o.below ja
   ·rintro g (hg | hg)
    ·exact .inl hg
    exact .inr (HvB.o g hg)
   ·rw[nD.o]
    exact bo o9 hw9
   intro g e hg
   have h1:=(o9.lt g e).1
   have h2:=ny.o.lt g hg
   omega
 have nD:Y0 (ma st nm=([],9)):=by unfold Y0 ma;rw[hi]
 have lP:Y0 (bG st nm=st):=by unfold Y0 bG;rw[hi]
 have bK:=zh bE
 have gx:=zh (HS.o.below bE)
 clear bE hi hN HS HT
 unfold nE dV SetC.val aL at *
 simp only[]
 go_wp2_with fail
 have ha:=(yB w2.heap.size w2).alloc (yA _) (.cells zE 26)
 have Jb:=bK.o.trans (ha.mono bK.o.size)
 go_ret2
 refine⟨ChgF.of_below Jb hB,M,r,.slice none 0 0,?_,fun g hg=>.inl hg,by rw[nD.o];rfl,by rw[nD.o];exact yJ _ _ _ _,fun g e=>by cases e⟩
 rw[lP.o]
 exact gx.o.below ha
end Go.Proofs.YtfhmbechennkbaaGreatDoor
