/- Lemmas. -/
import Derived.Test.YtfhmbechennkbaaGreatDoorR0
namespace Go.Proofs.YtfhmbechennkbaaGreatDoor
set_option maxRecDepth 100000
set_option maxHeartbeats 40000000
open Go.RowKit Go.Shelf
theorem kV:(Tryz.prog.info? 3).map (fun i=>(i.zero,i.size,i.bytes))=some (some (.int .i64 0),1,8):=by kernel_rfl
theorem AH {w w':World} {B e s n:Nat} {v:Value} {xs:List Value} (h:w.ownsRow B e s v n xs) (hb:Below w.heap.size w w'):w'.ownsRow B e s v n xs :=
 h.kept (lB (row:=none) hb) (by
  by_cases e:v.ownBlock=none
  ·exact .inl e
  exact .inr e)
theorem kq {w:World} {B:Nat} {v:Value} {x k:Nat} (h:w.ownsRow B 3 1 v k ((cd x k).map qc)):DgTo w w.heap.size v x k:=⟨RowAt.of_own h,fun _ g hg=>by
 rcases h.2 with⟨rfl,_⟩ | ⟨g',cap,cur,rfl,_,hh,_⟩
 ·simp[Value.ownBlock] at hg
 obtain rfl:g'=g:=by simpa[Value.ownBlock] using hg
 exact⟨cur,(0,0),hh⟩⟩
theorem oz {w:World} {B:Nat} {v:Value} {x k:Nat} {u:Value} (hu:u = .int .i64 (ay x k:Nat)) (h:w.ownsRow B 3 1 v (k+1) ((cd x k).map qc++[u])):w.ownsRow B 3 1 v (k+1) ((cd x (k+1)).map qc):=by
 rw[Jz,yS]
 rw[hu] at h
 exact h
theorem pA (v:Value) (n i:Nat) (w:World) (hv:dI w w.heap.size v n) (_hi:i≤maxLen) :
  Calls Tryz.prog 208 #[v,.int .i64 i] w fun e w'=>e = .returned (.int .i64 (ay n i:Nat))∧w=w':=by
 obtain⟨A,c,rfl,gC,dr,ah⟩:=hv.open_
 unfold maxLen at dr
 have k0:(0:Int)≤(i:Int):=yE _
 by_cases h:i<aj n
 ·obtain⟨b,off,rfl,hb,hx⟩:=ah i h
  have h0:=hx i h
  have hd:decide ((i:Int)<(aj n:Int))=true:=yD (by omega)
  have k1:(i:Int)<(aj n:Int):=by omega
  clear hx ah hv
  go_enter Tryz.func208,Tryz.ntmps208
  go_wp2_with fail
  go_ret
  exact⟨rfl,rfl⟩
 have hd:decide ((i:Int)<(aj n:Int))=false:=yC (by omega)
 have hz:=EX (show aj n≤i by omega)
 clear ah hv
 go_enter Tryz.func208,Tryz.ntmps208
 go_wp2_with fail
 go_ret
 exact⟨by rw[hz];rfl,rfl⟩
def tV (w:World) (n:Nat) (e:Ending) (w':World):Prop:=∃ v,e = .returned v∧Below w.heap.size w w'∧dI w' w'.heap.size v n
theorem Em (v u:Value) (m n:Nat) (w:World) (hv:dI w w.heap.size v m) (hu:dI w w.heap.size u n) (hm:aj m≤1000000) (hn:aj n≤1000000) :
  Calls Tryz.prog 205 #[v,u] w (tV w (m+n)):=by
 have HDm:Y0 (∀ W,Below w.heap.size w W→∀ i,i≤maxLen→Calls Tryz.prog 208 #[v,.int .i64 (i:Nat)] W fun e w'=>e = .returned (.int .i64 (ay m i:Nat))∧W=w'):=fun W hb i hi=>pA v m i W (DgTo.grow hv hb) hi
 have Oq:Y0 (∀ W,Below w.heap.size w W→∀ i,i≤maxLen→Calls Tryz.prog 208 #[u,.int .i64 (i:Nat)] W fun e w'=>e = .returned (.int .i64 (ay n i:Nat))∧W=w'):=fun W hb i hi=>pA u n i W (DgTo.grow hu hb) hi
 have hmn:aj (m+n)≤1000001:=oT hm hn
 obtain⟨A1,c1,rfl,-,-,-⟩:=hv.open_
 obtain⟨A2,c2,rfl,-,-,-⟩:=hu.open_
 clear hv hu
 go_enter Tryz.func205,Tryz.ntmps205
 go_wp2_with fail
 go_loopw [7,6,5] (fun ix cx ox wr=>∃ i:Nat,i≤aj (m+n)∧ix = .int .i64 i∧cx = .int .i64 (cP m n i:Nat)∧Y0 (wr.ownsRow w.heap.size 3 1 ox i ((cd (m+n) i).map qc))∧Y0 (Below w.heap.size w wr)) (fun ix _ _ _=>aj (m+n)-(intOf ix).toNat)
 case atStart=>exact⟨0,yI _,rfl,by rw[BK];rfl,yJ _ _ _ _,yB _ _⟩
 obtain⟨i,hi,rfl,rfl,HO,HB⟩:=hrel
 rename_i ox wr
 have k0:(0:Int)≤(i:Int):=yE _
 have Cg:=Nl m n i
 have hcy:=sD m n i
 by_cases aw:i<aj (m+n)
 ·have hc:(decide (i<aj m)=true)∨(decide (i<aj m)=false∧decide (i<aj n)=true)∨(decide (i<aj m)=false∧decide (i<aj n)=false∧decide (0<cP m n i)=true):=by
   by_cases d1:i<aj m
   ·exact .inl (yD d1)
   by_cases d2:i<aj n
   ·exact .inr (.inl ⟨yC d1,yD d2⟩)
   exact .inr (.inr ⟨yC d1,yC d2,yD (by have:=Cg.2 aw;omega)⟩)
  have b1:=dO m i
  have b2:=dO n i
  have e1:=I4 m n i
  have e2:=AE m n i
  have H1:=HDm.o wr HB.o i (by unfold maxLen;omega)
  have H2:=Oq.o wr HB.o i (by unfold maxLen;omega)
  generalize cW:ay m i=x1 at *
  generalize cT:ay n i=x2 at *
  generalize hx3:cP m n i=x3 at *
  have v1:IntKind.i64.wrap ((x1:Int)+(x2:Int))=((x1+x2:Nat):Int):=(yF _ (by omega)).trans (by omega)
  have v2:IntKind.i64.wrap (((x1+x2:Nat):Int)+(x3:Int))=((x1+x2+x3:Nat):Int):=(yF _ (by omega)).trans (by omega)
  have HM:Y0 (((x1:Int)+(x2:Int)+(x3:Int)) % 16777216=((ay (m+n) i:Nat):Int)):=by unfold Y0;omega
  have HQ:Y0 (((x1:Int)+(x2:Int)+(x3:Int)) / 16777216=((cP m n (i+1):Nat):Int)):=by unfold Y0;omega
  have cD:=dO (m+n) i
  have NC:=sD m n (i+1)
  clear e1 e2 Cg cW cT hx3
  rcases hc with d1 | ⟨d1,d2⟩ | ⟨d1,d2,d3⟩
  all_goals
   go_wp2_with fail
   refine (H1).mono ?_
   rintro e w2 ⟨rfl,rfl⟩
   go_wp2_with fail
   refine (H2).mono ?_
   rintro e w3 ⟨rfl,rfl⟩
   have bY:=HB
   have FB:=HO.o
   clear H1 H2 HO
   go_wp2_with (at_builtin;refine cA _ rfl (.tmp 34) (.tmp 37) 22 rfl w.heap.size 3 kV Tryz.underlying22 rfl _ i _ rfl FB (.int .i64 (((x1:Int)+(x2:Int)+(x3:Int)) % 16777216)) rfl rfl (by unfold maxLen;omega) (by omega) bY.o.size ?_;intro g cap w4 bh bq vB jA;have dU:=zh (bY.o.grown bq bY.o.size (fun k hk=>(FB.lt k hk).1));have qo:=zh (oz (by rw[HM.o]) bh);clear bh bq jA)
   clear FB bY
   go_roundw
   case rel=>exact⟨i+1,by omega,by go_num,by rw[HQ.o],qo,dU⟩
   simp[intOf];omega
 have hc:decide (i<aj m)=false∧decide (i<aj n)=false∧decide (0<cP m n i)=false:=by
  have h1:¬ (i<aj m∨i<aj n∨0<cP m n i):=fun h=>aw (Cg.1 h)
  exact⟨yC (by omega),yC (by omega),yC (by omega)⟩
 obtain⟨d1,d2,d3⟩:=hc
 have YY:i=aj (m+n):=by omega
 have hF:=kq HO.o
 rw[YY] at hF
 have HF:=zh hF
 clear Cg YY hF
 generalize cP m n i=x3 at *
 go_wp2_with fail
 go_ret
 exact⟨_,rfl,HB.o,HF.o⟩
theorem oS {x:Nat}:aj x=0↔x=0:=by
 constructor
 ·intro h
  have:=jD x
  rw[h,Nat.pow_zero] at this
  omega
 rintro rfl
 exact iu
theorem qqE {x j:Nat} (h:aj x=j+1):ay x j≠0:=by
 have h1:=PV x (fun e=>by rw[Jy] at e;subst e;rw[iu] at h;omega)
 rw[BE,NR,h,Nat.add_sub_cancel] at h1
 exact h1
theorem Ep (v:Value) (m:Nat) (w:World) (hv:dI w w.heap.size v m) :
  Calls Tryz.prog 209 #[v] w fun e w'=>e = .returned (.bool (decide (m % 2=0)))∧Below w.heap.size w w':=by
 obtain⟨A,c,rfl,gC,dr,ah⟩:=hv.open_
 unfold maxLen at dr
 have he:=Xn m
 by_cases h0:aj m=0
 ·have hm:=oS.1 h0
  have HR:Y0 (decide (m % 2=0)=true):=yD (by rw[hm])
  have hd:(((aj m:Nat):Int)==0)=true:=beq_iff_eq.2 (by omega)
  clear ah hv h0 hm he
  go_enter Tryz.func209,Tryz.ntmps209
  go_wp2_with fail
  go_ret
  exact⟨Ze HR.o.symm,yB _ _⟩
 obtain⟨b,off,rfl,hb,hx⟩:=ah 0 (by omega)
 have y0:=hx 0 (by omega)
 rw[Nat.add_zero] at y0
 have hd:(((aj m:Nat):Int)==0)=false:=beq_eq_false_iff_ne.2 (by omega)
 have im:((aj m)==0)=false:=beq_eq_false_iff_ne.2 h0
 have k1:(0:Int)<(aj m:Int):=by omega
 have hg:=dO m 0
 have HR:Y0 (decide (m % 2=0)=decide (ay m 0 % 2=0)):=by unfold Y0;rw[he]
 clear hx ah hv he
 generalize ay m 0=g at *
 go_enter Tryz.func209,Tryz.ntmps209
 go_wp2_with fail
 go_ret
 exact⟨Ze (by rw[HR.o,Bool.eq_iff_iff,beq_iff_eq,yO];omega),yB _ _⟩
theorem lW (v u:Value) (m n:Nat) (w:World) (hv:dI w w.heap.size v m) (hu:dI w w.heap.size u n) :
  Calls Tryz.prog 171 #[v,u] w fun e w'=>e = .returned (.bool (decide (n<m)))∧Below w.heap.size w w':=by
 obtain⟨A1,c1,rfl,gC,jo,bn⟩:=hv.open_
 obtain⟨A2,c2,rfl,dr,im,bM⟩:=hu.open_
 unfold maxLen at jo im
 clear hv hu
 by_cases hl:aj m=aj n
 ·have Z1:=zh bn
  have HC2:=zh bM
  have hb:(((aj m:Nat):Int) != ((aj n:Nat):Int))=false:=by simp[hl]
  have v0:IntKind.i64.wrap (((aj m:Nat):Int)-1)=((aj m:Nat):Int)-1:=yF _ (by omega)
  have HL:=zh hl
  clear bn bM hl
  go_enter Tryz.func171,Tryz.ntmps171
  go_wp2_with fail
  go_loopw [5] (fun ix wr=>∃ j:Nat,j≤aj m∧ix = .int .i64 ((j:Int)-1)∧Y0 (m / 16777216 ^ j=n / 16777216 ^ j)∧Y0 (Below w.heap.size w wr)) (fun ix _=>(intOf ix+1).toNat)
  case atStart=>exact⟨aj m,yA _,rfl,by unfold Y0;rw[Nat.div_eq_of_lt (jD m),Nat.div_eq_of_lt (by rw[HL.o];exact jD n)],yB _ _⟩
  obtain⟨j,hj,rfl,HE,HB⟩:=hrel
  cases j with
  | zero=>
   have heq:=HE.o
   rw[Nat.pow_zero,Nat.div_one,Nat.div_one] at heq
   have HR:Y0 (decide (n<m)=false):=yC (by omega)
   go_wp2_with fail
   go_ret
   exact⟨Ze HR.o.symm,HB.o⟩
  | succ j=>
   obtain⟨b1,o1,rfl,ao,cW⟩:=Z1.o j (by omega)
   obtain⟨b2,o2,rfl,bE,cT⟩:=HC2.o j (by have:=HL.o;omega)
   have y1:=(HB.o.cell (p:=⟨b1,o1+j,none⟩) ao).trans (cW j (by omega))
   have y2:=(HB.o.cell (p:=⟨b2,o2+j,none⟩) bE).trans (cT j (by have:=HL.o;omega))
   have ej:(((j+1:Nat):Int)-1)=(j:Int):=by omega
   rw[ej]
   have i0:(0:Int)≤(j:Int):=yE _
   have i1:(j:Int)<((aj m:Nat):Int):=by omega
   have i2:(j:Int)<((aj n:Nat):Int):=by have:=HL.o;omega
   have qzf:ay m j<ay n j→m<n:=X6 HE.o
   have et:ay n j<ay m j→n<m:=X6 HE.o.symm
   have hee:ay m j=ay n j→m / 16777216 ^ j=n / 16777216 ^ j:=qxZ HE.o
   have q1:=dO m j
   have q2:=dO n j
   have v1:IntKind.i64.wrap ((j:Int)-1)=(j:Int)-1:=yF _ (by omega)
   clear cW cT ej
   generalize ay m j=g1 at *
   generalize ay n j=g2 at *
   rcases Nat.lt_trichotomy g1 g2 with h | h | h
   ·have d1:((g1:Int) != (g2:Int))=true:=bne_iff_ne.2 (by omega)
    have HR:Y0 (decide (n<m)=decide (g2<g1)):=by unfold Y0;rw[decide_eq_false (show ¬ g2<g1 by omega)];exact yC (by have:=qzf h;omega)
    clear qzf et hee h
    go_wp2_with fail
    go_quiet (fail)
    go_wp2_with fail
    go_quiet (fail)
    go_wp2_with fail
    go_ret
    exact⟨Ze HR.o.symm,Zf (Zf HB.o _) _⟩
   ·have d1:((g1:Int) != (g2:Int))=false:=bne_eq_false_iff_eq.2 (by omega)
    have lP:=zh (hee h)
    clear qzf et hee h
    go_wp2_with fail
    go_quiet (fail)
    go_wp2_with fail
    go_roundw
    case rel=>exact⟨j,by omega,rfl,lP,Zf HB.o _⟩
    simp[intOf]
   have d1:((g1:Int) != (g2:Int))=true:=bne_iff_ne.2 (by omega)
   have HR:Y0 (decide (n<m)=decide (g2<g1)):=by unfold Y0;rw[decide_eq_true (show g2<g1 by omega)];exact yD (et h)
   clear qzf et hee h
   go_wp2_with fail
   go_quiet (fail)
   go_wp2_with fail
   go_quiet (fail)
   go_wp2_with fail
   go_ret
   exact⟨Ze HR.o.symm,Zf (Zf HB.o _) _⟩
 have hb:(((aj m:Nat):Int) != ((aj n:Nat):Int))=true:=bne_iff_ne.2 (by omega)
 have HR:Y0 (decide (n<m)=decide (aj n<aj m)):=by
  unfold Y0
  rw[Bool.eq_iff_iff,yO,yO]
  constructor
  ·intro h
   have:=cC (YJ h)
   omega
  intro h
  exact qqq (by omega)
 clear bn bM hl
 go_enter Tryz.func171,Tryz.ntmps171
 go_wp2_with fail
 go_ret
 exact⟨Ze HR.o.symm,yB _ _⟩
def sL (w:World) (x k:Nat) (e:Ending) (w':World):Prop:=∃ v,e = .returned v∧Below w.heap.size w w'∧DgTo w' w'.heap.size v x k
theorem rF (v u:Value) (m n:Nat) (w:World) (hv:dI w w.heap.size v m) (hu:dI w w.heap.size u n) (hm:aj m≤1000000) (hmn:n≤m) :
  Calls Tryz.prog 207 #[v,u] w (sL w (m-n) (aj m)):=by
 have Oq:Y0 (∀ W,Below w.heap.size w W→∀ i,i≤maxLen→Calls Tryz.prog 208 #[u,.int .i64 (i:Nat)] W fun e w'=>e = .returned (.int .i64 (ay n i:Nat))∧W=w'):=fun W hb i hi=>pA u n i W (DgTo.grow hu hb) hi
 obtain⟨A1,c1,rfl,-,jo,bn⟩:=hv.open_
 obtain⟨A2,c2,rfl,-,-,-⟩:=hu.open_
 have Z1:=zh bn
 unfold maxLen at jo
 clear hv hu bn
 go_enter Tryz.func207,Tryz.ntmps207
 go_wp2_with fail
 go_loopw [7,6,5] (fun ix cx ox wr=>∃ i:Nat,i≤aj m∧ix = .int .i64 i∧cx = .int .i64 (gp m n i:Nat)∧Y0 (wr.ownsRow w.heap.size 3 1 ox i ((cd (m-n) i).map qc))∧Y0 (Below w.heap.size w wr)) (fun ix _ _ _=>aj m-(intOf ix).toNat)
 case atStart=>exact⟨0,yI _,rfl,by rw[J8];rfl,yJ _ _ _ _,yB _ _⟩
 obtain⟨i,hi,rfl,rfl,HO,HB⟩:=hrel
 rename_i ox wr
 have k0:(0:Int)≤(i:Int):=yE _
 by_cases aw:i<aj m
 ·have d1:decide (i<aj m)=true:=yD aw
  have k1:(i:Int)<((aj m:Nat):Int):=by omega
  obtain⟨b1,o1,rfl,ao,cW⟩:=Z1.o i aw
  have y1:=(HB.o.cell (p:=⟨b1,o1+i,none⟩) ao).trans (cW i aw)
  have b1':=dO m i
  have b2:=dO n i
  have hbr:=DL m n i
  have e1:=Ph hmn i
  have e2:=EF (m:=m) (n:=n) i
  have H1:=fun q=>Ax (Oq.o (wr.drewN q) (Zf HB.o q) i (by unfold maxLen;omega))
  clear cW
  generalize Bm:ay m i=x1 at *
  generalize hg2:ay n i=x2 at *
  generalize hg3:gp m n i=x3 at *
  have v1:IntKind.i64.wrap ((x1:Int)-(x2:Int))=(x1:Int)-(x2:Int):=yF _ (by omega)
  have v2:IntKind.i64.wrap ((x1:Int)-(x2:Int)-(x3:Int))=(x1:Int)-(x2:Int)-(x3:Int):=yF _ (by omega)
  clear Bm hg2 hg3
  by_cases P3:(x1:Int)-(x2:Int)-(x3:Int)<0
  ·rw[if_pos P3] at e1 e2
   have d2:decide ((x1:Int)-(x2:Int)-(x3:Int)<0)=true:=yD P3
   have v3:IntKind.i64.wrap ((x1:Int)-(x2:Int)-(x3:Int)+16777216)=((ay (m-n) i:Nat):Int):=(yF _ (by omega)).trans (by omega)
   have HBo:=zh e2
   clear e1 e2 P3
   obtain⟨gd,EO⟩:∃ gd:Int,gd=((ay (m-n) i:Nat):Int):=⟨_,rfl⟩
   have HGd:=zh EO
   rw[← EO] at v3
   clear EO
   go_wp2_with fail
   go_quiet ((go_at_call 208;exact H1 _))
   have FB:=gj HO.o nq
   have bY:=zh (Zf HB.o nq)
   clear H1 HO HB
   go_wp2_with (at_builtin;refine cA _ rfl (.tmp 29) (.tmp 31) 22 rfl w.heap.size 3 kV Tryz.underlying22 rfl _ i _ rfl FB (.int .i64 gd) rfl rfl (by unfold maxLen;omega) (by omega) bY.o.size ?_;intro g cap w4 bh bq vB jA;have dU:=zh (bY.o.grown bq bY.o.size (fun k hk=>(FB.lt k hk).1));have qo:=zh (oz (by rw[HGd.o]) bh);clear bh bq jA)
   clear FB bY
   go_roundw
   case rel=>exact⟨i+1,by omega,by go_num,by rw[HBo.o];rfl,qo,dU⟩
   simp[intOf];omega
  rw[if_neg P3] at e1 e2
  have d2:decide ((x1:Int)-(x2:Int)-(x3:Int)<0)=false:=yC P3
  have HBo:=zh e2
  have HGd:Y0 ((x1:Int)-(x2:Int)-(x3:Int)=((ay (m-n) i:Nat):Int)):=by unfold Y0;omega
  clear e1 e2 P3
  go_wp2_with fail
  go_quiet ((go_at_call 208;exact H1 _))
  have FB:=gj HO.o nq
  have bY:=zh (Zf HB.o nq)
  clear H1 HO HB
  go_wp2_with (at_builtin;refine cA _ rfl (.tmp 29) (.tmp 31) 22 rfl w.heap.size 3 kV Tryz.underlying22 rfl _ i _ rfl FB (.int .i64 ((x1:Int)-(x2:Int)-(x3:Int))) rfl rfl (by unfold maxLen;omega) (by omega) bY.o.size ?_;intro g cap w4 bh bq vB jA;have dU:=zh (bY.o.grown bq bY.o.size (fun k hk=>(FB.lt k hk).1));have qo:=zh (oz (by rw[HGd.o]) bh);clear bh bq jA)
  clear FB bY
  go_roundw
  case rel=>exact⟨i+1,by omega,by go_num,by rw[HBo.o];rfl,qo,dU⟩
  simp[intOf];omega
 have d1:decide (i<aj m)=false:=yC aw
 have YY:i=aj m:=by omega
 have hF:=kq HO.o
 rw[YY] at hF
 have HF:=zh hF
 clear YY hF
 generalize gp m n i=x3 at *
 go_wp2_with fail
 go_ret
 exact⟨_,rfl,HB.o,HF.o⟩
theorem mF (w:World) (X:Obj) (t:TypeId) (a b:Value):((w.alloc X).alloc (.cells #[a,b] t)).cell? ⟨w.heap.size+1,0,none⟩=some a∧((w.alloc X).alloc (.cells #[a,b] t)).cell? ⟨w.heap.size+1,1,none⟩=some b:=by
 have h:=Blk.new (w.alloc X) t #[a,b]
 rw[yZ] at h
 obtain⟨h0,h1⟩:=h.c2
 exact⟨h0,h1⟩
theorem nJ (s:Bool) (v:Value) (x k:Nat) (w:World) (hv:DgTo w w.heap.size v x k) (hk:aj x≤k) :
  Calls Tryz.prog 206 #[.agg #[.bool s,v]] w fun e w'=>∃ v',e = .returned (.agg #[.bool (s&&decide (x≠0)),v'])∧Below w.heap.size w w'∧dI w' w'.heap.size v' x:=by
 have HV:=zh hv
 obtain⟨A,c,rfl,gC,dr,ah⟩:=hv.open_
 have HC:=zh ah
 unfold maxLen at dr
 have HD:=zh ((Blk.new w 173 #[.bool s,.slice A k c]).alloc (.cells #[.bool false,.slice none 0 0] 173))
 have Mb:=Blk.new (w.alloc (.cells #[.bool s,.slice A k c] 173)) 173 #[.bool false,.slice none 0 0]
 rw[yZ] at Mb
 have cF:=zh Mb
 have HB:=zh (((yB _ w).alloc (yA _) (.cells #[.bool s,.slice A k c] 173)).alloc (by simp) (.cells #[.bool false,.slice none 0 0] 173))
 clear hv ah Mb
 go_enter Tryz.func206,Tryz.ntmps206
 go_wp2_with fail
 go_loopw [3] (fun nx wr=>∃ j:Nat,aj x≤j∧j≤k∧nx = .int .i64 j∧wr=(w.alloc (.cells #[.bool s,.slice A k c] 173)).alloc (.cells #[.bool false,.slice none 0 0] 173)) (fun nx _=>(intOf nx).toNat)
 case atStart=>exact⟨k,hk,yA _,rfl,rfl⟩
 obtain⟨j,hxj,EK,rfl,rfl⟩:=hrel
 have y0:=HD.o.cell 0
 have y1:=HD.o.cell 1
 have f0:=HD.o.frozen 0
 have f1:=HD.o.frozen 1
 have g0:=cF.o.frozen 0
 have g1:=cF.o.frozen 1
 simp only[aP,aQ,aO] at y0 y1
 by_cases aw:aj x<j
 ·obtain⟨j,rfl⟩:∃ i,j=i+1:=⟨j-1,by omega⟩
  obtain⟨b,off,rfl,hb,hx⟩:=HC.o j (by omega)
  have z:=(HB.o.cell (p:=⟨b,off+j,none⟩) hb).trans (hx j (by omega))
  rw[EX (show aj x≤j by omega)] at z
  have hd:decide (0<j+1)=true:=yD (by omega)
  have v1:IntKind.i64.wrap (((j+1:Nat):Int)-1)=(j:Int):=(yF _ (by omega)).trans (by omega)
  have i0:(0:Int)≤(j:Int):=yE _
  have i1:(j:Int)<(k:Int):=by omega
  clear hx
  generalize hJ:((j+1:Nat):Int)=J at *
  have hd:decide (0<J)=true:=yD (by omega)
  have HJ:=zh hJ
  clear hJ
  go_wp2_with fail
  go_roundw
  case rel=>exact⟨j,by omega,by omega,rfl,trivial⟩
  have:=HJ.o;simp[intOf];omega
 obtain rfl:j=aj x:=by omega
 have HT:=zh (HV.o.take EK)
 by_cases h0:aj x=0
 ·have hx0:=oS.1 h0
  have HS:Y0 ((s&&decide (x≠0))=false):=by unfold Y0;rw[hx0];simp
  have HZ:=zh h0
  have hd:decide (0<((aj x:Nat):Int))=false:=yC (by omega)
  have hq:(((aj x:Nat):Int)==0)=true:=beq_iff_eq.2 (by omega)
  have i1:(0:Int)≤((aj x:Nat):Int):=yE _
  have i2:((aj x:Nat):Int)≤(c:Int):=by omega
  clear h0 hx0 aw
  generalize hJ:((aj x:Nat):Int)=J at *
  have HJ:Y0 (J.toNat=aj x):=by unfold Y0;omega
  clear hJ
  go_wp2_with fail
  rw[HJ.o]
  obtain⟨p0,p1⟩:=mF w (.cells #[.bool false,.slice A (aj x) c] 173) 173 (.bool false) (.slice A (aj x) c)
  refine YI (v:=.agg #[.bool false,.slice A (aj x) c]) (by simp[results,Tryz.results206,go_sem,p0,p1]) rfl ?_
  have bE:=((yB _ w).alloc (yA _) (.cells #[.bool false,.slice A (aj x) c] 173)).alloc (by simp) (.cells #[.bool false,.slice A (aj x) c] 173)
  exact⟨_,by rw[HS.o],bE,DgTo.grow HT.o bE⟩
 obtain⟨i,hi⟩:∃ i,aj x=i+1:=⟨aj x-1,by omega⟩
 have fB:=qqE hi
 obtain⟨b,off,rfl,hb,hx⟩:=HC.o i (by omega)
 have z:=(HB.o.cell (p:=⟨b,off+i,none⟩) hb).trans (hx i (by omega))
 have hg:((ay x i:Nat):Int)≠0:=by omega
 have hge:(((ay x i:Nat):Int)==0)=false:=beq_eq_false_iff_ne.2 hg
 have HS:Y0 ((s&&decide (x≠0))=s):=by
  unfold Y0
  rw[yD (show x≠0 from fun e=>h0 (oS.2 e)),Bool.and_true]
 have hd:decide (0<((aj x:Nat):Int))=true:=yD (by omega)
 have hq:(((aj x:Nat):Int)==0)=false:=beq_eq_false_iff_ne.2 (by omega)
 have v1:IntKind.i64.wrap (((aj x:Nat):Int)-1)=(i:Int):=(yF _ (by omega)).trans (by omega)
 have i0:(0:Int)≤(i:Int):=yE _
 have i3:(i:Int)<(k:Int):=by omega
 have i1:(0:Int)≤((aj x:Nat):Int):=yE _
 have i2:((aj x:Nat):Int)≤(c:Int):=by omega
 clear hx fB aw
 generalize ((ay x i:Nat):Int)=g at *
 generalize hJ:((aj x:Nat):Int)=J at *
 have HJ:Y0 (J.toNat=aj x):=by unfold Y0;omega
 clear hJ hi
 go_wp2_with fail
 rw[HJ.o]
 obtain⟨p0,p1⟩:=mF w (.cells #[.bool s,.slice (some ⟨b,off,none⟩) (aj x) c] 173) 173 (.bool s) (.slice (some ⟨b,off,none⟩) (aj x) c)
 refine YI (v:=.agg #[.bool s,.slice (some ⟨b,off,none⟩) (aj x) c]) (by simp[results,Tryz.results206,go_sem,p0,p1]) rfl ?_
 have bE:=((yB _ w).alloc (yA _) (.cells #[.bool s,.slice (some ⟨b,off,none⟩) (aj x) c] 173)).alloc (by simp) (.cells #[.bool s,.slice (some ⟨b,off,none⟩) (aj x) c] 173)
 exact⟨_,by rw[HS.o],bE,DgTo.grow HT.o bE⟩
theorem qzK (s:Bool) (v:Value) (n:Int) (w:World) (hv:BigAt w w.heap.size s v n) :
  Calls Tryz.prog 176 #[.agg #[.bool s,v]] w fun e w'=>e = .returned (.agg #[.bool (decide (-n<0)),v])∧Below w.heap.size w w':=by
 obtain⟨hs,VZ⟩:=hv
 obtain⟨A,c,rfl,gC,dr,-⟩:=VZ.open_
 unfold maxLen at dr
 have hz:=oS (x:=n.natAbs)
 have P1:decide (0<aj n.natAbs)=decide (n≠0):=by
  rw[Bool.eq_iff_iff,yO,yO]
  omega
 have HR:Y0 ((!s&&decide (0<aj n.natAbs))=decide (-n<0)):=by
  unfold Y0
  rw[P1,hs,Bool.eq_iff_iff,Bool.and_eq_true,Bool.not_eq_true',YE,yO,yO]
  omega
 clear VZ hz P1 hs gC
 have ah:=fun b:Bool=>mF w (.cells #[.bool b,.slice A (aj n.natAbs) c] 173) 173 (.bool b) (.slice A (aj n.natAbs) c)
 have HB:=zh fun b:Bool=>((yB _ w).alloc (yA _) (.cells #[.bool b,.slice A (aj n.natAbs) c] 173)).alloc (by simp) (.cells #[.bool b,.slice A (aj n.natAbs) c] 173)
 have HCe:=zh ah
 clear ah
 obtain⟨r,hr⟩:∃ r:Bool,r=decide (-n<0):=⟨_,rfl⟩
 rw[← hr] at HR ⊢
 clear hr
 cases s
 case true=>
  have QQ:Y0 (false=r):=HR.o
  clear HR
  go_enter Tryz.func176,Tryz.ntmps176
  go_wp2_with fail
  obtain⟨p0,p1⟩:=HCe.o false
  refine YI (v:=.agg #[.bool false,.slice A (aj n.natAbs) c]) (by simp[results,Tryz.results176,go_sem,p0,p1]) rfl ?_
  exact⟨by rw[QQ.o],HB.o _⟩
 have QQ:Y0 (decide (0<aj n.natAbs)=r):=HR.o
 clear HR
 go_enter Tryz.func176,Tryz.ntmps176
 go_wp2_with fail
 obtain⟨p0,p1⟩:=HCe.o (decide (0<aj n.natAbs))
 refine YI (v:=.agg #[.bool (decide (0<aj n.natAbs)),.slice A (aj n.natAbs) c]) (by simp[results,Tryz.results176,go_sem,p0,p1]) rfl ?_
 exact⟨by rw[QQ.o],HB.o _⟩
def sX (q:Rat):Int:=if q<0 then -1 else if q=0 then 0 else 1
theorem qqM (x:Value) (q:Rat) (K:Nat) (w:World) (hv:ExqAt w w.heap.size x q K) :
  Calls Tryz.prog 203 #[x] w fun e w'=>e = .returned (.int .i64 (sX q))∧Below w.heap.size w w':=by
 obtain⟨s1,v1,s2,v2,N,D,rfl,⟨mz,h1⟩,⟨jU,h2⟩,hD,-,-,rfl⟩:=hv
 obtain⟨A1,c1,rfl,gC,jo,-⟩:=h1.open_
 obtain⟨A2,c2,rfl,dr,im,-⟩:=h2.open_
 unfold maxLen at jo im
 obtain⟨hn,hz⟩:=Js (N:=N) hD
 have hl:=oS (x:=N.natAbs)
 have HS:Y0 (sX (Rat.divInt N D)=if N<0 then -1 else if aj N.natAbs=0 then 0 else 1):=by
  unfold Y0 sX
  by_cases c1:N<0
  ·rw[if_pos (hn.2 c1),if_pos c1]
  rw[if_neg (fun h=>c1 (hn.1 h)),if_neg c1]
  by_cases c2:N=0
  ·rw[if_pos (hz.2 c2),if_pos (hl.2 (by omega))]
  rw[if_neg (fun h=>c2 (hz.1 h)),if_neg (fun h=>c2 (by have:=hl.1 h;omega))]
 have HB:=zh ((yB _ w).alloc (yA _) (.cells (zD s1 A1 (aj N.natAbs) c1 s2 A2 (aj D.natAbs) c2) 175))
 clear hl hn hz h1 h2 jU
 by_cases NW:N<0
 ·have e:s1=true:=by rw[mz];exact yD NW
  subst e
  have HV:Y0 (sX (Rat.divInt N D) = -1):=by unfold Y0;rw[HS.o,if_pos NW]
  clear HS mz NW
  go_enter Tryz.func203,Tryz.ntmps203
  go_wp2_with fail
  go_ret
  exact⟨by rw[HV.o];rfl,HB.o⟩
 have e:s1=false:=by rw[mz];exact yC NW
 subst e
 by_cases Zr:aj N.natAbs=0
 ·have HV:Y0 (sX (Rat.divInt N D)=0):=by unfold Y0;rw[HS.o,if_neg NW,if_pos Zr]
  have hd:(aj N.natAbs==0)=true:=beq_iff_eq.2 Zr
  clear HS mz NW 
  go_enter Tryz.func203,Tryz.ntmps203
  go_wp2_with fail
  go_ret
  exact⟨by rw[HV.o];rfl,by simpa[Zr] using HB.o⟩
 have HV:Y0 (sX (Rat.divInt N D)=1):=by unfold Y0;rw[HS.o,if_neg NW,if_neg Zr]
 have hd:(aj N.natAbs==0)=false:=beq_eq_false_iff_ne.2 Zr
 have im:(((aj N.natAbs:Nat):Int)==0)=false:=beq_eq_false_iff_ne.2 (by omega)
 clear HS mz NW
 go_enter Tryz.func203,Tryz.ntmps203
 go_wp2_with fail
 go_ret
 exact⟨by rw[HV.o];rfl,HB.o⟩
theorem qqL (n:Int) (w:World) (h1 : -1152921504606846976≤n) (h2:n≤1152921504606846976) :
    Calls Tryz.prog 92 #[.int .i64 n] w fun e w'=>e = .returned (.int .u64 (n.natAbs:Nat))∧w=w':=by
  by_cases h0:n<0
  · have e1:IntKind.u64.wrap n=n+18446744073709551616:=by
      show n % 18446744073709551616=_
      omega
    have e2:Y0 (IntKind.u64.wrap (0-(n+18446744073709551616))=((n.natAbs:Nat):Int)):=by
      show (0-(n+18446744073709551616)) % 18446744073709551616=_
      omega
    clear h1 h2
    go_enter Tryz.func92,Tryz.ntmps92
    go_wp2
    go_ret
    refine⟨?_,rfl⟩
    rw[← e2.o]
    simp
  have e1:IntKind.u64.wrap n=n:=by
    show n % 18446744073709551616=_
    omega
  have e2:Y0 (n=((n.natAbs:Nat):Int)):=by unfold Y0; omega
  clear h1 h2
  go_enter Tryz.func92,Tryz.ntmps92
  go_wp2
  go_ret
  exact⟨by
   conv=>rhs; rw[← e2.o]
   rfl,rfl⟩
theorem Df {w:World} {B e s n:Nat} {v:Value} {L:List Value} (h:w.ownsRow B e s v n L) {row:Option Nat} (hr:∀ r,row=some r→∀ cs f,w.heap[r]? ≠ some (.cells cs e f)):v.ownBlock=none∨v.ownBlock≠row:=by
 rcases h.2 with⟨rfl,_⟩ | ⟨g,cap,cur,rfl,_,hg,_⟩
 ·exact .inl rfl
 refine .inr fun e'=>?_
 exact hr g (by rw[← e'];rfl) _ _ hg
structure IntS (W0 W:World) (s:Bool) (ov:Value) (x i:Nat):Prop where
 bel:Below W0.heap.size W0 W
 res:Blk W W0.heap.size 173 #[.bool false,.slice none 0 0]
 box:Blk W (W0.heap.size+1) 173 #[.bool s,ov]
 own:W.ownsRow W0.heap.size 3 1 ov i ((cd x i).map qc)
theorem IntS.push {W0 W:World} {s:Bool} {ov:Value} {x i:Nat} (h:IntS W0 W s ov x i) {v':Value} {w1:World} (az:w1.ownsRow W0.heap.size 3 1 v' (i+1) ((cd x (i+1)).map qc)) (hg:W.grownBy w1 ov.ownBlock) :
  Blk w1 (W0.heap.size+1) 173 #[.bool s,ov]∧IntS W0 (w1.setCell ⟨W0.heap.size+1,1,none⟩ v') s v' x (i+1):=by
 have k:∀ {g cs},Blk W g 173 cs→Blk w1 g 173 cs:=fun hb=>hb.kept hg (hb.ne_own h.own (by decide))
 have e0:=k h.res
 have e1:=k h.box
 have ao:Below W0.heap.size W0 w1:=h.bel.grown hg h.bel.size (fun k e=>(h.own.lt k e).1)
 refine⟨e1,ao.setCell (p:=⟨W0.heap.size+1,1,none⟩) (YK _) _,e0.far (by simp) _,e1.set_ 1 v',?_⟩
 exact az.kept (e1.setGrown 1 v') (Df az fun r e c f hh=>by
  obtain rfl:W0.heap.size+1=r:=by simpa using e
  unfold Blk at e1
  rw[e1] at hh
  injection hh with hh
  injection hh with _ hh _
  exact absurd hh (by decide))
theorem IntS.start (w:World) (s:Bool) (x:Nat):IntS w ((w.alloc (.cells #[.bool false,.slice none 0 0] 173)).alloc (.cells #[.bool s,.slice none 0 0] 173)) s (.slice none 0 0) x 0:=by
 have h2:=Blk.new (w.alloc (.cells #[.bool false,.slice none 0 0] 173)) 173 #[.bool s,.slice none 0 0]
 rw[yZ] at h2
 exact⟨((yB _ w).alloc (yA _) _).alloc (by simp) _,(Blk.new w _ _).alloc _,h2,yJ _ _ _ _⟩
def sM (w:World) (n:Int) (e:Ending) (w':World):Prop:=∃ s v,e = .returned (.agg #[.bool s,v])∧Below w.heap.size w w'∧BigAt w' w'.heap.size s v n
theorem CR (n:Int) (w:World) (h1 : -1152921504606846976≤n) (h2:n≤1152921504606846976):Calls Tryz.prog 170 #[.int .i64 n] w (sM w n):=by
 have hs:=fun W=>qqL n W h1 h2
 have hx:n.natAbs≤1152921504606846976:=by omega
 have qm:Y0 (IntS w ((w.alloc (.cells #[.bool false,.slice none 0 0] 173)).alloc (.cells #[.bool (decide (n<0)),.slice none 0 0] 173)) (decide (n<0)) (.slice none 0 0) n.natAbs 0):=IntS.start w _ _
 have HD:Y0 (aj n.natAbs≤3):=jE (by show n.natAbs<16777216 ^ 3;omega)
 obtain⟨b,hb⟩:∃ b:Bool,b=decide (n<0):=⟨_,rfl⟩
 have HBn:=zh hb
 obtain⟨x,hxx⟩:∃ x:Nat,x=n.natAbs:=⟨_,rfl⟩
 have HX:=zh hxx
 rw[← hb,← hxx] at qm
 rw[← hxx] at HD hs hx
 clear h1 h2 hxx
 go_enter Tryz.func170,Tryz.ntmps170
 go_wp2_with fail
 refine (hs _).mono ?_
 rintro e w2 ⟨rfl,rfl⟩
 rw[← hb]
 generalize (w.alloc (.cells #[.bool false,.slice none 0 0] 173)).alloc (.cells #[.bool b,.slice none 0 0] 173)=W1 at *
 clear hs hb
 go_wp2_with fail
 go_loopw [4] (fun mx wr=>∃ i:Nat,i≤aj x∧mx = .int .u64 ((x / 16777216 ^ i:Nat):Int)∧∃ ov,Y0 (IntS w wr b ov x i)) (fun mx _=>(intOf mx).toNat)
 case atStart=>exact⟨0,yI _,by rw[Nat.pow_zero,Nat.div_one],_,qm.o⟩
 obtain⟨i,hi,rfl,ov,HS⟩:=hrel
 obtain⟨A,c,rfl,-⟩:=(kq HS.o.own).open_
 have y0:=HS.o.box.cell 0
 have y1:=HS.o.box.cell 1
 have r0:=HS.o.res.cell 0
 have r1:=HS.o.res.cell 1
 have f0:=HS.o.res.frozen 0
 have f1:=HS.o.res.frozen 1
 simp only[aP,aQ,aO] at y0 y1 r0 r1
 by_cases aw:i<aj x
 ·have gu:0<x / 16777216 ^ i:=by
   rcases Nat.lt_or_ge x (16777216 ^ i) with h | h
   ·have:=dv.1 h;omega
   exact Nat.div_pos h (fi i)
  have hzl:x / 16777216 ^ i≤1152921504606846976:=yH (Nat.div_le_self _ _) hx
  have HG:Y0 (x / 16777216 ^ i % 16777216=ay x i):=rfl
  have HQ:Y0 (x / 16777216 ^ i / 16777216=x / 16777216 ^ (i+1)):=by unfold Y0;rw[Nat.pow_succ,Nat.div_div_eq_div_mul]
  generalize hz:x / 16777216 ^ i=z at *
  have hd:decide (0<z)=true:=yD gu
  have v1:IntKind.i64.wrap ((z:Int) % 16777216)=(z:Int) % 16777216:=yF _ (by omega)
  have v2:IntKind.u64.wrap ((z:Int) % 16777216)=(z:Int) % 16777216:=by show (z:Int) % 16777216 % 18446744073709551616=_;omega
  have v3:IntKind.u64.wrap ((z:Int) / 16777216)=(z:Int) / 16777216:=by show (z:Int) / 16777216 % 18446744073709551616=_;omega
  have hi3:=HD.o
  have HP:Y0 (∀ v' w1,w1.ownsRow w.heap.size 3 1 v' (i+1) ((cd x i).map qc++[.int .i64 ((z:Int) % 16777216)])→wr.grownBy w1 (Value.slice A i c).ownBlock→Blk w1 (w.heap.size+1) 173 #[.bool b,.slice A i c]∧IntS w (w1.setCell ⟨w.heap.size+1,1,none⟩ v') b v' x (i+1)):=fun v' w1 ho hg=>HS.o.push (oz (by rw[← HG.o];rfl) ho) hg
  have hO:=HS.o.own
  have dK:=HS.o.bel.size
  have HZ:=zh gu
  clear gu hz
  go_wp2_with (at_builtin;refine cA _ rfl (.tmp 13) (.tmp 17) 22 rfl w.heap.size 3 kV Tryz.underlying22 rfl _ i _ rfl hO (.int .i64 ((z:Int) % 16777216)) rfl rfl (by unfold maxLen;omega) (by omega) dK ?_;intro g cap w4 bh bq vB jA;have Qw:=zh (HP.o _ w4 bh bq);have fb:=Qw.o.1.frozen 1;have cb:=Qw.o.1.cell 1;simp only[aP,aQ,aO] at cb;clear bh bq jA)
  clear hO HP
  go_roundw
  case rel=>exact⟨i+1,by omega,by rw[← HQ.o];rfl,_,Qw.o.2⟩
  have:=HZ.o;simp[intOf];omega
 obtain rfl:i=aj x:=by omega
 have hz:x / 16777216 ^ aj x=0:=Nat.div_eq_of_lt (jD x)
 rw[hz]
 have HE:Y0 (∀ a c0,Blk (((wr.setCell ⟨w.heap.size,0,none⟩ (.bool b)).setCell ⟨w.heap.size,1,none⟩ (.slice a (aj x) c0))) w.heap.size 173 #[.bool b,.slice a (aj x) c0]∧Below w.heap.size w ((wr.setCell ⟨w.heap.size,0,none⟩ (.bool b)).setCell ⟨w.heap.size,1,none⟩ (.slice a (aj x) c0))∧(wr.setCell ⟨w.heap.size,0,none⟩ (.bool b)).setCell ⟨w.heap.size,1,none⟩ (.slice a (aj x) c0)=(wr.setCell ⟨w.heap.size,0,none⟩ (.bool b)).setCell ⟨w.heap.size,1,none⟩ (.slice a (aj x) c0)):=fun a c0=>
  ⟨(HS.o.res.set_ 0 (.bool b)).set_ 1 (.slice a (aj x) c0),(HS.o.bel.setCell (p:=⟨w.heap.size,0,none⟩) (yA _) _).setCell (p:=⟨w.heap.size,1,none⟩) (yA _) _,rfl⟩
 have Wk:(Value.slice A (aj x) c).ownBlock≠some w.heap.size:=fun e=>(HS.o.res.ne_own HS.o.own (by decide)) e.symm
 have Fx:Y0 (((wr.setCell ⟨w.heap.size,0,none⟩ (.bool b)).setCell ⟨w.heap.size,1,none⟩ (.slice A (aj x) c)).ownsRow w.heap.size 3 1 (.slice A (aj x) c) (aj x) ((cd x (aj x)).map qc)):=by
  have h1:=HS.o.own.kept (HS.o.res.setGrown 0 (.bool b)) (.inr Wk)
  exact h1.kept ((HS.o.res.set_ 0 (.bool b)).setGrown 1 (.slice A (aj x) c)) (.inr Wk)
 clear Wk
 go_wp2_with fail
 obtain⟨ao,bE,-⟩:=HE.o A c
 obtain⟨p0,p1⟩:=ao.c2
 refine YI (v:=.agg #[.bool b,.slice A (aj x) c]) (by simp[results,Tryz.results170,go_sem,p0,p1]) rfl ?_
 refine⟨b,_,rfl,bE,HBn.o,?_⟩
 unfold dI
 rw[← HX.o]
 exact kq Fx.o
def gDk (x k:Nat):GPost:=⟨fun v=>∃ A c,v = .slice A k c,fun v w=>DgTo w w.heap.size v x k,⟨.slice none k 0,none,0,rfl⟩,fun _ _ _ hb h=>DgTo.grow h hb,false⟩
def gDg (x:Nat):GPost:=gDk x (aj x)
def Kd (n:Int):GPost:=⟨fun v=>∃ s A c,v = .agg #[.bool s,.slice A (aj n.natAbs) c],fun u w=>∃ s v,u = .agg #[.bool s,v]∧BigAt w w.heap.size s v n,⟨_,false,none,0,rfl⟩,fun _ _ _ hb h=>by
 obtain⟨s,v,e,h1⟩:=h
 exact⟨s,v,e,h1.grow hb⟩,false⟩
def jb (q:Rat) (K:Nat):GPost:=⟨fun v=>∃ s1 A1 l1 c1 s2 A2 l2 c2,v = .agg #[.bool s1,.slice A1 l1 c1,.bool s2,.slice A2 l2 c2],fun v w=>ExqAt w w.heap.size v q K,⟨_,false,none,0,0,false,none,0,0,rfl⟩,fun _ _ _ hb h=>h.grow hb,false⟩
theorem BH {f:FuncId} {args:Array Value} {w:World} {x k:Nat} (h:Calls Tryz.prog f args w (sL w x k)):Calls Tryz.prog f args w fun e w'=>∃ v,e = .returned v∧Below w.heap.size w w'∧(gDk x k).σ v∧(gDk x k).φ v w':=h.mono fun e w' h=>by
 obtain⟨v,rfl,hb,h1⟩:=h
 obtain⟨A,c,rfl,-⟩:=h1.open_
 exact⟨_,rfl,hb,⟨A,c,rfl⟩,h1⟩
theorem tI {f:FuncId} {args:Array Value} {w:World} {x:Nat} (h:Calls Tryz.prog f args w (tV w x)):Calls Tryz.prog f args w fun e w'=>∃ v,e = .returned v∧Below w.heap.size w w'∧(gDg x).σ v∧(gDg x).φ v w':=BH h
theorem ea {f:FuncId} {args:Array Value} {w:World} {n:Int} (h:Calls Tryz.prog f args w (sM w n)):Calls Tryz.prog f args w fun e w'=>∃ v,e = .returned v∧Below w.heap.size w w'∧(Kd n).σ v∧(Kd n).φ v w':=h.mono fun e w' h=>by
 obtain⟨s,v,rfl,hb,h1⟩:=h
 obtain⟨A,c,rfl,-⟩:=DgTo.open_ h1.2
 exact⟨_,rfl,hb,⟨s,A,c,rfl⟩,s,_,rfl,h1⟩
theorem DgTo.set {w:World} {B R i:Nat} {v u:Value} {x k:Nat} (h:DgTo w B v x k) (hx:w.cell? ⟨R,i,none⟩=some u) (hu:∀ z,u ≠ .int .i64 z) (y:Value):DgTo (w.setCell ⟨R,i,none⟩ y) B v x k:=by
 refine⟨?_,fun hk g hg=>by
  obtain⟨cs,r,e⟩:=h.2 hk g hg
  by_cases hR:g=R
  ·subst hR
   exact⟨cs.setIfInBounds i y,r,by simp[World.setCell,Array.getElem?_modify,e]⟩
  exact⟨cs,r,(YC w ⟨R,i,none⟩ y g hR).trans e⟩⟩
 obtain⟨A,c,h1,h2,h3,h4⟩:=h.1
 refine⟨A,c,h1,h2,h3,fun hn=>?_⟩
 obtain⟨b,off,e,aw,hc⟩:=h4 hn
 refine⟨b,off,e,aw,fun j u' N4=>?_⟩
 have h5:=hc j u' N4
 rw[World.cell?_setCell_other]
 ·exact h5
 intro e2
 rw[e2,h5] at hx
 injection hx with hx
 rw[YD] at N4
 cases hg:(cd x k)[j]? with
 | none=>rw[hg] at N4;cases N4
 | some d=>
  rw[hg] at N4
  injection N4 with N4
  exact hu d (by rw[← hx,← N4];rfl)
theorem vM {w w8:World} {R:Nat} {b0:Bool} {A0:Option Addr} {l0 c0:Nat} (hR:w.heap.size≤R) (hb:Below w.heap.size w w8) (hD:Blk w8 R 173 #[.bool b0,.slice A0 l0 c0]) {s:Bool} {v:Value} {n:Int} (hv:BigAt w8 w8.heap.size s v n) :
  ((w8.setCell ⟨R,0,none⟩ (.bool s)).setCell ⟨R,1,none⟩ v).cell? ⟨R,0,none⟩=some (.bool s)∧((w8.setCell ⟨R,0,none⟩ (.bool s)).setCell ⟨R,1,none⟩ v).cell? ⟨R,1,none⟩=some v ∧
  Below w.heap.size w ((w8.setCell ⟨R,0,none⟩ (.bool s)).setCell ⟨R,1,none⟩ v)∧BigAt ((w8.setCell ⟨R,0,none⟩ (.bool s)).setCell ⟨R,1,none⟩ v) ((w8.setCell ⟨R,0,none⟩ (.bool s)).setCell ⟨R,1,none⟩ v).heap.size s v n:=by
 have h1:=hD.set_ 0 (.bool s)
 have h2:=h1.set_ 1 v
 have z0:=hD.cell 0
 have z1:=h1.cell 1
 have p0:=h2.cell 0
 have p1:=h2.cell 1
 simp only[aP,aO] at z0
 refine⟨p0,p1,(hb.setCell (p:=⟨R,0,none⟩) hR _).setCell (p:=⟨R,1,none⟩) hR _,hv.1,?_⟩
 have h3:=DgTo.set hv.2 z0 (fun z=>by simp) (.bool s)
 have h4:=DgTo.set h3 (u:=.slice A0 l0 c0) z1 (fun z=>by simp) v
 exact DgTo.mono h4 (by simp[World.setCell])
end Go.Proofs.YtfhmbechennkbaaGreatDoor
