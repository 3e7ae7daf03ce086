/- Parts of the proof, laid into one text: RgO, RgP, RgQ. -/
import Derived.Test.YtfhmbechennkbaaGreatDoorR3
namespace Go.Proofs.YtfhmbechennkbaaGreatDoor
set_option maxRecDepth 100000
set_option maxHeartbeats 40000000
open Go.RowKit Go.Shelf
structure RgFr (w wr:World) (g4 B:Nat) (s1 s2:Bool) (v1 v2:Value) (N M:Nat):Prop where
 bel:Below w.heap.size w wr
 gw:w.heap.size+1<g4
 gB:g4<B
 Bw:B≤wr.heap.size
 res:Blk wr (w.heap.size+1) 82 #[.int .i64 0,.int .i64 0]
 low:Blk wr g4 175 #[.bool s1,v1,.bool s2,v2]
 n1:DgAt wr B v1 N
 n2:DgAt wr B v2 M
section
variable {w wr w':World} {g4 B g6:Nat} {s1 s2:Bool} {v1 v2:Value} {N M:Nat} {cs:Array Value}
theorem RgFr.below (h:RgFr w wr g4 B s1 s2 v1 v2 N M) (hb:Below B wr w'):RgFr w w' g4 B s1 s2 v1 v2 N M :=
 have h1:=h.gw
 have h2:=h.gB
 ⟨h.bel.trans (hb.mono (by omega)),h1,h2,Nat.le_trans h.Bw hb.size,h.res.below hb (by omega),h.low.below hb h2,DgTo.below h.n1 hb (Nat.le_refl _),DgTo.below h.n2 hb (Nat.le_refl _)⟩
theorem RgFr.up (h:RgFr w wr g4 B s1 s2 v1 v2 N M):RgFr w wr g4 wr.heap.size s1 s2 v1 v2 N M :=
 ⟨h.bel,h.gw,Nat.lt_of_lt_of_le h.gB h.Bw,Nat.le_refl _,h.res,h.low,DgTo.mono h.n1 h.Bw,DgTo.mono h.n2 h.Bw⟩
theorem RgFr.grow (h:RgFr w wr g4 B s1 s2 v1 v2 N M) (hb:Below wr.heap.size wr w'):RgFr w w' g4 w'.heap.size s1 s2 v1 v2 N M:=(h.up.below hb).up
theorem RgFr.set (h:RgFr w wr g4 B s1 s2 v1 v2 N M) (hb:Blk wr B 82 cs) (i:Nat) (u:Value):RgFr w (wr.setCell ⟨B,i,none⟩ u) g4 B s1 s2 v1 v2 N M∧Blk (wr.setCell ⟨B,i,none⟩ u) B 82 (cs.setIfInBounds i u) :=
 ⟨h.below ((Below.refl _ wr).setCell (p:=⟨B,i,none⟩) (Nat.le_refl _) _),hb.set_ i u⟩
end
theorem fr_next (N i:Nat):16777216*(N / 16777216 ^ (i+1))+gdig N i=N / 16777216 ^ i:=by
 rw [Nat.pow_succ,← Nat.div_div_eq_div_mul]
 exact Nat.div_add_mod _ _
theorem rg_num {x:Rat} (s:Bool) (hs:s=decide (x.num<0)):(s=true→x.num = -(x.num.natAbs:Int))∧(s=false→x.num=(x.num.natAbs:Int)):=by
 subst hs
 exact ⟨fun h => by have:=of_decide_eq_true h;omega,fun h => by have:=of_decide_eq_false h;omega⟩
theorem rgFraction (v:Value) (x:Rat) (K:Nat) (w:World) (hv:ExqAt w w.heap.size v x K) (hK:K≤300000) :
  Calls Tryz.prog 130 #[v] w fun e w' => e = .returned (fracV x)∧Below w.heap.size w w':=by
 obtain ⟨b1,A1,l1,c1,b2,A2,l2,c2,_,_,rfl,-⟩:=exq_form hv
 have HK:=zh hK
 have B1:=(Blk.new w 175 #[.bool b1,.slice A1 l1 c1,.bool b2,.slice A2 l2 c2]).alloc (.cells #[.int .i64 0,.int .i64 0] 82)
 have B3:=Blk.new (w.alloc (.cells #[.bool b1,.slice A1 l1 c1,.bool b2,.slice A2 l2 c2] 175)) 82 #[.int .i64 0,.int .i64 0]
 rw [World.size_alloc] at B3
 have hbW:Below w.heap.size w ((w.alloc (.cells #[.bool b1,.slice A1 l1 c1,.bool b2,.slice A2 l2 c2] 175)).alloc (.cells #[.int .i64 0,.int .i64 0] 82)):=((Below.refl _ w).alloc (Nat.le_refl _) _).alloc (by simp) _
 have HV:=zh (hv.grow hbW)
 have HsW:Hid (w.heap.size+2=((w.alloc (.cells #[.bool b1,.slice A1 l1 c1,.bool b2,.slice A2 l2 c2] 175)).alloc (.cells #[.int .i64 0,.int .i64 0] 82)).heap.size):=by unfold Hid;simp
 have HbW:=zh hbW
 clear hv hK hbW
 go_enter Tryz.func130,Tryz.ntmps130
 go_upto_region 1 with fail
 generalize (w.alloc (.cells #[.bool b1,.slice A1 l1 c1,.bool b2,.slice A2 l2 c2] 175)).alloc (.cells #[.int .i64 0,.int .i64 0] 82)=W2 at *
 have HB1:=zh B1
 have HB3:=zh B3
 have q0:=HB1.out.cell 0
 have q1:=HB1.out.cell 1
 have q2:=HB1.out.cell 2
 have q3:=HB1.out.cell 3
 simp only [zq1,zq2,zq3] at q0 q1 q2 q3
 clear B1 B3
 go_wp2_with fail
 refine (rgLower _ x K _ HV.out HK.out).mono ?_
 rintro e w3 ⟨s1,v1,s2,v2,rfl,hb3,h1,h2⟩
 have hs1:=h1.1
 have hd1:=h1.2
 have hd2:=h2.2
 rw [Int.natAbs_natCast] at hd2
 have HSg:=zh (rg_num s1 hs1)
 have HFo:Hid (fracOk x=(decide (x.num.natAbs≤1152921504606846976) && decide (x.den≤1152921504606846976))):=rfl
 have HFv:Hid (fracV x=if fracOk x=true then .tuple #[.agg #[.int .i64 x.num,.int .i64 (x.den:Int)],.int .i64 0] else .tuple #[.agg #[.int .i64 0,.int .i64 0],.int .i64 5]):=rfl
 generalize x.num.natAbs=N at *
 generalize x.den=M at *
 obtain ⟨A3,c3,rfl,hm3,hn3,-⟩:=DgTo.open_ hd1
 obtain ⟨A4,c4,rfl,hm4,hn4,-⟩:=DgTo.open_ hd2
 have HS3:Hid (RgFr w (w3.alloc (.cells #[.bool s1,.slice A3 (dlen N) c3,.bool s2,.slice A4 (dlen M) c4] 175)) w3.heap.size (w3.alloc (.cells #[.bool s1,.slice A3 (dlen N) c3,.bool s2,.slice A4 (dlen M) c4] 175)).heap.size s1 s2 (.slice A3 (dlen N) c3) (.slice A4 (dlen M) c4) N M):=by
  have hba:Below w3.heap.size w3 (w3.alloc (.cells #[.bool s1,.slice A3 (dlen N) c3,.bool s2,.slice A4 (dlen M) c4] 175)):=(Below.refl _ w3).alloc (Nat.le_refl _) _
  have hb5:=HbW.out.trans (hb3.mono HbW.out.size)
  have hsz:=hb3.size
  have hsw:=HsW.out
  exact ⟨hb5.trans (hba.mono hb5.size),by omega,by simp,Nat.le_refl _,(HB3.out.below hb3 HB3.out.lt).alloc _,Blk.new _ _ _,DgTo.grow hd1 hba,DgTo.grow hd2 hba⟩
 clear h1 h2 hb3 hs1 hd1 hd2 q0 q1 q2 q3 HB1 HB3
 unfold maxLen at hn3 hn4
 go_upto_region 2 with fail
 obtain ⟨g4,hg4⟩:∃ g4,g4=w3.heap.size:=⟨_,rfl⟩
 rw [← hg4] at HS3 ⊢
 generalize w3.alloc (.cells #[.bool s1,.slice A3 (dlen N) c3,.bool s2,.slice A4 (dlen M) c4] 175)=W4 at *
 clear hg4
 go_wp2_with fail
 refine (rgInt 1152921504606846976 _ (by decide) (by decide)).mono ?_
 rintro e w5 ⟨s5,v5,rfl,hb5,h5⟩
 have hd5:=h5.2
 obtain ⟨lim,hlim⟩:∃ lim:Nat,lim=(1152921504606846976:Int).natAbs:=⟨_,rfl⟩
 rw [← hlim] at hd5
 have Hlim:Hid (lim=1152921504606846976):=hlim
 obtain ⟨A5,c5,rfl,-⟩:=DgTo.open_ hd5
 have hba:Below w5.heap.size w5 (w5.alloc (.cells #[.bool s5,.slice A5 (dlen lim) c5] 173)):=(Below.refl _ w5).alloc (Nat.le_refl _) _
 have HD5:=zh (DgTo.grow hd5 hba)
 have HS5:=zh ((HS3.out.grow hb5).grow hba)
 have HB5:=zh (Blk.new w5 173 #[.bool s5,.slice A5 (dlen lim) c5])
 have Hsz5:Hid (w5.heap.size<(w5.alloc (.cells #[.bool s5,.slice A5 (dlen lim) c5] 173)).heap.size):=by unfold Hid;simp
 clear h5 hb5 hd5 hba HS3 hlim
 go_upto_region 3 with fail
 obtain ⟨g5,hg5⟩:∃ g5,g5=w5.heap.size:=⟨_,rfl⟩
 rw [← hg5] at HB5 Hsz5 ⊢
 generalize w5.alloc (.cells #[.bool s5,.slice A5 (dlen lim) c5] 173)=W6 at *
 clear hg5
 have q1:=HS5.out.low.cell 1
 have q3:=HS5.out.low.cell 3
 have p1:=HB5.out.cell 1
 simp only [zq1,zq2,zq3] at q1 q3 p1
 go_wp2_with fail
 refine (rgLarger _ _ N lim _ HS5.out.n1 HD5.out).mono ?_
 rintro e w7 ⟨rfl,hb7⟩
 have HS7:=zh (HS5.out.grow hb7)
 have HD7:=zh (DgTo.grow HD5.out hb7)
 have HB7:=zh (HB5.out.below hb7 Hsz5.out)
 have Hsz7:=zh (Nat.lt_of_lt_of_le Hsz5.out hb7.size)
 clear hb7 HS5 HD5 HB5 Hsz5 q1 q3 p1
 by_cases hN:lim<N
 ·have HF:fracV x = .tuple #[.agg #[.int .i64 0,.int .i64 0],.int .i64 5]:=by
   rw [HFv.out,HFo.out,if_neg]
   have:=Hlim.out
   simp;omega
  rw [decide_eq_true hN]
  have HSz:=zh HF
  have r0:=HS7.out.res.cell 0
  have r1:=HS7.out.res.cell 1
  have f0:=HS7.out.res.frozen 0
  have f1:=HS7.out.res.frozen 1
  simp only [zq1,zq2,zq3] at r0 r1
  have HBe:=zh HS7.out.bel
  clear HF hN
  go_wp2_with fail
  have t0:=(((HS7.out.res.set_ 0 (.int .i64 0)).set_ 1 (.int .i64 0))).cell 0
  have t1:=(((HS7.out.res.set_ 0 (.int .i64 0)).set_ 1 (.int .i64 0))).cell 1
  simp only [zs1,zs2,zs3,zq1,zq2,zq3] at t0 t1
  refine bodyPost_ret (v:=.tuple #[.agg #[.int .i64 0,.int .i64 0],.int .i64 5]) (by simp [results,Tryz.results130,go_sem,t0,t1]) rfl ?_
  exact ⟨by rw [HSz.out],(HBe.out.setCell (p:=⟨w.heap.size+1,0,none⟩) (Nat.le_succ _) _).setCell (p:=⟨w.heap.size+1,1,none⟩) (Nat.le_succ _) _⟩
 rw [decide_eq_false hN]
 have q3:=HS7.out.low.cell 3
 have p1:=HB7.out.cell 1
 simp only [zq1,zq2,zq3] at q3 p1
 have HNl:Hid (N≤1152921504606846976):=by have:=Hlim.out;unfold Hid;omega
 clear hN
 go_wp2_with fail
 refine (rgLarger _ _ M lim _ HS7.out.n2 HD7.out).mono ?_
 rintro e w8 ⟨rfl,hb8⟩
 have HS8:=zh (HS7.out.grow hb8)
 clear hb8 HS7 HD7 HB7 Hsz7 q3 p1
 by_cases hN:lim<M
 ·have HF:fracV x = .tuple #[.agg #[.int .i64 0,.int .i64 0],.int .i64 5]:=by
   rw [HFv.out,HFo.out,if_neg]
   have:=Hlim.out
   simp;omega
  rw [decide_eq_true hN]
  have HSz:=zh HF
  have r0:=HS8.out.res.cell 0
  have r1:=HS8.out.res.cell 1
  have f0:=HS8.out.res.frozen 0
  have f1:=HS8.out.res.frozen 1
  simp only [zq1,zq2,zq3] at r0 r1
  have HBe:=zh HS8.out.bel
  clear HF hN
  go_wp2_with fail
  have t0:=(((HS8.out.res.set_ 0 (.int .i64 0)).set_ 1 (.int .i64 0))).cell 0
  have t1:=(((HS8.out.res.set_ 0 (.int .i64 0)).set_ 1 (.int .i64 0))).cell 1
  simp only [zs1,zs2,zs3,zq1,zq2,zq3] at t0 t1
  refine bodyPost_ret (v:=.tuple #[.agg #[.int .i64 0,.int .i64 0],.int .i64 5]) (by simp [results,Tryz.results130,go_sem,t0,t1]) rfl ?_
  exact ⟨by rw [HSz.out],(HBe.out.setCell (p:=⟨w.heap.size+1,0,none⟩) (Nat.le_succ _) _).setCell (p:=⟨w.heap.size+1,1,none⟩) (Nat.le_succ _) _⟩
 rw [decide_eq_false hN]
 have HMl:Hid (M≤1152921504606846976):=by have:=Hlim.out;unfold Hid;omega
 have HFy:Hid (fracV x = .tuple #[.agg #[.int .i64 x.num,.int .i64 (M:Int)],.int .i64 0]):=by
  have h1:=HNl.out
  have h2:=HMl.out
  unfold Hid
  rw [HFv.out,HFo.out,if_pos]
  simp;omega
 clear hN HFv HFo
 go_upto_region 6 with fail
 have HSa:Hid (RgFr w (w8.alloc (.cells #[.int .i64 0,.int .i64 0] 82)) g4 w8.heap.size s1 s2 (.slice A3 (dlen N) c3) (.slice A4 (dlen M) c4) N M):=HS8.out.below ((Below.refl _ w8).alloc (Nat.le_refl _) _)
 have HAa:=zh (Blk.new w8 82 #[.int .i64 0,.int .i64 0])
 obtain ⟨g6,hg6⟩:∃ g6,g6=w8.heap.size:=⟨_,rfl⟩
 rw [← hg6] at HSa HAa ⊢
 generalize w8.alloc (.cells #[.int .i64 0,.int .i64 0] 82)=W9 at *
 have HS:=zh HSa.out
 have HA:=zh HAa.out
 have y1:=HS.out.low.cell 1
 simp only [zq1,zq2,zq3] at y1
 clear HSa HAa HS8 hg6
 go_wp2_with fail
 go_loopw [7] (fun kx wr => ∃ m:Nat,m≤dlen N∧kx = .int .i64 ((m:Int)-1)∧Hid (RgFr w wr g4 g6 s1 s2 (.slice A3 (dlen N) c3) (.slice A4 (dlen M) c4) N M)∧Hid (Blk wr g6 82 #[.int .i64 ((N / 16777216 ^ m:Nat):Int),.int .i64 0])) (fun kx _ => (intOf kx+1).toNat)
 case atStart => exact ⟨dlen N,Nat.le_refl _,by go_num,HS,by rw [Nat.div_eq_of_lt (dlen_lt N)];exact HA⟩
 case round =>
  clear HS HA
  obtain ⟨m,hm,rfl,HS,HA⟩:=hrel
  have a0:=HA.out.cell 0
  have f0:=HA.out.frozen 0
  have y1:=HS.out.low.cell 1
  have y0:=HS.out.low.cell 0
  simp only [zq1,zq2,zq3] at a0 y1 y0
  rcases m with _ | i
  ·rw [Nat.pow_zero,Nat.div_one] at HA
   have y9:=HS.out.low.cell 3
   simp only [zq1,zq2,zq3] at y9
   clear hm
   go_wp2_with fail
   go_loopw [8] (fun kx wr => ∃ m:Nat,m≤dlen M∧kx = .int .i64 ((m:Int)-1)∧Hid (RgFr w wr g4 g6 s1 s2 (.slice A3 (dlen N) c3) (.slice A4 (dlen M) c4) N M)∧Hid (Blk wr g6 82 #[.int .i64 (N:Int),.int .i64 ((M / 16777216 ^ m:Nat):Int)])) (fun kx _ => (intOf kx+1).toNat)
   case atStart => exact ⟨dlen M,Nat.le_refl _,by go_num,HS,by rw [Nat.div_eq_of_lt (dlen_lt M)];exact HA⟩
   case round =>
    clear HS HA
    obtain ⟨m,hm,rfl,HS,HA⟩:=hrel
    have a1:=HA.out.cell 1
    have f1:=HA.out.frozen 1
    have y1:=HS.out.low.cell 3
    have y0:=HS.out.low.cell 0
    simp only [zq1,zq2,zq3] at a1 y1 y0
    rcases m with _ | i
    ·rw [Nat.pow_zero,Nat.div_one] at HA
     have HT:Hid (∀ (q:Int) (W10:World),x.num=q→RgFr w W10 g4 g6 s1 s2 (.slice A3 (dlen N) c3) (.slice A4 (dlen M) c4) N M→Blk W10 g6 82 #[.int .i64 q,.int .i64 (M:Int)]→x.num=q∧Blk W10 g6 82 #[.int .i64 q,.int .i64 (M:Int)]∧Blk W10 (w.heap.size+1) 82 #[.int .i64 0,.int .i64 0]∧Below w.heap.size w W10):=fun q W10 h1 h2 h3 => ⟨h1,h3,h2.res,h2.bel⟩
     have f0:=HA.out.frozen 0
     have a0:=HA.out.cell 0
     rw [Nat.pow_zero,Nat.div_one] at a1
     simp only [zq1,zq3] at a0
     cases s1
     case' true =>
      have HX:=zh (HSg.out.1 rfl)
      have hNl:=HNl.out
      have v5:IntKind.i64.wrap (0-(N:Int)) = -(N:Int):=(IntWalk.i64_in _ (by omega)).trans (by omega)
      have v6:IntKind.i64.wrap (-(N:Int)) = -(N:Int):=IntWalk.i64_in _ (by omega)
      have HSt:=zh (HS.out.set HA.out 0 (.int .i64 (-(N:Int))))
      have HE:=zh (HT.out (-(N:Int)) _ HX.out HSt.out.1 HSt.out.2)
      clear hNl HSt HT HX HA HS
      go_upto_region 16 with fail
      generalize wr.setCell ⟨g6,0,none⟩ (.int .i64 (-(N:Int)))=W10 at *
      generalize -(N:Int)=q at *
     case' false =>
      have HX:=zh (HSg.out.2 rfl)
      have HE:=zh (HT.out (N:Int) _ HX.out HS.out HA.out)
      clear HT HX HA HS
      go_upto_region 16 with fail
      generalize wr=W10 at *
      generalize hq:(N:Int)=q at *
     all_goals
      obtain ⟨eq,hA,hR,hB⟩:=HE.out
      have eq:=zh eq
      have hB:=zh hB
      have z0:=hA.cell 0
      have z1:=hA.cell 1
      have r0:=hR.cell 0
      have r1:=hR.cell 1
      have k0:=hR.frozen 0
      have k1:=hR.frozen 1
      simp only [zq1,zq2,zq3] at z0 z1 r0 r1
      have HR:=zh hR
      clear hA hR HE f0 f1 a0 a1 y0 y1
      go_wp2_with fail
      have t0:=((HR.out.set_ 0 (.int .i64 q)).set_ 1 (.int .i64 (M:Int))).cell 0
      have t1:=((HR.out.set_ 0 (.int .i64 q)).set_ 1 (.int .i64 (M:Int))).cell 1
      simp only [zs1,zs2,zs3,zq1,zq2,zq3] at t0 t1
      refine bodyPost_ret (v:=.tuple #[.agg #[.int .i64 q,.int .i64 (M:Int)],.int .i64 0]) (by simp [results,Tryz.results130,go_sem,t0,t1]) rfl ?_
      exact ⟨by rw [HFy.out,eq.out],(hB.out.setCell (p:=⟨w.heap.size+1,0,none⟩) (Nat.le_succ _) _).setCell (p:=⟨w.heap.size+1,1,none⟩) (Nat.le_succ _) _⟩
    ·obtain ⟨_,_,e9,-,-,hcell⟩:=DgTo.open_ HS.out.n2
     injection e9 with e9 _ e10
     subst e9 e10
     obtain ⟨bb,oo,e8,hbb,hx8⟩:=hcell i (by omega)
     subst e8
     have y2:=hx8 i (by omega)
     have e0:((i+1:Nat):Int)-1=(i:Int):=by omega
     rw [e0]
     have HE:=zh (fr_next M i)
     have HLe:Hid (M / 16777216 ^ i≤1152921504606846976):=Nat.le_trans (Nat.div_le_self _ _) HMl.out
     have hle:=HLe.out
     rw [← HE.out] at hle
     have hg:=gdig_lt M i
     generalize hz:M / 16777216 ^ (i+1)=z at *
     generalize gdig M i=d at *
     have HZ:Hid (∀ u:Int,u=16777216*(z:Int)+(d:Int)→u=((M / 16777216 ^ i:Nat):Int)):=fun u hu => by rw [hu,← HE.out];omega
     have v1:IntKind.i64.wrap (16777216*(z:Int))=16777216*(z:Int):=IntWalk.i64_in _ (by omega)
     have v2:IntKind.i64.wrap (16777216*(z:Int)+(d:Int))=16777216*(z:Int)+(d:Int):=IntWalk.i64_in _ (by omega)
     have v3:IntKind.i64.wrap ((i:Int)-1)=(i:Int)-1:=IntWalk.i64_in _ (by omega)
     have i1:(i:Int)<(dlen M:Int):=by omega
     have hm':i<dlen M:=by omega
     clear hcell hx8 hz hle hm e0
     have ua:=HeldB.cell a1
     have uy:=HeldB.cell y1
     have ud:=HeldB.cell y2
     clear y0 y2 a1 y1 f1
     go_upto_region 13 with fail
     refine wp_region_grow 11 (fun _ => none) (by kernel_rfl) (by kernel_rfl) ?_
     simp only [zt1,zt2,zt3,zt4]
     refine wpG_quiet 11 (by kernel_rfl) (by rfl) (by decide) ?_
     simp only [zt1,zt2,zt3,zt4]
     repeat (go_big_quiet_step (fail))
     refine wpQuiet_nil ?_
     refine Zc ?_
     intro w9 hb9 hF
     have HS9:=zh (HS.out.below (hb9.mono HS.out.Bw))
     have HA9:=zh (HA.out.below hb9 HA.out.lt)
     have a9:=HA9.out.cell 1
     have f9:=HA9.out.frozen 1
     simp only [zq1,zq2,zq3] at a9
     have HSt:=zh (HS9.out.set HA9.out 1 (.int .i64 (16777216*(z:Int)+(d:Int))))
     clear hF hb9 ua uy ud HS HA
     go_wp2_with fail
     go_roundw
     case rel => exact ⟨i,by omega,by go_num,HSt.out.1,by rw [← HZ.out _ rfl];exact HSt.out.2⟩
     case measure => simp [intOf] <;> omega
  ·obtain ⟨_,_,e9,-,-,hcell⟩:=DgTo.open_ HS.out.n1
   injection e9 with e9 _ e10
   subst e9 e10
   obtain ⟨bb,oo,e8,hbb,hx8⟩:=hcell i (by omega)
   subst e8
   have y2:=hx8 i (by omega)
   have e0:((i+1:Nat):Int)-1=(i:Int):=by omega
   rw [e0]
   have HE:=zh (fr_next N i)
   have HLe:Hid (N / 16777216 ^ i≤1152921504606846976):=Nat.le_trans (Nat.div_le_self _ _) HNl.out
   have hle:=HLe.out
   rw [← HE.out] at hle
   have hg:=gdig_lt N i
   generalize hz:N / 16777216 ^ (i+1)=z at *
   generalize gdig N i=d at *
   have HZ:Hid (∀ u:Int,u=16777216*(z:Int)+(d:Int)→u=((N / 16777216 ^ i:Nat):Int)):=fun u hu => by rw [hu,← HE.out];omega
   have v1:IntKind.i64.wrap (16777216*(z:Int))=16777216*(z:Int):=IntWalk.i64_in _ (by omega)
   have v2:IntKind.i64.wrap (16777216*(z:Int)+(d:Int))=16777216*(z:Int)+(d:Int):=IntWalk.i64_in _ (by omega)
   have v3:IntKind.i64.wrap ((i:Int)-1)=(i:Int)-1:=IntWalk.i64_in _ (by omega)
   have i1:(i:Int)<(dlen N:Int):=by omega
   have hm':i<dlen N:=by omega
   clear hcell hx8 hz hle hm e0
   have ua:=HeldB.cell a0
   have uy:=HeldB.cell y1
   have ud:=HeldB.cell y2
   clear y0 y2 a0 y1 f0
   go_upto_region 9 with fail
   refine wp_region_grow 11 (fun _ => none) (by kernel_rfl) (by kernel_rfl) ?_
   simp only [zt1,zt2,zt3,zt4]
   refine wpG_quiet 11 (by kernel_rfl) (by rfl) (by decide) ?_
   simp only [zt1,zt2,zt3,zt4]
   repeat (go_big_quiet_step (fail))
   refine wpQuiet_nil ?_
   refine Zc ?_
   intro w9 hb9 hF
   have HS9:=zh (HS.out.below (hb9.mono HS.out.Bw))
   have HA9:=zh (HA.out.below hb9 HA.out.lt)
   have a9:=HA9.out.cell 0
   have f9:=HA9.out.frozen 0
   simp only [zq1,zq3] at a9
   have HSt:=zh (HS9.out.set HA9.out 0 (.int .i64 (16777216*(z:Int)+(d:Int))))
   clear hF hb9 ua uy ud HS HA
   go_wp2_with fail
   go_roundw
   case rel => exact ⟨i,by omega,by go_num,HSt.out.1,by rw [← HZ.out _ rfl];exact HSt.out.2⟩
   case measure => simp [intOf] <;> omega
theorem dlen_small {n:Nat} (h:n≤1152921504606846976):dlen n≤3:=dlen_le (by show n<16777216 ^ 3;omega)
theorem prodZ_dl {l : List Int} (h : ∀ x ∈ l,x.natAbs ≤ 1152921504606846976) : ∀ k,k ≤ l.length → dlen (prodZ (l.take k)).natAbs ≤ 3 * k + 1
 | 0,_ => by
  show dlen 1≤1
  rw [dlen_one]
  exact Nat.le_refl _
 | k+1,hk => by
  have ih:=prodZ_dl h k (by omega)
  rw [take_snoc l k (by omega),prodZ_snoc,Int.natAbs_mul]
  have h1:=dlen_mul ih (dlen_small (h l[k] (List.getElem_mem (by omega))))
  omega
def BgBox (w:World) (D:Nat) (z:Int):Prop:=∃ b A l c,Blk w D 173 #[.bool b,.slice A l c]∧BigAt w w.heap.size b (.slice A l c) z
theorem BgBox.grow {w w':World} {D:Nat} {z:Int} (h:BgBox w D z) (hb:Below w.heap.size w w'):BgBox w' D z:=by
 obtain ⟨b,A,l,c,h1,h2⟩:=h
 exact ⟨b,A,l,c,h1.below hb h1.lt,h2.grow hb⟩
theorem BgBox.put {w:World} {D:Nat} {z z0:Int} (h0:BgBox w D z0) {b:Bool} {A:Option Addr} {l c:Nat} (h:BigAt w w.heap.size b (.slice A l c) z):BgBox ((w.setCell ⟨D,0,none⟩ (.bool b)).setCell ⟨D,1,none⟩ (.slice A l c)) D z:=by
 obtain ⟨b0,A0,l0,c0,h1,-⟩:=h0
 have z0:=h1.cell 0
 have z1:=(h1.set_ 0 (.bool b)).cell 1
 simp only [zq1,zq3] at z0
 have g1:=DgTo.set h.2 z0 (fun z => by simp) (.bool b)
 have g2:=DgTo.set g1 (u:=.slice A0 l0 c0) z1 (fun z => by simp) (.slice A l c)
 exact ⟨b,A,l,c,(h1.set_ 0 _).set_ 1 _,h.1,DgTo.mono g2 (by simp [World.setCell])⟩
theorem rgPart (by_:Int) (v:Value) (l:List Int) (w:World) (hv:IntsAt w w.heap.size v l) (hl:l.length≤8) (hx:∀ x ∈ l,x.natAbs≤1152921504606846976) (hb0:0<by_) (hb1:by_≤1152921504606846976) :
  Calls Tryz.prog 134 #[v,.int .i64 by_] w (ExqPost w (Zu by_ l) 30):=by
 obtain ⟨A,c,rfl,hc1,hc2,hcell⟩:=hv.open_
 unfold maxLen at hc2
 have HX:=zh hx
 have HC:=zh hcell
 have HB0:=zh hb0
 have HB1:=zh hb1
 have HR:=zh (Blk.new w 175 #[.bool false,.slice none 0 0,.bool false,.slice none 0 0])
 have HB:=zh ((Below.refl _ w).alloc (Nat.le_refl _) (.cells #[.bool false,.slice none 0 0,.bool false,.slice none 0 0] 175))
 clear hcell hv hx hb0 hb1
 go_enter Tryz.func134,Tryz.ntmps134
 go_wp2_with fail
 generalize w.alloc (.cells #[.bool false,.slice none 0 0,.bool false,.slice none 0 0] 175)=W0 at *
 refine (rgInt 1 W0 (by decide) (by decide)).mono ?_
 rintro e w1 ⟨n1,v1,rfl,hb1,hN1⟩
 obtain ⟨A1,c1,rfl,-⟩:=DgTo.open_ hN1.2
 generalize dlen (1:Int).natAbs=l1 at *
 have HR1:=zh ((HR.out.below hb1 HR.out.lt).alloc (.cells #[.bool n1,.slice A1 l1 c1] 173))
 have hBel:=HB.out.trans (hb1.mono HB.out.size)
 have HB1':=zh (hBel.alloc hBel.size (.cells #[.bool n1,.slice A1 l1 c1] 173))
 have HN1:Hid (BgBox (w1.alloc (.cells #[.bool n1,.slice A1 l1 c1] 173)) w1.heap.size (prodZ (l.take 0))):=⟨n1,A1,l1,c1,Blk.new _ _ _,hN1.grow ((Below.refl _ _).alloc (Nat.le_refl _) _)⟩
 have HWs:Hid (w.heap.size<w1.heap.size):=Nat.lt_of_lt_of_le HR.out.lt hb1.size
 clear HR HB hb1 hN1 hBel
 go_wp2_with fail
 generalize hD5:w1.heap.size=D5 at *
 clear hD5
 go_loopw [6] (fun ix wr => ∃ k:Nat,k≤l.length∧ix = .int .i64 k∧Hid (BgBox wr D5 (prodZ (l.take k)))∧Hid (Blk wr w.heap.size 175 #[.bool false,.slice none 0 0,.bool false,.slice none 0 0])∧Hid (Below w.heap.size w wr)) (fun ix _ => l.length-(intOf ix).toNat)
 case atStart => exact ⟨0,Nat.zero_le _,rfl,HN1,HR1,HB1'⟩
 case round =>
  clear HN1 HR1 HB1'
  obtain ⟨k,hk,rfl,HN,HR,HB⟩:=hrel
  have k0:(0:Int)≤(k:Int):=Int.natCast_nonneg _
  obtain ⟨nb,nA,nl,nc,hNb,hNn⟩:=HN.out
  have q0:=hNb.cell 0
  have q1:=hNb.cell 1
  simp only [zq1,zq2,zq3] at q0 q1
  have HNb:=zh hNb
  have HNn:=zh hNn
  have HPk:=zh (prodZ_dl HX.out k hk)
  clear hNb hNn
  by_cases hkl:k<l.length
  ·have k1:(k:Int)<(l.length:Int):=by omega
   obtain ⟨b2,o2,rfl,hlt,hcl⟩:=HC.out k hkl
   have hx:=(HB.out.cell (p:=⟨b2,o2+k,none⟩) hlt).trans (hcl k hkl)
   have HXk:=zh (HX.out l[k] (List.getElem_mem hkl))
   have HP:Hid (prodZ (l.take (k+1))=prodZ (l.take k)*l[k]):=by unfold Hid;rw [take_snoc l k hkl,prodZ_snoc]
   clear hcl hlt
   generalize l[k]=x at *
   go_upto_region 5 with fail
   have u0:=HeldB.cell q0
   have u1:=HeldB.cell q1
   have ux:=HeldB.cell hx
   clear hx q0 q1
   refine wp_region_grow 7 (fun i => if i=5 then some (gBg x) else if i=6 then some (gBg (prodZ (l.take k)*x)) else none) (by kernel_rfl) (by kernel_rfl) ?_
   simp only [zt1,zt2,zt3,zt4]
   refine wpG_quiet 5 (by kernel_rfl) (by rfl) (by decide) ?_
   simp only [zt1,zt2,zt3,zt4]
   repeat (go_big_quiet_step (fail))
   refine wpQuiet_nil ?_
   refine wpG_call rfl rfl (fun w1 hb1 _ => ⟨170,#[.int .i64 x],by go_simp,bg_calls (rgInt x w1 (by have:=HXk.out;omega) (by have:=HXk.out;omega))⟩) ?_
   rintro _ ⟨rb,rA,rc,rfl⟩
   simp only [Act.put,zs1,zs2,zs3]
   refine wpG_call rfl rfl ?_ ?_
   ·intro w1 hb1 hk1
    obtain ⟨_,_,e17,h17⟩:∃ s v,Value.agg #[.bool rb,.slice rA (dlen x.natAbs) rc] = .agg #[.bool s,v]∧BigAt w1 w1.heap.size s v x:=hk1 19 (by decide)
    cases e17
    exact ⟨175,#[.agg #[.bool nb,.slice nA nl nc],.agg #[.bool rb,.slice rA (dlen x.natAbs) rc]],by go_simp,bg_calls (rgProduct _ _ _ _ (prodZ (l.take k)) x w1 (HNn.out.grow hb1) h17 (by have:=HPk.out;omega) (by have:=dlen_small HXk.out;omega))⟩
   rintro _ ⟨sb,sA,sc,rfl⟩
   simp only [Act.put,zs1,zs2,zs3]
   refine Zc ?_
   intro w5 hb5 hF
   obtain ⟨_,_,e18,h18⟩:∃ s v,Value.agg #[.bool sb,.slice sA (dlen (prodZ (l.take k)*x).natAbs) sc] = .agg #[.bool s,v]∧BigAt w5 w5.heap.size s v (prodZ (l.take k)*x):=hF 20
   cases e18
   have HB5:=zh (HB.out.trans (hb5.mono HB.out.size))
   have HR5:=zh (HR.out.below hb5 HR.out.lt)
   have hNb5:=HNb.out.below hb5 HNb.out.lt
   have q0:=hNb5.cell 0
   have q1:=hNb5.cell 1
   have f0:=hNb5.frozen 0
   have f1:=hNb5.frozen 1
   simp only [zq1,zq2,zq3] at q0 q1
   generalize hsl:dlen (prodZ (l.take k)*x).natAbs=sl at *
   clear hsl
   rw [← HP.out] at h18
   have H18:=zh h18
   have HN5:=zh (HN.out.grow hb5)
   clear hF u0 u1 ux h18 hb5 hNb5 HP HN HR HB HNb HNn
   go_wp2_with fail
   have HN6:=zh (HN5.out.put H18.out)
   have HR6:=zh ((HR5.out.far (p:=⟨D5,0,none⟩) (Nat.ne_of_lt HWs.out) (.bool sb)).far (p:=⟨D5,1,none⟩) (Nat.ne_of_lt HWs.out) (.slice sA sl sc))
   have HB6:=zh ((HB5.out.setCell (p:=⟨D5,0,none⟩) (Nat.le_of_lt HWs.out) (.bool sb)).setCell (p:=⟨D5,1,none⟩) (Nat.le_of_lt HWs.out) (.slice sA sl sc))
   clear q0 q1 f0 f1 H18 HN5 HR5 HB5
   go_roundw
   case rel => exact ⟨k+1,by omega,by go_num,HN6,HR6,HB6⟩
   case measure => simp [intOf];omega
  ·obtain rfl:k=l.length:=by omega
   rw [List.take_length] at HNn HPk
   go_upto_region 6 with fail
   have u0:=HeldB.cell q0
   have u1:=HeldB.cell q1
   clear q0 q1
   refine wp_region_grow 4 (fun i => if i=2 then some (gBg by_) else none) (by kernel_rfl) (by kernel_rfl) ?_
   simp only [zt1,zt2,zt3,zt4]
   refine wpG_quiet 2 (by kernel_rfl) (by rfl) (by decide) ?_
   simp only [zt1,zt2,zt3,zt4]
   repeat (go_big_quiet_step (fail))
   refine wpQuiet_nil ?_
   refine wpG_call rfl rfl (fun w1 hb1 _ => ⟨170,#[.int .i64 by_],by go_simp,bg_calls (rgInt by_ w1 (by have:=HB0.out;omega) HB1.out)⟩) ?_
   rintro _ ⟨rb,rA,rc,rfl⟩
   simp only [Act.put,zs1,zs2,zs3]
   refine wpG_quiet 1 (by kernel_rfl) (by rfl) (by decide) ?_
   simp only [zt1,zt2,zt3,zt4]
   repeat (go_big_quiet_step (fail))
   refine wpQuiet_nil ?_
   refine Zc ?_
   intro w5 hb5 hF
   obtain ⟨_,_,e22,h22⟩:∃ s v,Value.agg #[.bool rb,.slice rA (dlen by_.natAbs) rc] = .agg #[.bool s,v]∧BigAt w5 w5.heap.size s v by_:=hF 23
   cases e22
   have HL:Hid (ExqAt w5 w5.heap.size (.agg #[.bool nb,.slice nA nl nc,.bool rb,.slice rA (dlen by_.natAbs) rc]) (Zu by_ l) 30):=⟨_,_,_,_,prodZ l,by_,rfl,HNn.out.grow hb5,h22,HB0.out,by have:=HPk.out;omega,by have:=HB1.out;have:=HB0.out;have:=dlen_small (n:=by_.natAbs) (by omega);omega,rfl⟩
   have HB8:=zh (HB.out.trans (hb5.mono HB.out.size))
   have HD8:=zh (HR.out.below hb5 HR.out.lt)
   have HOut:=zh (exq_out (w:=w) (Nat.le_refl _) HB8.out HD8.out HL.out)
   have q0:=HD8.out.cell 0
   have q1:=HD8.out.cell 1
   have q2:=HD8.out.cell 2
   have q3:=HD8.out.cell 3
   have f0:=HD8.out.frozen 0
   have f1:=HD8.out.frozen 1
   have f2:=HD8.out.frozen 2
   have f3:=HD8.out.frozen 3
   simp only [zq1,zq2,zq3] at q0 q1 q2 q3
   clear hF u0 u1 h22 hb5 HN HR HB HNb HNn
   go_wp2_with fail
   refine bodyPost_ret (v:=.agg #[.bool nb,.slice nA nl nc,.bool rb,.slice rA (dlen by_.natAbs) rc]) (by simp [results,Tryz.results134,go_sem,q0,q1,q2,q3]) rfl ?_
   exact ⟨_,rfl,HOut.out.1,HOut.out.2⟩
theorem rgZero (w:World):Calls Tryz.prog 132 #[] w (ExqPost w 0 30):=by
 have HR:=zh (Blk.new w 175 #[.bool false,.slice none 0 0,.bool false,.slice none 0 0])
 have HB:=zh ((Below.refl _ w).alloc (Nat.le_refl _) (.cells #[.bool false,.slice none 0 0,.bool false,.slice none 0 0] 175))
 go_enter Tryz.func132,Tryz.ntmps132
 go_upto_region 1 with fail
 generalize w.alloc (.cells #[.bool false,.slice none 0 0,.bool false,.slice none 0 0] 175)=W0 at *
 have HI:Hid (IntsAt (W0.alloc (.cells #[.int .i64 0] 3)) (W0.alloc (.cells #[.int .i64 0] 3)).heap.size (.slice (some ⟨W0.heap.size,0,none⟩) 1 1) [0]):=RowAt.of_own (quo_own1 W0 3 (.int .i64 0))
 have HBa:=zh (HB.out.alloc HB.out.size (.cells #[.int .i64 0] 3))
 have HRa:=zh (HR.out.alloc (.cells #[.int .i64 0] 3))
 go_wp2_with fail
 refine (rgPart 1 _ [0] _ HI.out (by decide) (by decide) (by decide) (by decide)).mono ?_
 rintro e w5 ⟨v5,rfl,hb5,h5⟩
 obtain ⟨s1,A1,l1,c1,s2,A2,l2,c2,_,_,rfl,-⟩:=exq_form h5
 have HL:=zh h5
 have HB8:=zh (HBa.out.trans (hb5.mono HBa.out.size))
 have HD8:=zh (HRa.out.below hb5 HRa.out.lt)
 have HOut:=zh (exq_out (w:=w) (Nat.le_refl _) HB8.out HD8.out HL.out)
 have q0:=HD8.out.cell 0
 have q1:=HD8.out.cell 1
 have q2:=HD8.out.cell 2
 have q3:=HD8.out.cell 3
 have f0:=HD8.out.frozen 0
 have f1:=HD8.out.frozen 1
 have f2:=HD8.out.frozen 2
 have f3:=HD8.out.frozen 3
 simp only [zq1,zq2,zq3] at q0 q1 q2 q3
 clear h5 hb5
 go_wp2_with fail
 refine bodyPost_ret (v:=.agg #[.bool s1,.slice A1 l1 c1,.bool s2,.slice A2 l2 c2]) (by simp [results,Tryz.results132,go_sem,q0,q1,q2,q3]) rfl ?_
 have h0:Zu 1 [0]=0:=by decide
 have h1:=HOut.out.2
 rw [h0] at h1
 exact ⟨_,rfl,HOut.out.1,h1⟩
def leftTo (b:BeamT) (a:Int) (k:Nat):Rat:=overLoads b (hangF a) (Zu 2000 [b.even,a,a]) k
def leftR (b:BeamT) (a:Int):Rat:=leftTo b a b.loads.length
def EqBox (w:World) (D:Nat) (q:Rat) (K:Nat):Prop:=∃ b1 A1 l1 c1 b2 A2 l2 c2,Blk w D 175 #[.bool b1,.slice A1 l1 c1,.bool b2,.slice A2 l2 c2]∧ExqAt w w.heap.size (.agg #[.bool b1,.slice A1 l1 c1,.bool b2,.slice A2 l2 c2]) q K
theorem EqBox.grow {w w':World} {D:Nat} {q:Rat} {K:Nat} (h:EqBox w D q K) (hb:Below w.heap.size w w'):EqBox w' D q K:=by
 obtain ⟨b1,A1,l1,c1,b2,A2,l2,c2,h1,h2⟩:=h
 exact ⟨b1,A1,l1,c1,b2,A2,l2,c2,h1.below hb h1.lt,h2.grow hb⟩
theorem EqBox.new {w:World} {q:Rat} {K:Nat} {b1:Bool} {A1:Option Addr} {l1 c1:Nat} {b2:Bool} {A2:Option Addr} {l2 c2:Nat} (h:ExqAt w w.heap.size (.agg #[.bool b1,.slice A1 l1 c1,.bool b2,.slice A2 l2 c2]) q K):EqBox (w.alloc (.cells #[.bool b1,.slice A1 l1 c1,.bool b2,.slice A2 l2 c2] 175)) w.heap.size q K :=
 ⟨b1,A1,l1,c1,b2,A2,l2,c2,Blk.new _ _ _,h.grow ((Below.refl _ _).alloc (Nat.le_refl _) _)⟩
theorem EqBox.put {w:World} {D:Nat} {q q':Rat} {K K':Nat} (h0:EqBox w D q K) {b1:Bool} {A1:Option Addr} {l1 c1:Nat} {b2:Bool} {A2:Option Addr} {l2 c2:Nat} (hE:ExqAt w w.heap.size (.agg #[.bool b1,.slice A1 l1 c1,.bool b2,.slice A2 l2 c2]) q' K') :
  EqBox ((((w.setCell ⟨D,0,none⟩ (.bool b1)).setCell ⟨D,1,none⟩ (.slice A1 l1 c1)).setCell ⟨D,2,none⟩ (.bool b2)).setCell ⟨D,3,none⟩ (.slice A2 l2 c2)) D q' K':=by
 obtain ⟨x1,X1,y1,z1,x2,X2,y2,z2,hD,-⟩:=h0
 have h1:=hD.set_ 0 (.bool b1)
 have h2:=h1.set_ 1 (.slice A1 l1 c1)
 have h3:=h2.set_ 2 (.bool b2)
 have t0:=hD.cell 0
 have t1:=h1.cell 1
 have t2:=h2.cell 2
 have t3:=h3.cell 3
 simp only [zq1,zq3] at t0
 have hset:∀ {v:Value} {x k:Nat},DgTo w w.heap.size v x k→DgTo ((((w.setCell ⟨D,0,none⟩ (.bool b1)).setCell ⟨D,1,none⟩ (.slice A1 l1 c1)).setCell ⟨D,2,none⟩ (.bool b2)).setCell ⟨D,3,none⟩ (.slice A2 l2 c2)) ((((w.setCell ⟨D,0,none⟩ (.bool b1)).setCell ⟨D,1,none⟩ (.slice A1 l1 c1)).setCell ⟨D,2,none⟩ (.bool b2)).setCell ⟨D,3,none⟩ (.slice A2 l2 c2)).heap.size v x k:=fun h => by
  have g1:=DgTo.set h t0 (fun z => by simp) (.bool b1)
  have g2:=DgTo.set g1 (u:=.slice X1 y1 z1) t1 (fun z => by simp) (.slice A1 l1 c1)
  have g3:=DgTo.set g2 (u:=.bool x2) t2 (fun z => by simp) (.bool b2)
  have g4:=DgTo.set g3 (u:=.slice X2 y2 z2) t3 (fun z => by simp) (.slice A2 l2 c2)
  exact DgTo.mono g4 (by simp [World.setCell])
 obtain ⟨_,_,_,_,N,E,e,h4,h5,h6⟩:=hE
 cases e
 exact ⟨_,_,_,_,_,_,_,_,h3.set_ 3 (.slice A2 l2 c2),_,_,_,_,N,E,rfl,⟨h4.1,hset h4.2⟩,⟨h5.1,hset h5.2⟩,h6⟩
structure SumQ (w wr:World) (bx:Array Value) (Ds:Nat) (q:Rat) (K:Nat):Prop where
 bm:Blk wr w.heap.size 122 bx
 res:Blk wr (w.heap.size+1) 175 #[.bool false,.slice none 0 0,.bool false,.slice none 0 0]
 sum:EqBox wr Ds q K
 bel:Below w.heap.size w wr
 far:w.heap.size+1<Ds
theorem SumQ.grow {w wr w':World} {bx:Array Value} {Ds:Nat} {q:Rat} {K:Nat} (h:SumQ w wr bx Ds q K) (hb:Below wr.heap.size wr w'):SumQ w w' bx Ds q K :=
 ⟨h.bm.below hb h.bm.lt,h.res.below hb h.res.lt,h.sum.grow hb,h.bel.trans (hb.mono h.bel.size),h.far⟩
theorem SumQ.more {w wr:World} {bx:Array Value} {Ds:Nat} {q:Rat} {K K':Nat} (h:SumQ w wr bx Ds q K) (hK:K≤K'):SumQ w wr bx Ds q K':=by
 obtain ⟨x1,X1,y1,z1,x2,X2,y2,z2,hD,h1⟩:=h.sum
 exact ⟨h.bm,h.res,⟨x1,X1,y1,z1,x2,X2,y2,z2,hD,h1.more hK⟩,h.bel,h.far⟩
theorem SumQ.put {w wr:World} {bx:Array Value} {Ds:Nat} {q q':Rat} {K K':Nat} (h:SumQ w wr bx Ds q K) {b1:Bool} {A1:Option Addr} {l1 c1:Nat} {b2:Bool} {A2:Option Addr} {l2 c2:Nat} (hE:ExqAt wr wr.heap.size (.agg #[.bool b1,.slice A1 l1 c1,.bool b2,.slice A2 l2 c2]) q' K') :
  SumQ w ((((wr.setCell ⟨Ds,0,none⟩ (.bool b1)).setCell ⟨Ds,1,none⟩ (.slice A1 l1 c1)).setCell ⟨Ds,2,none⟩ (.bool b2)).setCell ⟨Ds,3,none⟩ (.slice A2 l2 c2)) bx Ds q' K':=by
 have hf:=h.far
 exact ⟨h.bm.far4 (by omega) _ _ _ _,h.res.far4 (by omega) _ _ _ _,h.sum.put hE,below_stored h.bel (by omega) _ _ _ _,h.far⟩
theorem SumQ.start {w w1 : World} {bx : Array Value} {q : Rat} {K : Nat} (hb : Below (w.heap.size + 2) ((w.alloc (.cells bx 122)).alloc (.cells #[.bool false,.slice none 0 0,.bool false,.slice none 0 0] 175)) w1)
  {b1:Bool} {A1:Option Addr} {l1 c1:Nat} {b2:Bool} {A2:Option Addr} {l2 c2:Nat} (hE:ExqAt w1 w1.heap.size (.agg #[.bool b1,.slice A1 l1 c1,.bool b2,.slice A2 l2 c2]) q K) :
  SumQ w (w1.alloc (.cells #[.bool b1,.slice A1 l1 c1,.bool b2,.slice A2 l2 c2] 175)) bx w1.heap.size q K:=by
 have h1:Blk ((w.alloc (.cells bx 122)).alloc (.cells #[.bool false,.slice none 0 0,.bool false,.slice none 0 0] 175)) (w.heap.size+1) 175 #[.bool false,.slice none 0 0,.bool false,.slice none 0 0]:=by
  have:=Blk.new (w.alloc (.cells bx 122)) 175 #[.bool false,.slice none 0 0,.bool false,.slice none 0 0]
  simpa using this
 have h2:=(Blk.new w 122 bx).alloc (.cells #[.bool false,.slice none 0 0,.bool false,.slice none 0 0] 175)
 have h3:Below w.heap.size w ((w.alloc (.cells bx 122)).alloc (.cells #[.bool false,.slice none 0 0,.bool false,.slice none 0 0] 175)):=((Below.refl _ _).alloc (Nat.le_refl _) _).alloc (by simp) _
 have h4:Below w.heap.size w w1:=h3.trans (hb.mono (by omega))
 have hsz:w.heap.size+2≤w1.heap.size:=by have:=hb.size;simpa using this
 exact ⟨(h2.below hb (by omega)).alloc _,(h1.below hb (by omega)).alloc _,EqBox.new hE,h4.alloc h4.size _,by omega⟩
theorem tiny2 {x y:Int} (h1:x.natAbs≤1152921504606846976) (h2:y.natAbs≤1152921504606846976):∀ z ∈ [x,y],z.natAbs≤1152921504606846976:=fun z hz => by
 simp at hz
 rcases hz with rfl | rfl
 ·exact h1
 ·exact h2
theorem rgLeft (v:Value) (b:BeamT) (a:Int) (w:World) (hv:BeamAt w w.heap.size v b) (hb:BeamOk b) (ha0:0≤a) (ha1:a≤b.len):Calls Tryz.prog 168 #[v,.int .i64 a] w (ExqPost w (leftR b a) 1270):=by
 obtain ⟨As,cs,Al,cl,rfl,hS,hL⟩:=hv
 obtain ⟨_,_,e,_,hcl,hLc⟩:=hL.open_
 injection e with e1 _ e2
 subst e1 e2
 have h2:=hb.loads1
 have h3:=hb.even
 have h5:=hb.len
 unfold maxLen at hcl
 have HLc:=zh hLc
 have Hb:=zh hb
 obtain ⟨h31,h32⟩:=h3
 obtain ⟨h51,h52⟩:=h5
 clear hLc hb hS hL
 go_enter Tryz.func168,Tryz.ntmps168
 go_wp2_with fail
 have hI:=ints_new ((w.alloc (.cells #[.string b.name,.int .i64 b.len,.slice As b.sup.length cs,.slice Al b.loads.length cl,.int .i64 b.even] 122)).alloc (.cells #[.bool false,.slice none 0 0,.bool false,.slice none 0 0] 175)) 3 [b.even,a,a] (Nat.le_of_ble_eq_true rfl)
 have hsz:((w.alloc (.cells #[.string b.name,.int .i64 b.len,.slice As b.sup.length cs,.slice Al b.loads.length cl,.int .i64 b.even] 122)).alloc (.cells #[.bool false,.slice none 0 0,.bool false,.slice none 0 0] 175)).heap.size=w.heap.size+1+1:=by simp
 rw [hsz] at hI
 refine (rgPart 2000 _ [b.even,a,a] _ hI (Nat.le_of_ble_eq_true rfl) (fun x hx => ?_) (by decide) (by decide)).mono ?_
 ·simp at hx
  omega
 rintro e w1 ⟨v1,rfl,hb1',hE1⟩
 obtain ⟨m1,B1,k1,d1,m2,B2,k2,d2,_,_,rfl,-⟩:=exq_form hE1
 have hbb:=((Below.refl _ ((w.alloc (.cells #[.string b.name,.int .i64 b.len,.slice As b.sup.length cs,.slice Al b.loads.length cl,.int .i64 b.even] 122)).alloc (.cells #[.bool false,.slice none 0 0,.bool false,.slice none 0 0] 175))).alloc (Nat.le_refl _) (.cells #[.int .i64 b.even,.int .i64 a,.int .i64 a] 3)).trans (hb1'.mono (by simp))
 rw [hsz] at hbb
 have HSt:=zh (SumQ.start hbb hE1)
 have HH:Hid (leftTo b a 0=Zu 2000 [b.even,a,a]):=rfl
 clear hI hsz hb1' hE1 hbb
 go_wp2_with fail
 generalize w1.heap.size=Ds at *
 rw [← HH.out] at HSt
 clear HH
 go_loopw [6] (fun ix wr => ∃ k:Nat,k≤b.loads.length∧ix = .int .i64 k∧Hid (SumQ w wr #[.string b.name,.int .i64 b.len,.slice As b.sup.length cs,.slice Al b.loads.length cl,.int .i64 b.even] Ds (leftTo b a k) (30+31*k))) (fun ix _ => b.loads.length-(intOf ix).toNat)
 case atStart => exact ⟨0,Nat.zero_le _,rfl,HSt⟩
 case round =>
  clear HSt
  obtain ⟨k,hk,rfl,HSt⟩:=hrel
  have k0:(0:Int)≤(k:Int):=Int.natCast_nonneg _
  have c3:=HSt.out.bm.cell 3
  obtain ⟨sb1,sA1,sl1,sc1,sb2,sA2,sl2,sc2,hB,hE⟩:=HSt.out.sum
  have y0:=hB.cell 0
  have y1:=hB.cell 1
  have y2:=hB.cell 2
  have y3:=hB.cell 3
  simp only [zq1,zq2,zq3] at y0 y1 y2 y3 c3
  have HE:=zh hE
  clear hB hE
  by_cases hkl:k<b.loads.length
  ·have k1:(k:Int)<(b.loads.length:Int):=by omega
   obtain ⟨b2,o2,rfl,hlt,hcl⟩:=HLc.out k hkl
   obtain ⟨hx1,hx2⟩:=hcl k hkl
   have hx1:=(HSt.out.bel.cell (p:=⟨b2,o2+k*2,none⟩) hlt).trans hx1
   have hx2:=(HSt.out.bel.cell (p:=⟨b2,o2+k*2+1,none⟩) hlt).trans hx2
   obtain ⟨p1,p2,p3,p4⟩:=Hb.out.loads _ (List.getElem_mem hkl)
   have HOv:=zh (Zl (b:=b) (f:=hangF a) (s:=Zu 2000 [b.even,a,a]) hkl)
   clear hcl
   generalize b.loads[k]=x at *
   obtain ⟨pos,wt⟩:=x
   simp only at hx1 hx2 p1 p2 p3 p4
   by_cases hpa:pos<a
   ·have hd:decide (pos<a)=true:=decide_eq_true hpa
    have HT:Hid (leftTo b a (k+1)=leftTo b a k+Zu 1 [wt,a-pos]):=by
     unfold Hid leftTo
     rw [HOv.out]
     unfold hangF
     simp only [if_pos hpa]
    have hs1:(a-pos).natAbs≤1152921504606846976:=by omega
    have hs2:wt.natAbs≤1152921504606846976:=by omega
    have v1:IntKind.i64.wrap (a-pos)=a-pos:=IntWalk.i64_in _ (by omega)
    clear HOv
    go_upto_region 6 with fail
    have u0:=HeldB.cell y0
    have u1:=HeldB.cell y1
    have u2:=HeldB.cell y2
    have u3:=HeldB.cell y3
    have u4:=HeldB.cell hx1
    have u5:=HeldB.cell hx2
    have u6:=HeldB.cell c3
    clear y0 y1 y2 y3 hx1 hx2 c3
    refine wp_region_grow 18 (fun i => if i=15 then some (gI [wt,a-pos]) else if i=16 then some (gEq (Zu 1 [wt,a-pos]) 30) else if i=17 then some (gEq (leftTo b a k+Zu 1 [wt,a-pos]) (30+31*(k+1))) else none) (by kernel_rfl) (by kernel_rfl) ?_
    simp only [zt1,zt2,zt3,zt4]
    refine wpG_quiet 15 (by kernel_rfl) (by rfl) (by decide) ?_
    simp only [zt1,zt2,zt3,zt4]
    repeat (go_big_quiet_step (fail))
    refine wpQuiet_nil ?_
    refine wpG_new rfl rfl (fun w1 hb1 _ => gI_new (T:=3) (l:=[wt,a-pos]) (Nat.le_of_ble_eq_true rfl) (by go_simp)) ?_
    rintro _ ⟨g35,rfl⟩
    simp only [Act.put,zs1,zs2,zs3]
    refine wpG_call rfl rfl ?_ ?_
    ·intro w1 hb1 hk
     have h35:IntsAt w1 w1.heap.size (.slice (some ⟨g35,0,none⟩) 2 2) [wt,a-pos]:=hk 43 (by decide)
     have hC:=Zg (rgPart 1 _ [wt,a-pos] w1 h35 (Nat.le_of_ble_eq_true rfl) (tiny2 hs2 hs1) (by decide) (by decide))
     exact ⟨134,#[.slice (some ⟨g35,0,none⟩) 2 2,.int .i64 1],by go_simp,hC⟩
    rintro _ ⟨r36b1,r36A1,r36l1,r36c1,r36b2,r36A2,r36l2,r36c2,rfl⟩
    simp only [Act.put,zs1,zs2,zs3]
    refine wpG_call rfl rfl ?_ ?_
    ·intro w1 hb1 hk
     have h36:ExqAt w1 w1.heap.size (.agg #[.bool r36b1,.slice r36A1 r36l1 r36c1,.bool r36b2,.slice r36A2 r36l2 r36c2]) (Zu 1 [wt,a-pos]) 30:=hk 44 (by decide)
     have hC:=Zg (rgEPlus _ _ _ _ (30+31*k) 30 w1 (HE.out.grow hb1) h36 (by omega))
     exact ⟨133,#[.agg #[.bool sb1,.slice sA1 sl1 sc1,.bool sb2,.slice sA2 sl2 sc2],.agg #[.bool r36b1,.slice r36A1 r36l1 r36c1,.bool r36b2,.slice r36A2 r36l2 r36c2]],by go_simp,hC⟩
    rintro _ ⟨r37b1,r37A1,r37l1,r37c1,r37b2,r37A2,r37l2,r37c2,rfl⟩
    simp only [Act.put,zs1,zs2,zs3]
    refine Zc ?_
    intro w8 hb8 hF
    have h37:ExqAt w8 w8.heap.size (.agg #[.bool r37b1,.slice r37A1 r37l1 r37c1,.bool r37b2,.slice r37A2 r37l2 r37c2]) (leftTo b a k+Zu 1 [wt,a-pos]) (30+31*(k+1)):=hF 45
    have HL:=zh h37
    have HS8:=zh (HSt.out.grow hb8)
    obtain ⟨_,_,_,_,_,_,_,_,h1,-⟩:=HS8.out.sum
    have q0:=h1.cell 0
    have q1:=h1.cell 1
    have q2:=h1.cell 2
    have q3:=h1.cell 3
    have f0:=h1.frozen 0
    have f1:=h1.frozen 1
    have f2:=h1.frozen 2
    have f3:=h1.frozen 3
    simp only [zq1,zq2,zq3] at q0 q1 q2 q3
    rw [← HT.out] at HL
    clear hF u0 u1 u2 u3 u4 u5 u6 hb8 h37 h1 HE HSt
    go_wp2_with fail
    have HS9:=zh (HS8.out.put HL.out)
    clear q0 q1 q2 q3 f0 f1 f2 f3 HL HS8
    go_roundw
    case rel => exact ⟨k+1,by omega,by go_num,HS9⟩
    case measure => simp [intOf];omega
   ·have hd:decide (pos<a)=false:=decide_eq_false hpa
    have HT:Hid (leftTo b a (k+1)=leftTo b a k):=by
     unfold Hid leftTo
     rw [HOv.out]
     unfold hangF
     simp only [if_neg hpa]
    have HSz:Hid (SumQ w wr #[.string b.name,.int .i64 b.len,.slice As b.sup.length cs,.slice (some ⟨b2,o2,none⟩) b.loads.length cl,.int .i64 b.even] Ds (leftTo b a (k+1)) (30+31*(k+1))):=by
     rw [HT.out]
     exact HSt.out.more (by omega)
    clear HOv HSt
    go_wp2_with fail
    go_roundw
    case rel => exact ⟨k+1,by omega,by go_num,HSz⟩
    case measure => simp [intOf];omega
  ·obtain rfl:k=b.loads.length:=by omega
   have r0:=HSt.out.res.cell 0
   have r1:=HSt.out.res.cell 1
   have r2:=HSt.out.res.cell 2
   have r3:=HSt.out.res.cell 3
   have f0:=HSt.out.res.frozen 0
   have f1:=HSt.out.res.frozen 1
   have f2:=HSt.out.res.frozen 2
   have f3:=HSt.out.res.frozen 3
   simp only [zq1,zq2,zq3] at r0 r1 r2 r3
   have HOut:=zh (exq_out (w:=w) (Nat.le_succ _) HSt.out.bel HSt.out.res (HE.out.more (K':=1270) (by omega)))
   clear HSt
   go_wp2_with fail
   refine bodyPost_ret (v:=.agg #[.bool sb1,.slice sA1 sl1 sc1,.bool sb2,.slice sA2 sl2 sc2]) (by simp [results,Tryz.results168,go_sem,r0,r1,r2,r3]) rfl ?_
   exact ⟨_,rfl,HOut.out.1,HOut.out.2⟩
end Go.Proofs.YtfhmbechennkbaaGreatDoor
