/- Parts of the proof, laid into one text: RgT, RgS, RgU, RgV, RgW. -/
import Derived.Test.YtfhmbechennkbaaGreatDoorC4
import Derived.Test.YtfhmbechennkbaaGreatDoorR4
namespace Go.Proofs.YtfhmbechennkbaaGreatDoor
set_option maxRecDepth 100000
set_option maxHeartbeats 40000000
open Go.RowKit Go.Shelf
theorem hang_left (b:BeamT):hangR b=((0:Int):Rat)-leftR b (supAt b 0):=rfl
theorem rgRightOf (v:Value) (b:BeamT) (a:Int) (w:World) (hv:BeamAt w w.heap.size v b) (hb:BeamOk b) (ha0:0≤a) (ha1:a≤b.len) (hT:∀ (u:Value) (w1:World),BeamAt w1 w1.heap.size u b→Calls Tryz.prog 204 #[u] w1 (TurnedPost b w1)) :
  Calls Tryz.prog 169 #[v,.int .i64 a] w (ExqPost w (leftR (turnedT b) (b.len-a)) 1270):=by
 have HV0:=hv
 obtain ⟨As,cs,Al,cl,rfl,-⟩:=hv
 have h5:=hb.len
 have HbT:=zh (turned_ok hb)
 have HT:=zh hT
 have HA:Hid (0≤b.len-a∧b.len-a≤b.len):=by unfold Hid;omega
 have v0:IntKind.i64.wrap (b.len-a)=b.len-a:=IntWalk.i64_in _ (by omega)
 have hbW:Below w.heap.size w ((w.alloc (.cells #[.string b.name,.int .i64 b.len,.slice As b.sup.length cs,.slice Al b.loads.length cl,.int .i64 b.even] 122)).alloc (.cells #[.bool false,.slice none 0 0,.bool false,.slice none 0 0] 175)):=((Below.refl _ w).alloc (Nat.le_refl _) _).alloc (by simp) _
 have B1:=(Blk.new w 122 #[.string b.name,.int .i64 b.len,.slice As b.sup.length cs,.slice Al b.loads.length cl,.int .i64 b.even]).alloc (.cells #[.bool false,.slice none 0 0,.bool false,.slice none 0 0] 175)
 have B3:=Blk.new (w.alloc (.cells #[.string b.name,.int .i64 b.len,.slice As b.sup.length cs,.slice Al b.loads.length cl,.int .i64 b.even] 122)) 175 #[.bool false,.slice none 0 0,.bool false,.slice none 0 0]
 rw [World.size_alloc] at B3
 have HV:=zh (HV0.grow hbW)
 have HbW:=zh hbW
 clear hbW HV0 hT hb
 go_enter Tryz.func169,Tryz.ntmps169
 go_upto_region 1 with fail
 generalize (w.alloc (.cells #[.string b.name,.int .i64 b.len,.slice As b.sup.length cs,.slice Al b.loads.length cl,.int .i64 b.even] 122)).alloc (.cells #[.bool false,.slice none 0 0,.bool false,.slice none 0 0] 175)=W2 at *
 have y0:=B1.cell 0
 have y1:=B1.cell 1
 have y2:=B1.cell 2
 have y3:=B1.cell 3
 have y4:=B1.cell 4
 simp only [zq1,zq2,zq3] at y0 y1 y2 y3 y4
 have u0:=HeldB.cell y0
 have u1:=HeldB.cell y1
 have u2:=HeldB.cell y2
 have u3:=HeldB.cell y3
 have u4:=HeldB.cell y4
 have B3:=zh B3
 clear y0 y1 y2 y3 y4 B1
 refine wp_region_grow 7 (fun i => if i=1 then some (gB (turnedT b)) else if i=6 then some (gEq (leftR (turnedT b) (b.len-a)) 1270) else none) (by kernel_rfl) (by kernel_rfl) ?_
 simp only [zt1,zt2,zt3,zt4]
 refine wpG_quiet 1 (by kernel_rfl) (by rfl) (by decide) ?_
 simp only [zt1,zt2,zt3,zt4]
 repeat (go_big_quiet_step (fail))
 refine wpQuiet_nil ?_
 refine wpG_call rfl rfl ?_ ?_
 ·intro w1 hb1 hk
  exact ⟨204,#[.agg #[.string b.name,.int .i64 b.len,.slice As b.sup.length cs,.slice Al b.loads.length cl,.int .i64 b.even]],by go_simp,TurnedPost.g (HT.out _ w1 (HV.out.grow hb1))⟩
 rintro _ ⟨tAs,tcs,tAl,tcl,rfl⟩
 simp only [Act.put,zs1,zs2,zs3]
 refine wpG_quiet 4 (by kernel_rfl) (by rfl) (by decide) ?_
 simp only [zt1,zt2,zt3,zt4]
 repeat (go_big_quiet_step (fail))
 refine wpQuiet_nil ?_
 refine wpG_call rfl rfl ?_ ?_
 ·intro w1 hb1 hk
  have h6:BeamAt w1 w1.heap.size (.agg #[.string (turnedT b).name,.int .i64 (turnedT b).len,.slice tAs (turnedT b).sup.length tcs,.slice tAl (turnedT b).loads.length tcl,.int .i64 (turnedT b).even]) (turnedT b):=hk 6 (by decide)
  exact ⟨168,#[.agg #[.string (turnedT b).name,.int .i64 (turnedT b).len,.slice tAs (turnedT b).sup.length tcs,.slice tAl (turnedT b).loads.length tcl,.int .i64 (turnedT b).even],.int .i64 (b.len-a)],by go_simp,Zg (rgLeft _ (turnedT b) (b.len-a) w1 h6 HbT.out HA.out.1 HA.out.2)⟩
 rintro _ ⟨r1,R1,l1,c1,r2,R2,l2,c2,rfl⟩
 simp only [Act.put,zs1,zs2,zs3]
 refine Zc ?_
 intro w8 hb8 hF
 have HL:Hid (ExqAt w8 w8.heap.size (.agg #[.bool r1,.slice R1 l1 c1,.bool r2,.slice R2 l2 c2]) (leftR (turnedT b) (b.len-a)) 1270):=hF 11
 have HD8:=zh (B3.out.below hb8 B3.out.lt)
 have HB8:=zh (HbW.out.trans (hb8.mono HbW.out.size))
 have HOut:=zh (exq_out (w:=w) (Nat.le_succ _) HB8.out HD8.out HL.out)
 have q0:=HD8.out.cell 0
 have q1:=HD8.out.cell 1
 have q2:=HD8.out.cell 2
 have q3:=HD8.out.cell 3
 have f0:=HD8.out.frozen 0
 have f1:=HD8.out.frozen 1
 have f2:=HD8.out.frozen 2
 have f3:=HD8.out.frozen 3
 simp only [zq1,zq2,zq3] at q0 q1 q2 q3
 clear hF hb8 u0 u1 u2 u3 u4
 go_wp2_with fail
 refine bodyPost_ret (v:=.agg #[.bool r1,.slice R1 l1 c1,.bool r2,.slice R2 l2 c2]) (by simp [results,Tryz.results169,go_sem,q0,q1,q2,q3]) rfl ?_
 exact ⟨_,rfl,HOut.out.1,HOut.out.2⟩
theorem tiny3 {x y z:Int} (h1:x.natAbs≤1152921504606846976) (h2:y.natAbs≤1152921504606846976) (h3:z.natAbs≤1152921504606846976):∀ u ∈ [x,y,z],u.natAbs≤1152921504606846976:=fun u hu => by
 simp at hu
 rcases hu with rfl | rfl | rfl
 ·exact h1
 ·exact h2
 ·exact h3
theorem rgFarT (v:Value) (b:BeamT) (lo hi:Int) (w:World) (hv:BeamAt w w.heap.size v b) (hb:BeamOk b) (ha0:0≤lo) (ha1:lo<hi) (ha2:hi≤b.len):Calls Tryz.prog 172 #[v,.int .i64 hi,.int .i64 lo] w (ExqPost w (sideR b lo hi true) 1270):=by
 obtain ⟨As,cs,Al,cl,rfl,hS,hL⟩:=hv
 obtain ⟨_,_,e,_,hcl,hLc⟩:=hL.open_
 injection e with e1 _ e2
 subst e1 e2
 have h2:=hb.loads1
 have h3:=hb.even
 have h5:=hb.len
 unfold maxLen at hcl
 have HLc:=zh hLc
 have Hb:=zh hb
 obtain ⟨h31,h32⟩:=h3
 obtain ⟨h51,h52⟩:=h5
 obtain ⟨s,hs⟩:∃ s,s=hi-lo:=⟨_,rfl⟩
 have Hs:=zh hs
 have s1:1≤s:=by omega
 have s2:s≤1048576:=by omega
 have v0:IntKind.i64.wrap (hi-lo)=s:=(IntWalk.i64_in _ (by omega)).trans hs.symm
 have d0:decide (s<0)=false:=decide_eq_false (by omega)
 have d1:decide (hi<lo)=false:=decide_eq_false (by omega)
 clear hLc hb hS hL hs
 go_enter Tryz.func172,Tryz.ntmps172
 go_wp2_with fail
 have hI:=ints_new ((w.alloc (.cells #[.string b.name,.int .i64 b.len,.slice As b.sup.length cs,.slice Al b.loads.length cl,.int .i64 b.even] 122)).alloc (.cells #[.bool false,.slice none 0 0,.bool false,.slice none 0 0] 175)) 3 [b.even,s,s,s] (Nat.le_of_ble_eq_true rfl)
 have hsz:((w.alloc (.cells #[.string b.name,.int .i64 b.len,.slice As b.sup.length cs,.slice Al b.loads.length cl,.int .i64 b.even] 122)).alloc (.cells #[.bool false,.slice none 0 0,.bool false,.slice none 0 0] 175)).heap.size=w.heap.size+1+1:=by simp
 rw [hsz] at hI
 refine (rgPart 4000 _ [b.even,s,s,s] _ hI (Nat.le_of_ble_eq_true rfl) (fun x hx => ?_) (by decide) (by decide)).mono ?_
 ·simp at hx
  omega
 rintro e w1 ⟨v1,rfl,hb1',hE1⟩
 obtain ⟨m1,B1,k1,d1,m2,B2,k2,d2,_,_,rfl,-⟩:=exq_form hE1
 have hbb:=((Below.refl _ ((w.alloc (.cells #[.string b.name,.int .i64 b.len,.slice As b.sup.length cs,.slice Al b.loads.length cl,.int .i64 b.even] 122)).alloc (.cells #[.bool false,.slice none 0 0,.bool false,.slice none 0 0] 175))).alloc (Nat.le_refl _) (.cells #[.int .i64 b.even,.int .i64 s,.int .i64 s,.int .i64 s] 3)).trans (hb1'.mono (by simp))
 rw [hsz] at hbb
 have HSt:=zh (SumQ.start hbb hE1)
 have HH:Hid (sideTo b lo hi true 0=Zu 4000 [b.even,s,s,s]):=by unfold Hid;rw [Hs.out];rfl
 clear hI hsz hb1' hE1 hbb
 go_wp2_with fail
 generalize w1.heap.size=Ds at *
 rw [← HH.out] at HSt
 clear HH
 go_loopw [9] (fun ix wr => ∃ k:Nat,k≤b.loads.length∧ix = .int .i64 k∧Hid (SumQ w wr #[.string b.name,.int .i64 b.len,.slice As b.sup.length cs,.slice Al b.loads.length cl,.int .i64 b.even] Ds (sideTo b lo hi true k) (30+31*k))) (fun ix _ => b.loads.length-(intOf ix).toNat)
 case atStart => exact ⟨0,Nat.zero_le _,rfl,HSt⟩
 case round =>
  clear HSt
  obtain ⟨k,hk,rfl,HSt⟩:=hrel
  have k0:(0:Int)≤(k:Int):=Int.natCast_nonneg _
  have c3:=HSt.out.bm.cell 3
  obtain ⟨sb1,sA1,sl1,sc1,sb2,sA2,sl2,sc2,hB,hE⟩:=HSt.out.sum
  have y0:=hB.cell 0
  have y1:=hB.cell 1
  have y2:=hB.cell 2
  have y3:=hB.cell 3
  simp only [zq1,zq2,zq3] at y0 y1 y2 y3 c3
  have HE:=zh hE
  clear hB hE
  by_cases hkl:k<b.loads.length
  ·have k1:(k:Int)<(b.loads.length:Int):=by omega
   obtain ⟨b2,o2,rfl,hlt,hcl⟩:=HLc.out k hkl
   obtain ⟨hx1,hx2⟩:=hcl k hkl
   have hx1:=(HSt.out.bel.cell (p:=⟨b2,o2+k*2,none⟩) hlt).trans hx1
   have hx2:=(HSt.out.bel.cell (p:=⟨b2,o2+k*2+1,none⟩) hlt).trans hx2
   obtain ⟨p1,p2,p3,p4⟩:=Hb.out.loads _ (List.getElem_mem hkl)
   have HOv:=zh (Zl (b:=b) (f:=sideF lo hi true) (s:=Zu 4000 [b.even,hi-lo,hi-lo,hi-lo]) hkl)
   clear hcl
   generalize b.loads[k]=x at *
   obtain ⟨pos,wt⟩:=x
   simp only at hx1 hx2 p1 p2 p3 p4
   obtain ⟨o,ho⟩:∃ o,o=pos-lo:=⟨_,rfl⟩
   have Ho:=zh ho
   have v2:IntKind.i64.wrap (pos-lo)=o:=(IntWalk.i64_in _ (by omega)).trans (by omega)
   by_cases hpa:0<o∧o<s
   ·have e1:decide (0<o)=true:=decide_eq_true hpa.1
    have e2:decide (o<s)=true:=decide_eq_true hpa.2
    have HT:Hid (sideTo b lo hi true (k+1)=sideTo b lo hi true k+Zu s [wt,o,s*s-o*o]):=by
     have:=Hs.out
     unfold Hid sideTo
     rw [HOv.out]
     unfold sideF
     rw [if_neg (show ¬ (pos≤lo∨hi≤pos) by omega)]
     simp only [if_true]
     rw [← Ho.out,← Hs.out]
    have hss:0≤s*s∧s*s≤1099511627776:=⟨Int.mul_nonneg (by omega) (by omega),Int.mul_le_mul s2 s2 (by omega) (by decide)⟩
    have hoo:0≤o*o∧o*o≤1099511627776:=⟨Int.mul_nonneg (by omega) (by omega),Int.mul_le_mul (show o≤1048576 by omega) (show o≤1048576 by omega) (by omega) (by decide)⟩
    have w1:IntKind.i64.wrap (s*s)=s*s:=IntWalk.i64_in _ (by omega)
    have w2:IntKind.i64.wrap (o*o)=o*o:=IntWalk.i64_in _ (by omega)
    have w3:IntKind.i64.wrap (s*s-o*o)=s*s-o*o:=IntWalk.i64_in _ (by omega)
    have hs1:o.natAbs≤1152921504606846976:=by omega
    have hs2:wt.natAbs≤1152921504606846976:=by omega
    have hs3:(s*s-o*o).natAbs≤1152921504606846976:=by omega
    clear HOv hss hoo hpa ho
    go_upto_region 12 with fail
    have u0:=HeldB.cell y0
    have u1:=HeldB.cell y1
    have u2:=HeldB.cell y2
    have u3:=HeldB.cell y3
    have u4:=HeldB.cell hx1
    have u5:=HeldB.cell hx2
    have u6:=HeldB.cell c3
    clear y0 y1 y2 y3 hx1 hx2 c3
    refine wp_region_grow 19 (fun i => if i=15 then some (gI [wt,o,s*s-o*o]) else if i=17 then some (gEq (Zu s [wt,o,s*s-o*o]) 30) else if i=18 then some (gEq (sideTo b lo hi true k+Zu s [wt,o,s*s-o*o]) (30+31*(k+1))) else none) (by kernel_rfl) (by kernel_rfl) ?_
    simp only [zt1,zt2,zt3,zt4]
    refine wpG_quiet 15 (by kernel_rfl) (by rfl) (by decide) ?_
    simp only [zt1,zt2,zt3,zt4]
    repeat (go_big_quiet_step (fail))
    refine wpQuiet_nil ?_
    refine wpG_new rfl rfl (fun w1 hb1 _ => gI_new (T:=3) (l:=[wt,o,s*s-o*o]) (Nat.le_of_ble_eq_true rfl) (by go_simp)) ?_
    rintro _ ⟨g35,rfl⟩
    simp only [Act.put,zs1,zs2,zs3]
    refine wpG_quiet 1 (by kernel_rfl) (by rfl) (by decide) ?_
    simp only [zt1,zt2,zt3,zt4]
    repeat (go_big_quiet_step (fail))
    refine wpQuiet_nil ?_
    refine wpG_call rfl rfl ?_ ?_
    ·intro w1 hb1 hk
     have h35:IntsAt w1 w1.heap.size (.slice (some ⟨g35,0,none⟩) 3 3) [wt,o,s*s-o*o]:=hk 74 (by decide)
     have hC:=Zg (rgPart s _ [wt,o,s*s-o*o] w1 h35 (Nat.le_of_ble_eq_true rfl) (tiny3 hs2 hs1 hs3) (by omega) (by omega))
     exact ⟨134,#[.slice (some ⟨g35,0,none⟩) 3 3,.int .i64 s],by go_simp,hC⟩
    rintro _ ⟨r36b1,r36A1,r36l1,r36c1,r36b2,r36A2,r36l2,r36c2,rfl⟩
    simp only [Act.put,zs1,zs2,zs3]
    refine wpG_call rfl rfl ?_ ?_
    ·intro w1 hb1 hk
     have h36:ExqAt w1 w1.heap.size (.agg #[.bool r36b1,.slice r36A1 r36l1 r36c1,.bool r36b2,.slice r36A2 r36l2 r36c2]) (Zu s [wt,o,s*s-o*o]) 30:=hk 76 (by decide)
     have hC:=Zg (rgEPlus _ _ _ _ (30+31*k) 30 w1 (HE.out.grow hb1) h36 (by omega))
     exact ⟨133,#[.agg #[.bool sb1,.slice sA1 sl1 sc1,.bool sb2,.slice sA2 sl2 sc2],.agg #[.bool r36b1,.slice r36A1 r36l1 r36c1,.bool r36b2,.slice r36A2 r36l2 r36c2]],by go_simp,hC⟩
    rintro _ ⟨r37b1,r37A1,r37l1,r37c1,r37b2,r37A2,r37l2,r37c2,rfl⟩
    simp only [Act.put,zs1,zs2,zs3]
    refine Zc ?_
    intro w8 hb8 hF
    have h37:ExqAt w8 w8.heap.size (.agg #[.bool r37b1,.slice r37A1 r37l1 r37c1,.bool r37b2,.slice r37A2 r37l2 r37c2]) (sideTo b lo hi true k+Zu s [wt,o,s*s-o*o]) (30+31*(k+1)):=hF 77
    have HL:=zh h37
    have HS8:=zh (HSt.out.grow hb8)
    obtain ⟨_,_,_,_,_,_,_,_,h1,-⟩:=HS8.out.sum
    have q0:=h1.cell 0
    have q1:=h1.cell 1
    have q2:=h1.cell 2
    have q3:=h1.cell 3
    have f0:=h1.frozen 0
    have f1:=h1.frozen 1
    have f2:=h1.frozen 2
    have f3:=h1.frozen 3
    simp only [zq1,zq2,zq3] at q0 q1 q2 q3
    rw [← HT.out] at HL
    clear hF u0 u1 u2 u3 u4 u5 u6 hb8 h37 h1 HE HSt
    go_wp2_with fail
    have HS9:=zh (HS8.out.put HL.out)
    clear q0 q1 q2 q3 f0 f1 f2 f3 HL HS8
    go_roundw
    case rel => exact ⟨k+1,by omega,by go_num,HS9⟩
    case measure => simp [intOf];omega
   ·have HT:Hid (sideTo b lo hi true (k+1)=sideTo b lo hi true k):=by
     have:=Hs.out
     unfold Hid sideTo
     rw [HOv.out]
     unfold sideF
     rw [if_pos (show pos≤lo∨hi≤pos by omega)]
    have HSz:Hid (SumQ w wr #[.string b.name,.int .i64 b.len,.slice As b.sup.length cs,.slice (some ⟨b2,o2,none⟩) b.loads.length cl,.int .i64 b.even] Ds (sideTo b lo hi true (k+1)) (30+31*(k+1))):=by
     rw [HT.out]
     exact HSt.out.more (by omega)
    have hc:decide (0<o)=false∨decide (0<o)=true∧decide (o<s)=false:=by
     by_cases h:0<o
     ·exact .inr ⟨decide_eq_true h,decide_eq_false (by omega)⟩
     ·exact .inl (decide_eq_false h)
    clear HOv HSt HT hpa ho
    rcases hc with e1 | ⟨e1,e2⟩
    all_goals
     go_wp2_with fail
     go_roundw
     case rel => exact ⟨k+1,by omega,by go_num,HSz⟩
     case measure => simp [intOf];omega
  ·obtain rfl:k=b.loads.length:=by omega
   have r0:=HSt.out.res.cell 0
   have r1:=HSt.out.res.cell 1
   have r2:=HSt.out.res.cell 2
   have r3:=HSt.out.res.cell 3
   have f0:=HSt.out.res.frozen 0
   have f1:=HSt.out.res.frozen 1
   have f2:=HSt.out.res.frozen 2
   have f3:=HSt.out.res.frozen 3
   simp only [zq1,zq2,zq3] at r0 r1 r2 r3
   have HOut:=zh (exq_out (w:=w) (Nat.le_succ _) HSt.out.bel HSt.out.res (HE.out.more (K':=1270) (by omega)))
   clear HSt
   go_wp2_with fail
   refine bodyPost_ret (v:=.agg #[.bool sb1,.slice sA1 sl1 sc1,.bool sb2,.slice sA2 sl2 sc2]) (by simp [results,Tryz.results172,go_sem,r0,r1,r2,r3]) rfl ?_
   exact ⟨_,rfl,HOut.out.1,HOut.out.2⟩
theorem rgFarF (v:Value) (b:BeamT) (lo hi:Int) (w:World) (hv:BeamAt w w.heap.size v b) (hb:BeamOk b) (ha0:0≤lo) (ha1:lo<hi) (ha2:hi≤b.len):Calls Tryz.prog 172 #[v,.int .i64 lo,.int .i64 hi] w (ExqPost w (sideR b lo hi false) 1270):=by
 obtain ⟨As,cs,Al,cl,rfl,hS,hL⟩:=hv
 obtain ⟨_,_,e,_,hcl,hLc⟩:=hL.open_
 injection e with e1 _ e2
 subst e1 e2
 have h2:=hb.loads1
 have h3:=hb.even
 have h5:=hb.len
 unfold maxLen at hcl
 have HLc:=zh hLc
 have Hb:=zh hb
 obtain ⟨h31,h32⟩:=h3
 obtain ⟨h51,h52⟩:=h5
 obtain ⟨s,hs⟩:∃ s,s=hi-lo:=⟨_,rfl⟩
 have Hs:=zh hs
 have s1:1≤s:=by omega
 have s2:s≤1048576:=by omega
 have v0:IntKind.i64.wrap (lo-hi) = -s:=(IntWalk.i64_in _ (by omega)).trans (by omega)
 have v1:IntKind.i64.wrap (hi-lo)=s:=(IntWalk.i64_in _ (by omega)).trans hs.symm
 have d0:decide (-s<0)=true:=decide_eq_true (by omega)
 have d1:decide (lo<hi)=true:=decide_eq_true (by omega)
 clear hLc hb hS hL hs
 go_enter Tryz.func172,Tryz.ntmps172
 go_wp2_with fail
 have hI:=ints_new ((w.alloc (.cells #[.string b.name,.int .i64 b.len,.slice As b.sup.length cs,.slice Al b.loads.length cl,.int .i64 b.even] 122)).alloc (.cells #[.bool false,.slice none 0 0,.bool false,.slice none 0 0] 175)) 3 [b.even,s,s,s] (Nat.le_of_ble_eq_true rfl)
 have hsz:((w.alloc (.cells #[.string b.name,.int .i64 b.len,.slice As b.sup.length cs,.slice Al b.loads.length cl,.int .i64 b.even] 122)).alloc (.cells #[.bool false,.slice none 0 0,.bool false,.slice none 0 0] 175)).heap.size=w.heap.size+1+1:=by simp
 rw [hsz] at hI
 refine (rgPart 4000 _ [b.even,s,s,s] _ hI (Nat.le_of_ble_eq_true rfl) (fun x hx => ?_) (by decide) (by decide)).mono ?_
 ·simp at hx
  omega
 rintro e w1 ⟨v1,rfl,hb1',hE1⟩
 obtain ⟨m1,B1,k1,d1,m2,B2,k2,d2,_,_,rfl,-⟩:=exq_form hE1
 have hbb:=((Below.refl _ ((w.alloc (.cells #[.string b.name,.int .i64 b.len,.slice As b.sup.length cs,.slice Al b.loads.length cl,.int .i64 b.even] 122)).alloc (.cells #[.bool false,.slice none 0 0,.bool false,.slice none 0 0] 175))).alloc (Nat.le_refl _) (.cells #[.int .i64 b.even,.int .i64 s,.int .i64 s,.int .i64 s] 3)).trans (hb1'.mono (by simp))
 rw [hsz] at hbb
 have HSt:=zh (SumQ.start hbb hE1)
 have HH:Hid (sideTo b lo hi false 0=Zu 4000 [b.even,s,s,s]):=by unfold Hid;rw [Hs.out];rfl
 clear hI hsz hb1' hE1 hbb
 go_wp2_with fail
 generalize w1.heap.size=Ds at *
 rw [← HH.out] at HSt
 clear HH
 go_loopw [9] (fun ix wr => ∃ k:Nat,k≤b.loads.length∧ix = .int .i64 k∧Hid (SumQ w wr #[.string b.name,.int .i64 b.len,.slice As b.sup.length cs,.slice Al b.loads.length cl,.int .i64 b.even] Ds (sideTo b lo hi false k) (30+31*k))) (fun ix _ => b.loads.length-(intOf ix).toNat)
 case atStart => exact ⟨0,Nat.zero_le _,rfl,HSt⟩
 case round =>
  clear HSt
  obtain ⟨k,hk,rfl,HSt⟩:=hrel
  have k0:(0:Int)≤(k:Int):=Int.natCast_nonneg _
  have c3:=HSt.out.bm.cell 3
  obtain ⟨sb1,sA1,sl1,sc1,sb2,sA2,sl2,sc2,hB,hE⟩:=HSt.out.sum
  have y0:=hB.cell 0
  have y1:=hB.cell 1
  have y2:=hB.cell 2
  have y3:=hB.cell 3
  simp only [zq1,zq2,zq3] at y0 y1 y2 y3 c3
  have HE:=zh hE
  clear hB hE
  by_cases hkl:k<b.loads.length
  ·have k1:(k:Int)<(b.loads.length:Int):=by omega
   obtain ⟨b2,o2,rfl,hlt,hcl⟩:=HLc.out k hkl
   obtain ⟨hx1,hx2⟩:=hcl k hkl
   have hx1:=(HSt.out.bel.cell (p:=⟨b2,o2+k*2,none⟩) hlt).trans hx1
   have hx2:=(HSt.out.bel.cell (p:=⟨b2,o2+k*2+1,none⟩) hlt).trans hx2
   obtain ⟨p1,p2,p3,p4⟩:=Hb.out.loads _ (List.getElem_mem hkl)
   have HOv:=zh (Zl (b:=b) (f:=sideF lo hi false) (s:=Zu 4000 [b.even,hi-lo,hi-lo,hi-lo]) hkl)
   clear hcl
   generalize b.loads[k]=x at *
   obtain ⟨pos,wt⟩:=x
   simp only at hx1 hx2 p1 p2 p3 p4
   obtain ⟨o,ho⟩:∃ o,o=hi-pos:=⟨_,rfl⟩
   have Ho:=zh ho
   have v2:IntKind.i64.wrap (pos-hi) = -o:=(IntWalk.i64_in _ (by omega)).trans (by omega)
   have v3:IntKind.i64.wrap (hi-pos)=o:=(IntWalk.i64_in _ (by omega)).trans ho.symm
   by_cases hpa:0<o∧o<s
   ·have e1:decide (0<o)=true:=decide_eq_true hpa.1
    have e2:decide (o<s)=true:=decide_eq_true hpa.2
    have HT:Hid (sideTo b lo hi false (k+1)=sideTo b lo hi false k+Zu s [wt,o,s*s-o*o]):=by
     have:=Hs.out
     unfold Hid sideTo
     rw [HOv.out]
     unfold sideF
     rw [if_neg (show ¬ (pos≤lo∨hi≤pos) by omega)]
     simp only [Bool.false_eq_true,if_false]
     rw [← Ho.out,← Hs.out]
    have hss:0≤s*s∧s*s≤1099511627776:=⟨Int.mul_nonneg (by omega) (by omega),Int.mul_le_mul s2 s2 (by omega) (by decide)⟩
    have hoo:0≤o*o∧o*o≤1099511627776:=⟨Int.mul_nonneg (by omega) (by omega),Int.mul_le_mul (show o≤1048576 by omega) (show o≤1048576 by omega) (by omega) (by decide)⟩
    have w1:IntKind.i64.wrap (s*s)=s*s:=IntWalk.i64_in _ (by omega)
    have w2:IntKind.i64.wrap (o*o)=o*o:=IntWalk.i64_in _ (by omega)
    have w3:IntKind.i64.wrap (s*s-o*o)=s*s-o*o:=IntWalk.i64_in _ (by omega)
    have hs1:o.natAbs≤1152921504606846976:=by omega
    have hs2:wt.natAbs≤1152921504606846976:=by omega
    have hs3:(s*s-o*o).natAbs≤1152921504606846976:=by omega
    clear HOv hss hoo hpa ho
    go_upto_region 12 with fail
    have u0:=HeldB.cell y0
    have u1:=HeldB.cell y1
    have u2:=HeldB.cell y2
    have u3:=HeldB.cell y3
    have u4:=HeldB.cell hx1
    have u5:=HeldB.cell hx2
    have u6:=HeldB.cell c3
    clear y0 y1 y2 y3 hx1 hx2 c3
    refine wp_region_grow 19 (fun i => if i=15 then some (gI [wt,o,s*s-o*o]) else if i=17 then some (gEq (Zu s [wt,o,s*s-o*o]) 30) else if i=18 then some (gEq (sideTo b lo hi false k+Zu s [wt,o,s*s-o*o]) (30+31*(k+1))) else none) (by kernel_rfl) (by kernel_rfl) ?_
    simp only [zt1,zt2,zt3,zt4]
    refine wpG_quiet 15 (by kernel_rfl) (by rfl) (by decide) ?_
    simp only [zt1,zt2,zt3,zt4]
    repeat (go_big_quiet_step (fail))
    refine wpQuiet_nil ?_
    refine wpG_new rfl rfl (fun w1 hb1 _ => gI_new (T:=3) (l:=[wt,o,s*s-o*o]) (Nat.le_of_ble_eq_true rfl) (by go_simp)) ?_
    rintro _ ⟨g35,rfl⟩
    simp only [Act.put,zs1,zs2,zs3]
    refine wpG_quiet 1 (by kernel_rfl) (by rfl) (by decide) ?_
    simp only [zt1,zt2,zt3,zt4]
    repeat (go_big_quiet_step (fail))
    refine wpQuiet_nil ?_
    refine wpG_call rfl rfl ?_ ?_
    ·intro w1 hb1 hk
     have h35:IntsAt w1 w1.heap.size (.slice (some ⟨g35,0,none⟩) 3 3) [wt,o,s*s-o*o]:=hk 74 (by decide)
     have hC:=Zg (rgPart s _ [wt,o,s*s-o*o] w1 h35 (Nat.le_of_ble_eq_true rfl) (tiny3 hs2 hs1 hs3) (by omega) (by omega))
     exact ⟨134,#[.slice (some ⟨g35,0,none⟩) 3 3,.int .i64 s],by go_simp,hC⟩
    rintro _ ⟨r36b1,r36A1,r36l1,r36c1,r36b2,r36A2,r36l2,r36c2,rfl⟩
    simp only [Act.put,zs1,zs2,zs3]
    refine wpG_call rfl rfl ?_ ?_
    ·intro w1 hb1 hk
     have h36:ExqAt w1 w1.heap.size (.agg #[.bool r36b1,.slice r36A1 r36l1 r36c1,.bool r36b2,.slice r36A2 r36l2 r36c2]) (Zu s [wt,o,s*s-o*o]) 30:=hk 76 (by decide)
     have hC:=Zg (rgEPlus _ _ _ _ (30+31*k) 30 w1 (HE.out.grow hb1) h36 (by omega))
     exact ⟨133,#[.agg #[.bool sb1,.slice sA1 sl1 sc1,.bool sb2,.slice sA2 sl2 sc2],.agg #[.bool r36b1,.slice r36A1 r36l1 r36c1,.bool r36b2,.slice r36A2 r36l2 r36c2]],by go_simp,hC⟩
    rintro _ ⟨r37b1,r37A1,r37l1,r37c1,r37b2,r37A2,r37l2,r37c2,rfl⟩
    simp only [Act.put,zs1,zs2,zs3]
    refine Zc ?_
    intro w8 hb8 hF
    have h37:ExqAt w8 w8.heap.size (.agg #[.bool r37b1,.slice r37A1 r37l1 r37c1,.bool r37b2,.slice r37A2 r37l2 r37c2]) (sideTo b lo hi false k+Zu s [wt,o,s*s-o*o]) (30+31*(k+1)):=hF 77
    have HL:=zh h37
    have HS8:=zh (HSt.out.grow hb8)
    obtain ⟨_,_,_,_,_,_,_,_,h1,-⟩:=HS8.out.sum
    have q0:=h1.cell 0
    have q1:=h1.cell 1
    have q2:=h1.cell 2
    have q3:=h1.cell 3
    have f0:=h1.frozen 0
    have f1:=h1.frozen 1
    have f2:=h1.frozen 2
    have f3:=h1.frozen 3
    simp only [zq1,zq2,zq3] at q0 q1 q2 q3
    rw [← HT.out] at HL
    clear hF u0 u1 u2 u3 u4 u5 u6 hb8 h37 h1 HE HSt
    go_wp2_with fail
    have HS9:=zh (HS8.out.put HL.out)
    clear q0 q1 q2 q3 f0 f1 f2 f3 HL HS8
    go_roundw
    case rel => exact ⟨k+1,by omega,by go_num,HS9⟩
    case measure => simp [intOf];omega
   ·have HT:Hid (sideTo b lo hi false (k+1)=sideTo b lo hi false k):=by
     have:=Hs.out
     unfold Hid sideTo
     rw [HOv.out]
     unfold sideF
     rw [if_pos (show pos≤lo∨hi≤pos by omega)]
    have HSz:Hid (SumQ w wr #[.string b.name,.int .i64 b.len,.slice As b.sup.length cs,.slice (some ⟨b2,o2,none⟩) b.loads.length cl,.int .i64 b.even] Ds (sideTo b lo hi false (k+1)) (30+31*(k+1))):=by
     rw [HT.out]
     exact HSt.out.more (by omega)
    have hc:decide (0<o)=false∨decide (0<o)=true∧decide (o<s)=false:=by
     by_cases h:0<o
     ·exact .inr ⟨decide_eq_true h,decide_eq_false (by omega)⟩
     ·exact .inl (decide_eq_false h)
    clear HOv HSt HT hpa ho
    rcases hc with e1 | ⟨e1,e2⟩
    all_goals
     go_wp2_with fail
     go_roundw
     case rel => exact ⟨k+1,by omega,by go_num,HSz⟩
     case measure => simp [intOf];omega
  ·obtain rfl:k=b.loads.length:=by omega
   have r0:=HSt.out.res.cell 0
   have r1:=HSt.out.res.cell 1
   have r2:=HSt.out.res.cell 2
   have r3:=HSt.out.res.cell 3
   have f0:=HSt.out.res.frozen 0
   have f1:=HSt.out.res.frozen 1
   have f2:=HSt.out.res.frozen 2
   have f3:=HSt.out.res.frozen 3
   simp only [zq1,zq2,zq3] at r0 r1 r2 r3
   have HOut:=zh (exq_out (w:=w) (Nat.le_succ _) HSt.out.bel HSt.out.res (HE.out.more (K':=1270) (by omega)))
   clear HSt
   go_wp2_with fail
   refine bodyPost_ret (v:=.agg #[.bool sb1,.slice sA1 sl1 sc1,.bool sb2,.slice sA2 sl2 sc2]) (by simp [results,Tryz.results172,go_sem,r0,r1,r2,r3]) rfl ?_
   exact ⟨_,rfl,HOut.out.1,HOut.out.2⟩
theorem pow_dl {n K:Nat} (h:n<4294967296 ^ K):dlen n≤(4*K+2) / 3:=dlen_le (by
 rw [base_pow24]
 have e:4294967296 ^ K=2 ^ (32*K):=by rw [Nat.pow_mul]
 rw [e] at h
 exact Nat.lt_of_lt_of_le h (Nat.pow_le_pow_right (by decide) (by omega)))
theorem fits_dl {q:Rat} {K:Nat} (h:fits q K):dlen q.num.natAbs≤(4*K+2) / 3∧dlen q.den≤(4*K+2) / 3:=⟨pow_dl h.1,pow_dl h.2⟩
theorem rgLowerF (v:Value) (x:Rat) (K M:Nat) (w:World) (hv:ExqAt w w.heap.size v x K) (hK:K≤300000) (hx:fits x M):Calls Tryz.prog 137 #[v] w (ExqPost w x ((4*M+2) / 3)) :=
 (rgLower v x K w hv hK).mono fun _ _ h => low_exq h (fits_dl hx).1 (fits_dl hx).2
theorem mom_fits2 {b:BeamT} (h:BeamOk b) {i:Nat} (hi:i<b.sup.length):fits (Zx b i) 50647:=by
 have h1:=h.sup1
 unfold Zx
 split
 ·exact fits_mono (hangR_fits h) (by decide)
 ·exact fits_mono (back_fits h (b.sup.length-1-i) (by omega)) (by omega)
theorem pq_fits {b : BeamT} (h : BeamOk b) (hz : ∀ i,1 ≤ i → i + 1 < b.sup.length → diagR b i ≠ 0) : ∀ i,i + 1 < b.sup.length → fits (pqR b i).1 5200 ∧ fits (pqR b i).2 38
 | 0,_ => ⟨fits_mono (hangR_fits h) (by decide),fits_mono (K:=1) (fits_int (n:=0) (by decide) (Nat.le_refl _)) (by decide)⟩
 | i+1,hi => by
  have h1:=h.sup1
  obtain ⟨-,h2,h3⟩:=pq_is b hz i (by omega)
  rw [h2,h3]
  exact ⟨fits_mono (fits_div (diag_ne h (i:=i+1) (by omega) (by omega)) (rhs_fits h (i+1) (by omega) (by omega)) (diag_fits h (i+1) (by omega) (by omega))) (by omega),fits_mono (fits_div (diag_ne h (i:=i+1) (by omega) (by omega)) (span_fits h (i:=i+2) (by omega) (by omega)) (diag_fits h (i+1) (by omega) (by omega))) (by omega)⟩
def EqRow (w:World) (g n:Nat) (f:Nat→Option Rat) (K:Nat):Prop:=∃ es:List E4,es.length=n∧Blk w g 175 (es.flatMap E4.cells).toArray∧∀ j (hj:j<es.length) q,f j=some q→ExqAt w w.heap.size es[j].val q K
section
variable {w w':World} {g n:Nat} {f:Nat→Option Rat} {K:Nat}
theorem EqRow.blk (h:EqRow w g n f K):∃ cs,Blk w g 175 cs:=by
 obtain ⟨es,-,h,-⟩:=h
 exact ⟨_,h⟩
theorem EqRow.lt (h:EqRow w g n f K):g<w.heap.size:=by
 obtain ⟨cs,h⟩:=h.blk
 exact h.lt
theorem EqRow.frozen (h:EqRow w g n f K) (i:Nat):w.frozen? ⟨g,i,none⟩=false:=by
 obtain ⟨cs,h⟩:=h.blk
 exact h.frozen i
theorem EqRow.grow (h:EqRow w g n f K) (hb:Below w.heap.size w w'):EqRow w' g n f K:=by
 obtain ⟨es,h1,h2,h3⟩:=h
 exact ⟨es,h1,h2.below hb h2.lt,fun j hj q hq => (h3 j hj q hq).grow hb⟩
theorem EqRow.read (h:EqRow w g n f K) {i:Nat} (hi:i<n):∃ b1 A1 l1 c1 b2 A2 l2 c2,w.cell? ⟨g,i*4,none⟩=some (.bool b1)∧w.cell? ⟨g,i*4+1,none⟩=some (.slice A1 l1 c1)∧w.cell? ⟨g,i*4+2,none⟩=some (.bool b2)∧w.cell? ⟨g,i*4+3,none⟩=some (.slice A2 l2 c2) ∧
  ∀ q,f i=some q→ExqAt w w.heap.size (.agg #[.bool b1,.slice A1 l1 c1,.bool b2,.slice A2 l2 c2]) q K:=by
 obtain ⟨es,rfl,h2,h3⟩:=h
 have k:=fun (m:Nat) (hm:m<4) => (h2.cell (i*4+m)).trans ((List.getElem?_toArray ..).trans (e4_get es i m hi hm))
 exact ⟨_,_,_,_,_,_,_,_,k 0 (by decide),k 1 (by decide),k 2 (by decide),k 3 (by decide),fun q hq => h3 i hi q hq⟩
theorem DgTo.set4 {B D o:Nat} {v:Value} {x k:Nat} (h:DgTo w B v x k) {u0 u1 u2 u3:Value} (k0:w.cell? ⟨D,o,none⟩=some u0) (k1:w.cell? ⟨D,o+1,none⟩=some u1) (k2:w.cell? ⟨D,o+2,none⟩=some u2) (k3:w.cell? ⟨D,o+3,none⟩=some u3) (n0:∀ z,u0 ≠ .int .i64 z) (n1:∀ z,u1 ≠ .int .i64 z) (n2:∀ z,u2 ≠ .int .i64 z) (n3:∀ z,u3 ≠ .int .i64 z) (x0 x1 x2 x3:Value) :
  DgTo ((((w.setCell ⟨D,o,none⟩ x0).setCell ⟨D,o+1,none⟩ x1).setCell ⟨D,o+2,none⟩ x2).setCell ⟨D,o+3,none⟩ x3) B v x k:=by
 have ne:∀ {W:World} {a b:Nat} {y:Value},a≠b→(W.setCell ⟨D,b,none⟩ y).cell? ⟨D,a,none⟩=W.cell? ⟨D,a,none⟩:=fun {W a b y} hab => by
  rw [World.cell?_setCell_other]
  intro e
  injection e with _ e _
  exact hab e.symm
 have g1:=DgTo.set h k0 n0 x0
 have g2:=DgTo.set g1 ((ne (by omega)).trans k1) n1 x1
 have g3:=DgTo.set g2 ((ne (by omega)).trans ((ne (by omega)).trans k2)) n2 x2
 exact DgTo.set g3 ((ne (by omega)).trans ((ne (by omega)).trans ((ne (by omega)).trans k3))) n3 x3
theorem ExqAt.row {v:Value} {q:Rat} {K':Nat} (h:ExqAt w w.heap.size v q K') {es:List E4} (hD:Blk w g 175 (es.flatMap E4.cells).toArray) {i:Nat} (hi:i<es.length) (x0 x1 x2 x3:Value) :
  ExqAt ((((w.setCell ⟨g,i*4,none⟩ x0).setCell ⟨g,i*4+1,none⟩ x1).setCell ⟨g,i*4+2,none⟩ x2).setCell ⟨g,i*4+3,none⟩ x3) ((((w.setCell ⟨g,i*4,none⟩ x0).setCell ⟨g,i*4+1,none⟩ x1).setCell ⟨g,i*4+2,none⟩ x2).setCell ⟨g,i*4+3,none⟩ x3).heap.size v q K':=by
 have k:=fun (m:Nat) (hm:m<4) => (hD.cell (i*4+m)).trans ((List.getElem?_toArray ..).trans (e4_get es i m hi hm))
 obtain ⟨_,_,_,_,N,E,e,h4,h5,h6⟩:=h
 have hset:=fun {v:Value} {x m:Nat} (h:DgTo w w.heap.size v x m) => DgTo.mono (DgTo.set4 h (k 0 (by decide)) (k 1 (by decide)) (k 2 (by decide)) (k 3 (by decide)) (fun z => by simp) (fun z => by simp) (fun z => by simp) (fun z => by simp) x0 x1 x2 x3) (show w.heap.size≤((((w.setCell ⟨g,i*4,none⟩ x0).setCell ⟨g,i*4+1,none⟩ x1).setCell ⟨g,i*4+2,none⟩ x2).setCell ⟨g,i*4+3,none⟩ x3).heap.size by simp [World.setCell])
 exact ⟨_,_,_,_,N,E,e,⟨h4.1,hset h4.2⟩,⟨h5.1,hset h5.2⟩,h6⟩
theorem EqRow.write (h:EqRow w g n f K) {i:Nat} (hi:i<n) {b1:Bool} {A1:Option Addr} {l1 c1:Nat} {b2:Bool} {A2:Option Addr} {l2 c2:Nat} {q:Rat} (hE:ExqAt w w.heap.size (.agg #[.bool b1,.slice A1 l1 c1,.bool b2,.slice A2 l2 c2]) q K) :
  EqRow ((((w.setCell ⟨g,i*4,none⟩ (.bool b1)).setCell ⟨g,i*4+1,none⟩ (.slice A1 l1 c1)).setCell ⟨g,i*4+2,none⟩ (.bool b2)).setCell ⟨g,i*4+3,none⟩ (.slice A2 l2 c2)) g n (putQ f i q) K:=by
 obtain ⟨es,rfl,h2,h3⟩:=h
 refine ⟨es.set i ⟨b1,A1,l1,c1,b2,A2,l2,c2⟩,by simp,?_,fun j hj q' hq => ?_⟩
 ·have:=(((h2.set_ (i*4) (.bool b1)).set_ (i*4+1) (.slice A1 l1 c1)).set_ (i*4+2) (.bool b2)).set_ (i*4+3) (.slice A2 l2 c2)
  rw [e4_set es i _ hi]
  simpa using this
 ·have hj':j<es.length:=by simpa using hj
  unfold putQ at hq
  by_cases e:j=i
  ·subst e
   rw [if_pos rfl] at hq
   injection hq with hq
   subst hq
   simp only [List.getElem_set_self]
   exact hE.row h2 hi _ _ _ _
  ·rw [if_neg e] at hq
   rw [List.getElem_set_ne (fun e' => e e'.symm)]
   exact (h3 j hj' q' hq).row h2 hi _ _ _ _
theorem EqRow.weak (h:EqRow w g n f K) {f':Nat→Option Rat} (hf:∀ j q,j<n→f' j=some q→f j=some q):EqRow w g n f' K:=by
 obtain ⟨es,h1,h2,h3⟩:=h
 exact ⟨es,h1,h2,fun j hj q hq => h3 j hj q (hf j q (by omega) hq)⟩
end
theorem EqRow.made {w:World} {n:Nat} {B g K:Nat} (h:w.ownsRow B 175 4 (.slice (some ⟨g,0,none⟩) n n) n (madeCells (Value.cells (.agg #[.bool false,.slice none 0 0,.bool false,.slice none 0 0])) (n*4)).toList):EqRow w g n (fun _ => none) K:=by
 rcases h.2 with ⟨h',_⟩ | ⟨g2,cap,cur,h',_,h3,_,_,hs,ht⟩
 ·cases h'
 ·injection h' with h4 _ h5
  injection h4 with h4
  injection h4 with h4 _ _
  subst h4 h5
  rw [List.take_of_length_le (by rw [Array.length_toList,hs];exact Nat.le_refl _),made_e4] at ht
  refine ⟨List.replicate n ⟨false,none,0,0,false,none,0,0⟩,by simp,?_,fun j hj q hq => by cases hq⟩
  unfold Blk
  rw [h3,← ht]
def AtBoxQ (B:Nat) (v:Value) (w:World):Prop:=∃ g,v = .pointer (some ⟨g,0,none⟩)∧B≤g∧Blk w g 175 #[.bool false,.slice none 0 0,.bool false,.slice none 0 0]
def gAq (B:Nat):GPost:=⟨fun v => ∃ g,v = .pointer (some ⟨g,0,none⟩),AtBoxQ B,⟨_,0,rfl⟩,fun _ _ _ hb h => by
 obtain ⟨g,h1,h2,h3⟩:=h
 exact ⟨g,h1,h2,h3.below hb h3.lt⟩,true⟩
theorem gAq_new {P:Program} {o:Oper} {a:Act} {w:World} {B:Nat} (hB:B≤w.heap.size) (h:(execOp a.eval o).run P w = .ok (.value (.pointer (some ⟨w.heap.size,0,none⟩))) (w.alloc (.cells #[.bool false,.slice none 0 0,.bool false,.slice none 0 0] 175))):newAt P o a (gAq B) w :=
 ⟨_,_,h,(Below.refl _ _).alloc (Nat.le_refl _) _,⟨_,rfl⟩,⟨_,rfl,hB,Blk.new _ _ _⟩,fun _ => ⟨w.heap.size,rfl,Nat.le_refl _,by simp⟩⟩
theorem EqBox.more {w:World} {D:Nat} {q:Rat} {K K':Nat} (h:EqBox w D q K) (hK:K≤K'):EqBox w D q K':=by
 obtain ⟨b1,A1,l1,c1,b2,A2,l2,c2,h1,h2⟩:=h
 exact ⟨b1,A1,l1,c1,b2,A2,l2,c2,h1,h2.more hK⟩
theorem EqBox.first {w:World} {D:Nat} {q:Rat} {K:Nat} (hD:Blk w D 175 #[.bool false,.slice none 0 0,.bool false,.slice none 0 0]) {b1:Bool} {A1:Option Addr} {l1 c1:Nat} {b2:Bool} {A2:Option Addr} {l2 c2:Nat} (hE:ExqAt w w.heap.size (.agg #[.bool b1,.slice A1 l1 c1,.bool b2,.slice A2 l2 c2]) q K) :
  EqBox ((((w.setCell ⟨D,0,none⟩ (.bool b1)).setCell ⟨D,1,none⟩ (.slice A1 l1 c1)).setCell ⟨D,2,none⟩ (.bool b2)).setCell ⟨D,3,none⟩ (.slice A2 l2 c2)) D q K:=by
 obtain ⟨_,_,_,_,N,E,e,h4,h5,h6⟩:=hE
 cases e
 have z0:=hD.cell 0
 have z1:=(hD.set_ 0 (.bool b1)).cell 1
 have z2:=((hD.set_ 0 (.bool b1)).set_ 1 (.slice A1 l1 c1)).cell 2
 have z3:=(((hD.set_ 0 (.bool b1)).set_ 1 (.slice A1 l1 c1)).set_ 2 (.bool b2)).cell 3
 simp only [zq1,zq3] at z0
 have hset:∀ {v:Value} {x k:Nat},DgTo w w.heap.size v x k→DgTo ((((w.setCell ⟨D,0,none⟩ (.bool b1)).setCell ⟨D,1,none⟩ (.slice A1 l1 c1)).setCell ⟨D,2,none⟩ (.bool b2)).setCell ⟨D,3,none⟩ (.slice A2 l2 c2)) ((((w.setCell ⟨D,0,none⟩ (.bool b1)).setCell ⟨D,1,none⟩ (.slice A1 l1 c1)).setCell ⟨D,2,none⟩ (.bool b2)).setCell ⟨D,3,none⟩ (.slice A2 l2 c2)).heap.size v x k:=fun h => by
  have g1:=DgTo.set h z0 (fun z => by simp) (.bool b1)
  have g2:=DgTo.set g1 (u:=.slice none 0 0) z1 (fun z => by simp) (.slice A1 l1 c1)
  have g3:=DgTo.set g2 (u:=.bool false) z2 (fun z => by simp) (.bool b2)
  have g4:=DgTo.set g3 (u:=.slice none 0 0) z3 (fun z => by simp) (.slice A2 l2 c2)
  exact DgTo.mono g4 (by simp [World.setCell])
 exact ⟨_,_,_,_,_,_,_,_,(((hD.set_ 0 (.bool b1)).set_ 1 (.slice A1 l1 c1)).set_ 2 (.bool b2)).set_ 3 (.slice A2 l2 c2),_,_,_,_,N,E,rfl,⟨h4.1,hset h4.2⟩,⟨h5.1,hset h5.2⟩,h6⟩
end Go.Proofs.YtfhmbechennkbaaGreatDoor
