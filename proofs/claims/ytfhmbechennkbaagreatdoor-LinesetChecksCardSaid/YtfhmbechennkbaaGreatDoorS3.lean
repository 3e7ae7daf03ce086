/- Parts of the proof, laid into one text: RefCk, LawChecks. -/
import Derived.Test.YtfhmbechennkbaaGreatDoorD7
import Derived.Test.YtfhmbechennkbaaGreatDoorD8
import Derived.Test.YtfhmbechennkbaaGreatDoorS1
import Derived.Test.YtfhmbechennkbaaGreatDoorS2
namespace Go.Proofs.YtfhmbechennkbaaGreatDoor
set_option maxRecDepth 100000
set_option maxHeartbeats 40000000
open Go.RowKit Go.Shelf
theorem total_wrap {s:SetT} (hs:setB s=true):IntKind.i64.wrap (weightN s+s.arbor)=weightN s+s.arbor∧IntKind.i64.wrap (weightN s+s.arbor+brickW s.bricks s.bricks.length)=totalN s:=by
 have hb:=weight_bd hs
 have ha:=(Zm hs).arbor
 have hbk:=(Zm hs).brk
 have hw:=brickW_bd hbk.2 _ (Nat.le_refl s.bricks.length)
 have h8:=hbk.1
 refine ⟨IntWalk.i64_in _ (by omega),(IntWalk.i64_in _ (by omega)).trans rfl⟩
theorem refTotal29 (v:Value) (s:SetT) (w:World) (hv:SetAt w w.heap.size v s) (hs:setB s=true) :
  Calls Tryz.prog 15 #[v] w fun e w' => e = .returned (.int .i64 (totalN s))∧Below w.heap.size w w':=by
 have HSA:=zh fun W (hb:Below w.heap.size w W) => (hv.below hb (Nat.le_refl _)).mono hb.size
 have hbk:=(Zm hs).brk
 have hw:=(Zm hs).wts
 have HWe:=zh fun u W (h:SetAt W W.heap.size u s) => refWeight21 u s W h (Zm hs).pipe (Zm hs).len (fun x hx => alone_wt (hw.2 x hx).1) hw.1
 have HBk:=zh hbk
 obtain ⟨v1,v2⟩:=total_wrap hs
 clear hbk hs hw
 obtain ⟨Al,cl,Ai,ci,Ab,cb,rfl,hL,hI,hB⟩:=hv
 have HBr:=zh fun W (hb:Below w.heap.size w W) => (BricksAt.below hB hb (Nat.le_refl _)).mono hb.size
 clear hL hI hB
 unfold setVal at *
 have HD:=zh (Blk.new w 26 #[.string s.name,.int .i64 s.depth,.int .i64 s.low,.int .i64 s.high,.int .i64 s.len,.slice Al s.lines.length cl,.int .i64 s.pipe,.int .i64 s.arbor,.int .i64 s.purch,.int .i64 s.most,.int .i64 s.brake,.slice Ai s.items.length ci,.slice Ab s.bricks.length cb])
 have HB:=zh ((Below.refl _ w).alloc (Nat.le_refl _) (.cells #[.string s.name,.int .i64 s.depth,.int .i64 s.low,.int .i64 s.high,.int .i64 s.len,.slice Al s.lines.length cl,.int .i64 s.pipe,.int .i64 s.arbor,.int .i64 s.purch,.int .i64 s.most,.int .i64 s.brake,.slice Ai s.items.length ci,.slice Ab s.bricks.length cb] 26))
 go_enter Tryz.func15,Tryz.ntmps15
 go_upto_region 1 with fail
 generalize w.alloc (.cells #[.string s.name,.int .i64 s.depth,.int .i64 s.low,.int .i64 s.high,.int .i64 s.len,.slice Al s.lines.length cl,.int .i64 s.pipe,.int .i64 s.arbor,.int .i64 s.purch,.int .i64 s.most,.int .i64 s.brake,.slice Ai s.items.length ci,.slice Ab s.bricks.length cb] 26)=W1 at *
 have z0:=HD.out.cell 0
 have z1:=HD.out.cell 1
 have z2:=HD.out.cell 2
 have z3:=HD.out.cell 3
 have z4:=HD.out.cell 4
 have z5:=HD.out.cell 5
 have z6:=HD.out.cell 6
 have z7:=HD.out.cell 7
 have z8:=HD.out.cell 8
 have z9:=HD.out.cell 9
 have z10:=HD.out.cell 10
 have z11:=HD.out.cell 11
 have z12:=HD.out.cell 12
 simp only [zq1,zq2,zq3] at z0 z1 z2 z3 z4 z5 z6 z7 z8 z9 z10 z11 z12
 have uz0:=HeldB.cell z0
 have uz1:=HeldB.cell z1
 have uz2:=HeldB.cell z2
 have uz3:=HeldB.cell z3
 have uz4:=HeldB.cell z4
 have uz5:=HeldB.cell z5
 have uz6:=HeldB.cell z6
 have uz7:=HeldB.cell z7
 have uz8:=HeldB.cell z8
 have uz9:=HeldB.cell z9
 have uz10:=HeldB.cell z10
 have uz11:=HeldB.cell z11
 have uz12:=HeldB.cell z12
 clear z0 z1 z2 z3 z4 z5 z6 z7 z8 z9 z10 z11 z12
 refine wp_region_grow 12 (fun jx => if jx=1 then some (gOne (.int .i64 (weightN s))) else if jx=9 then some (gInts (s.bricks.map BrickT.cnt)) else if jx=10 then some (gOne (.int .i64 (brickW s.bricks s.bricks.length))) else none) (by kernel_rfl) (by kernel_rfl) ?_
 simp only [zt1,zt2,zt3,zt4]
 refine wpG_quiet 1 (by kernel_rfl) (by rfl) (by decide) ?_
 simp only [zt1,zt2,zt3,zt4]
 repeat (go_big_quiet_step (fail))
 refine wpQuiet_nil ?_
 refine wpG_call rfl rfl ?_ ?_
 ·intro w1 hb1 hk
  have hC:=Calls.mono (R':=fun e wx => ∃ v,e = .returned v∧Below w1.heap.size w1 wx∧(gOne (.int .i64 (weightN s))).σ v∧(gOne (.int .i64 (weightN s))).φ v wx) (HWe.out _ w1 (HSA.out _ (HB.out.trans (hb1.mono HB.out.size)))) fun _ _ hp => ⟨_,hp.1,hp.2,rfl,trivial⟩
  exact ⟨51,#[.agg #[.string s.name,.int .i64 s.depth,.int .i64 s.low,.int .i64 s.high,.int .i64 s.len,.slice Al s.lines.length cl,.int .i64 s.pipe,.int .i64 s.arbor,.int .i64 s.purch,.int .i64 s.most,.int .i64 s.brake,.slice Ai s.items.length ci,.slice Ab s.bricks.length cb]],by go_simp,hC⟩
 rintro _ rfl
 simp only [Act.put,zs1,zs2,zs3]
 refine wpG_quiet 7 (by kernel_rfl) (by rfl) (by decide) ?_
 simp only [zt1,zt2,zt3,zt4]
 repeat (go_big_quiet_step (fail))
 refine wpQuiet_nil ?_
 refine wpG_call rfl rfl ?_ ?_
 ·intro w1 hb1 hk
  have hC:=(refCounts _ s.bricks w1 (HBr.out w1 (HB.out.trans (hb1.mono HB.out.size))) HBk.out.1).mono fun e w'' ⟨r,he,hI,hb⟩ => (⟨_,he,hb,(by obtain ⟨A9,c9,e9,-⟩:=hI.open_;exact ⟨A9,c9,e9⟩),hI⟩:∃ v,e=Ending.returned v∧_∧(gInts (s.bricks.map BrickT.cnt)).σ v∧(gInts (s.bricks.map BrickT.cnt)).φ v _)
  exact ⟨53,#[.slice Ab s.bricks.length cb],by go_simp,hC⟩
 rintro _ ⟨A9,c9,rfl⟩
 simp only [Act.put,zs1,zs2,zs3]
 refine wpG_call rfl rfl ?_ ?_
 ·intro w1 hb1 hk
  have hI:IntsAt w1 w1.heap.size (.slice A9 (s.bricks.map BrickT.cnt).length c9) (s.bricks.map BrickT.cnt):=hk 12 (of_decide_eq_true (by kernel_rfl))
  have hC:=Calls.mono (R':=fun e wx => ∃ v,e = .returned v∧Below w1.heap.size w1 wx∧(gOne (.int .i64 (brickW s.bricks s.bricks.length))).σ v∧(gOne (.int .i64 (brickW s.bricks s.bricks.length))).φ v wx) (refSum25 _ _ s.bricks w1.heap.size w1 (HBr.out w1 (HB.out.trans (hb1.mono HB.out.size))) hI HBk.out.1 HBk.out.2) fun e wy ⟨he,q,hq⟩ => ⟨_,he,by rw [← hq];exact Zf (Below.refl _ _) q,rfl,trivial⟩
  exact ⟨52,#[.slice Ab s.bricks.length cb,.slice A9 (s.bricks.map BrickT.cnt).length c9],by go_simp,hC⟩
 rintro _ rfl
 simp only [Act.put,zs1,zs2,zs3]
 refine wpG_quiet 1 (by kernel_rfl) (by rfl) (by decide) ?_
 simp only [zt1,zt2,zt3,zt4]
 repeat (go_big_quiet_step (fail))
 refine wpQuiet_nil ?_
 refine Zc ?_
 intro w8 hb8 hF
 have HB8:=zh (HB.out.trans (hb8.mono HB.out.size))
 clear hF hb8 uz0 uz1 uz2 uz3 uz4 uz5 uz6 uz7 uz8 uz9 uz10 uz11 uz12 HD
 go_wp2_with fail
 go_ret
 exact ⟨rfl,HB8.out⟩
theorem refCheck29 (v:Value) (s:SetT) (w:World) (hv:SetAt w w.heap.size v s) (hn:SetNames s):Calls Tryz.prog 10 #[v] w (CheckPost s w):=by
 have HSA:=zh fun W (hb:Below w.heap.size w W) => (hv.below hb (Nat.le_refl _)).mono hb.size
 have HVa:=zh fun u W (h:SetAt W W.heap.size u s) => refValid21 u s W h hn
 have HLi:=zh fun u (hs:setB s=true) W (h:SetAt W W.heap.size u s) => refLines21 u s W h hn hs
 have HHo:=zh fun u (hs:setB s=true) W (h:SetAt W W.heap.size u s) => refHolds25 u s W h hs
 obtain ⟨Al,cl,Ai,ci,Ab,cb,rfl,-,-,-⟩:=hv
 unfold setVal at *
 have HD:=zh (Blk.new w 26 #[.string s.name,.int .i64 s.depth,.int .i64 s.low,.int .i64 s.high,.int .i64 s.len,.slice Al s.lines.length cl,.int .i64 s.pipe,.int .i64 s.arbor,.int .i64 s.purch,.int .i64 s.most,.int .i64 s.brake,.slice Ai s.items.length ci,.slice Ab s.bricks.length cb])
 have HB:=zh ((Below.refl _ w).alloc (Nat.le_refl _) (.cells #[.string s.name,.int .i64 s.depth,.int .i64 s.low,.int .i64 s.high,.int .i64 s.len,.slice Al s.lines.length cl,.int .i64 s.pipe,.int .i64 s.arbor,.int .i64 s.purch,.int .i64 s.most,.int .i64 s.brake,.slice Ai s.items.length ci,.slice Ab s.bricks.length cb] 26))
 clear hn
 go_enter Tryz.func10,Tryz.ntmps10
 go_upto_region 1 with fail
 generalize w.alloc (.cells #[.string s.name,.int .i64 s.depth,.int .i64 s.low,.int .i64 s.high,.int .i64 s.len,.slice Al s.lines.length cl,.int .i64 s.pipe,.int .i64 s.arbor,.int .i64 s.purch,.int .i64 s.most,.int .i64 s.brake,.slice Ai s.items.length ci,.slice Ab s.bricks.length cb] 26)=W1 at *
 have z0:=HD.out.cell 0
 have z1:=HD.out.cell 1
 have z2:=HD.out.cell 2
 have z3:=HD.out.cell 3
 have z4:=HD.out.cell 4
 have z5:=HD.out.cell 5
 have z6:=HD.out.cell 6
 have z7:=HD.out.cell 7
 have z8:=HD.out.cell 8
 have z9:=HD.out.cell 9
 have z10:=HD.out.cell 10
 have z11:=HD.out.cell 11
 have z12:=HD.out.cell 12
 simp only [zq1,zq2,zq3] at z0 z1 z2 z3 z4 z5 z6 z7 z8 z9 z10 z11 z12
 go_wp2_with fail
 refine (HVa.out _ W1 (HSA.out _ HB.out)).mono ?_
 rintro e w2 ⟨rfl,hb2⟩
 have HB2:=zh (HB.out.trans (hb2.mono HB.out.size))
 have HD2:=zh (HD.out.below hb2 HD.out.lt)
 clear z0 z1 z2 z3 z4 z5 z6 z7 z8 z9 z10 z11 z12 hb2 HB HD
 cases hs:setB s with
 | false =>
  have HE:Hid (Zs s=1):=by unfold Hid Zs;rw [hs];rfl
  clear hs
  go_wp2_with fail
  refine bodyPost_ret (results_tmp2 rfl _ _ _) (by rfl) ?_
  exact ⟨HB2.out,.inr ⟨by rw [HE.out];decide,by rw [HE.out];rfl⟩⟩
 | true =>
  have Hs:=zh hs
  have z0:=HD2.out.cell 0
  have z1:=HD2.out.cell 1
  have z2:=HD2.out.cell 2
  have z3:=HD2.out.cell 3
  have z4:=HD2.out.cell 4
  have z5:=HD2.out.cell 5
  have z6:=HD2.out.cell 6
  have z7:=HD2.out.cell 7
  have z8:=HD2.out.cell 8
  have z9:=HD2.out.cell 9
  have z10:=HD2.out.cell 10
  have z11:=HD2.out.cell 11
  have z12:=HD2.out.cell 12
  simp only [zq1,zq2,zq3] at z0 z1 z2 z3 z4 z5 z6 z7 z8 z9 z10 z11 z12
  clear hs
  go_wp2_with fail
  refine (HLi.out _ Hs.out w2 (HSA.out _ HB2.out)).mono ?_
  rintro e w5 ⟨hb5,hE⟩
  have HB5:=zh (HB2.out.trans (hb5.mono HB2.out.size))
  have HD5:=zh (HD2.out.below hb5 HD2.out.lt)
  clear z0 z1 z2 z3 z4 z5 z6 z7 z8 z9 z10 z11 z12 hb5 HB2 HD2
  rcases hE with ⟨h0,vl,rfl,hL⟩ | ⟨h0,rfl⟩
  rotate_left
  ·have e1:(Zs s == 0)=false:=beq_eq_false_iff_ne.2 h0
   have e2:(Zs s != 0)=true:=by rw [bne_iff_ne];exact h0
   have H0:=zh h0
   clear h0
   generalize hle:Zs s=er at *
   go_wp2_with fail
   refine bodyPost_ret (results_tmp2 rfl _ _ _) (by rfl) ?_
   exact ⟨HB5.out,.inr ⟨by rw [hle];exact H0.out,by rw [hle];rfl⟩⟩
  have HE:=zh h0
  have HGd:=zh (lines_good h0)
  obtain ⟨Af,cf,rfl,hc1,hc2,hcell⟩:=hL.open_
  unfold maxLen at hc2
  have HC:=zh hcell
  have hl12:=HGd.out.2.2
  clear hL hcell h0
  generalize hll:linesL s=L at *
  have HLL:=zh hll
  clear hll
  have z0:=HD5.out.cell 0
  have z1:=HD5.out.cell 1
  have z2:=HD5.out.cell 2
  have z3:=HD5.out.cell 3
  have z4:=HD5.out.cell 4
  have z5:=HD5.out.cell 5
  have z6:=HD5.out.cell 6
  have z7:=HD5.out.cell 7
  have z8:=HD5.out.cell 8
  have z9:=HD5.out.cell 9
  have z10:=HD5.out.cell 10
  have z11:=HD5.out.cell 11
  have z12:=HD5.out.cell 12
  simp only [zq1,zq2,zq3] at z0 z1 z2 z3 z4 z5 z6 z7 z8 z9 z10 z11 z12
  go_wp2_with fail
  refine (HHo.out _ Hs.out w5 (HSA.out _ HB5.out)).mono ?_
  rintro e w6 ⟨rfl,hb6⟩
  obtain ⟨Bo,hBo⟩:∃ Bo,w5.heap.size=Bo:=⟨_,rfl⟩
  have hwb:Bo≤w6.heap.size:=by rw [← hBo];exact hb6.size
  have HBl6:Hid (Below Bo w5 w6):=by rw [← hBo];exact hb6
  have Hset:Hid (w.heap.size<Bo):=by rw [← hBo];exact HD5.out.lt
  have HC:Hid (∀ k (_:k<L.length),∃ b off,Af=some ⟨b,off,none⟩∧b<Bo∧∀ j (hj:j<L.length),w5.cell? ⟨b,off+j*2,none⟩=some (.int .i64 L[j].num)∧w5.cell? ⟨b,off+j*2+1,none⟩=some (.int .i64 L[j].den)):=by rw [← hBo];exact HC.out
  obtain ⟨iF,hiF,hzF0,hzF1,hzF2⟩:=info_parts info_find
  have hBW:w.heap.size≤Bo:=Nat.le_of_lt Hset.out
  have hB5:Bo≤w5.heap.size:=Nat.le_of_eq hBo.symm
  clear z0 z1 z2 z3 z4 z5 z6 z7 z8 z9 z10 z11 z12 hb6 hBo
  have x0:=HD5.out.cell 0
  have x9:=HD5.out.cell 9
  simp only [zq1,zq2,zq3] at x0 x9
  have X0:=zh x0
  have X9:=zh x9
  clear x0 x9 HD5 HHo HLi HVa
  have y0:=(HBl6.out.cell (p:=⟨w.heap.size,0,none⟩) Hset.out).trans X0.out
  have HHf:Hid (holdF s=if holdsB s then [] else [⟨1,s.name⟩]):=rfl
  generalize holdsB s=hbv at *
  go_upto_if 22 with fail
  go_cut [6] from 22 to 28 (fun s6 wx => ∃ A6 c6,s6 = .slice A6 (holdF s).length c6∧Hid (wx.ownsRow Bo 39 2 (.slice A6 (holdF s).length c6) (holdF s).length ((holdF s).flatMap FindT.cells))∧Hid (Below Bo w5 wx))
  case first =>
   cases hbv with
   | true =>
    have HH:Hid (holdF s=[]):=by unfold Hid;rw [HHf.out];rfl
    go_wp2_with fail
    go_meet
    exact ⟨none,0,by rw [HH.out];rfl,by rw [HH.out];exact World.ownsRow_nil _ _ _ _,HBl6⟩
   | false =>
    have HH:Hid (holdF s=[] ++ [⟨1,s.name⟩]):=by unfold Hid;rw [HHf.out];rfl
    have HO:Hid (w6.ownsRow Bo 39 2 (.slice none 0 0) (([]:List FindT)).length ((([]:List FindT)).flatMap FindT.cells)):=World.ownsRow_nil _ _ _ _
    have HBl:=zh HBl6.out
    have HFl:Hid (([]:List FindT).length≤1000):=by unfold Hid;decide
    clear HHf
    have HOa:=zh (HO.out.alloc (.cells #[.int .i64 1,.string s.name] 39))
    have hnew:=World.news_of_block (Blk.new w6 39 #[.int .i64 1,.string s.name])
    have Hnew:=zh hnew
    have hbl:Bo≤w6.heap.size:=Nat.le_trans hB5 HBl.out.size
    have hfl:([]:List FindT).length≤1000:=HFl.out
    clear hnew
    go_wp2_with (at_builtin;refine wpList_append_own _ rfl _ _ 29 rfl Bo 39 iF (.agg #[.int .i64 0,.string ⟨#[]⟩]) 2 24 Tryz.underlying29 hiF hzF0 hzF1 hzF2 rfl (by decide) _ _ _ rfl HOa.out ⟨w6.heap.size,0,none⟩ 1 1 [.int .i64 1,.string s.name] rfl rfl Hnew.out (by simp [Value.oneCell']) (by unfold maxLen;omega) (by omega) (by simp;omega) ?_;intro v' w1 hown' hgrow _;obtain ⟨g',cap',rfl⟩:=ownsRow_succ hown')
    have HBl2:=zh ((HBl.out.alloc hbl (.cells #[.int .i64 1,.string s.name] 39)).grown hgrow (by simp;omega) (fun j ej => (HOa.out.lt j ej).1))
    have HO2:Hid (w1.ownsRow Bo 39 2 (.slice (some ⟨g',0,none⟩) (([]:List FindT).length+1) cap') (holdF s).length ((holdF s).flatMap FindT.cells)):=by
     rw [HH.out]
     unfold Hid
     rw [List.length_append,List.flatMap_append]
     exact hown'
    clear hown' hgrow HOa Hnew hbl hfl
    go_meet
    exact ⟨_,_,by rw [HH.out];rfl,by rw [HH.out] at HO2 ⊢;exact HO2,HBl2⟩
  case rest =>
   obtain ⟨A6,c6,rfl,HO6,HBl7⟩:=hcut
   clear HBl6 HHf y0
   have hh1:(holdF s).length≤1:=by unfold holdF;split <;> simp
   have HM:=zh (Zm Hs.out).most
   go_wp2_with fail
   go_loopw [7,6] (fun ix ov wr => ∃ (k:Nat) (A:Option Addr) (c:Nat),k≤L.length∧ix = .int .i64 k∧ov = .slice A (holdF s ++ hitsTo 2 pushB L k).length c∧Hid (wr.ownsRow Bo 39 2 (.slice A (holdF s ++ hitsTo 2 pushB L k).length c) (holdF s ++ hitsTo 2 pushB L k).length ((holdF s ++ hitsTo 2 pushB L k).flatMap FindT.cells))∧Hid (Below Bo w5 wr)) (fun ix _ _ => L.length-(intOf ix).toNat)
   case atStart => exact ⟨0,A6,c6,Nat.zero_le _,rfl,by rw [hitsTo,List.append_nil],by rw [hitsTo,List.append_nil];exact HO6,HBl7⟩
   case round =>
    clear HO6 HBl7
    obtain ⟨k,A,c,hk,rfl,rfl,HO,HBl⟩:=hrel
    have k0:(0:Int)≤(k:Int):=Int.natCast_nonneg _
    by_cases hkl:k<L.length
    ·have k1:(k:Int)<(L.length:Int):=by omega
     obtain ⟨b1,o1,rfl,hb1,hx⟩:=HC.out k hkl
     have y0:=(HBl.out.cell (p:=⟨b1,o1+k*2,none⟩) hb1).trans (hx k hkl).1
     have y1:=(HBl.out.cell (p:=⟨b1,o1+k*2+1,none⟩) hb1).trans (hx k hkl).2
     have HY:=zh (Zr (kind:=2) (p:=pushB) hkl)
     have HNo:=zh (hits_no (kind:=2) (p:=pushB) hkl)
     have HV:Hid (pushB L[k]=decide (L[k].num<0)):=rfl
     clear hx
     generalize L[k]=fr at *
     obtain ⟨num,den⟩:=fr
     simp only at y0 y1 HV
     cases hp:pushB ⟨num,den⟩ with
     | false =>
      have d0:decide (num<0)=false:=by rw [← HV.out];exact hp
      have HN:=zh (HNo.out hp)
      clear hp HY HNo
      go_wp2_with fail
      go_roundw
      case rel => exact ⟨k+1,_,_,by omega,by go_num,by rw [HN.out],by rw [HN.out];exact HO,HBl⟩
      case measure => simp [intOf];omega
     | true =>
      have d0:decide (num<0)=true:=by rw [← HV.out];exact hp
      have HN:Hid (holdF s ++ hitsTo 2 pushB L (k+1)=(holdF s ++ hitsTo 2 pushB L k) ++ [⟨2,lineB k⟩]):=by unfold Hid;rw [HY.out hp,← List.append_assoc]
      have hfl0:=hits_len (kind:=2) (p:=pushB) (l:=L) k
      have HFl:Hid ((holdF s ++ hitsTo 2 pushB L k).length≤1000):=by unfold Hid;rw [List.length_append];omega
      clear hp HY HNo hfl0
      generalize holdF s ++ hitsTo 2 pushB L k=fs at *
      go_wp2_with fail
      refine (refLine29 k (by omega) _).mono ?_
      rintro e w8 ⟨rfl,hb8⟩
      replace HO:=zh (ownsRow_of HO.out hb8)
      replace HBl:=zh (HBl.out.trans (hb8.mono (Nat.le_trans hB5 HBl.out.size)))
      clear hb8
      have HOa:=zh (HO.out.alloc (.cells #[.int .i64 2,.string (lineB k)] 39))
      have hnew:=World.news_of_block (Blk.new w8 39 #[.int .i64 2,.string (lineB k)])
      have Hnew:=zh hnew
      have hbl:Bo≤w8.heap.size:=Nat.le_trans hB5 HBl.out.size
      have hfl:(fs).length≤1000:=HFl.out
      clear hnew
      go_wp2_with (at_builtin;refine wpList_append_own _ rfl _ _ 29 rfl Bo 39 iF (.agg #[.int .i64 0,.string ⟨#[]⟩]) 2 24 Tryz.underlying29 hiF hzF0 hzF1 hzF2 rfl (by decide) _ _ _ rfl HOa.out ⟨w8.heap.size,0,none⟩ 1 1 [.int .i64 2,.string (lineB k)] rfl rfl Hnew.out (by simp [Value.oneCell']) (by unfold maxLen;omega) (by omega) (by simp;omega) ?_;intro v' w1 hown' hgrow _;obtain ⟨g',cap',rfl⟩:=ownsRow_succ hown')
      have HBl2:=zh ((HBl.out.alloc hbl (.cells #[.int .i64 2,.string (lineB k)] 39)).grown hgrow (by simp;omega) (fun j ej => (HOa.out.lt j ej).1))
      have HO2:Hid (w1.ownsRow Bo 39 2 (.slice (some ⟨g',0,none⟩) ((fs).length+1) cap') (holdF s ++ hitsTo 2 pushB L (k+1)).length ((holdF s ++ hitsTo 2 pushB L (k+1)).flatMap FindT.cells)):=by
       rw [HN.out]
       unfold Hid
       rw [List.length_append,List.flatMap_append]
       exact hown'
      clear hown' hgrow HOa Hnew hbl hfl
      go_roundw
      case rel => exact ⟨k+1,_,_,by omega,by go_num,by rw [HN.out,List.length_append];rfl,by have h:=HO2;rw [HN.out,List.length_append] at h ⊢;exact h,HBl2⟩
      case measure => simp [intOf];omega
    ·obtain rfl:k=L.length:=by omega
     go_wp2_with fail
     go_loopw [8,6] (fun ix ov wr => ∃ (k:Nat) (A:Option Addr) (c:Nat),k≤L.length∧ix = .int .i64 k∧ov = .slice A (holdF s ++ hitsTo 2 pushB L L.length ++ hitsTo 3 (overB s.most) L k).length c∧Hid (wr.ownsRow Bo 39 2 (.slice A (holdF s ++ hitsTo 2 pushB L L.length ++ hitsTo 3 (overB s.most) L k).length c) (holdF s ++ hitsTo 2 pushB L L.length ++ hitsTo 3 (overB s.most) L k).length ((holdF s ++ hitsTo 2 pushB L L.length ++ hitsTo 3 (overB s.most) L k).flatMap FindT.cells))∧Hid (Below Bo w5 wr)) (fun ix _ _ => L.length-(intOf ix).toNat)
     case atStart => exact ⟨0,A,c,Nat.zero_le _,rfl,by rw [hitsTo,List.append_nil],by rw [hitsTo,List.append_nil];exact HO,HBl⟩
     case round =>
      clear HO HBl
      obtain ⟨k,A,c,hk,rfl,rfl,HO,HBl⟩:=hrel
      have k0:(0:Int)≤(k:Int):=Int.natCast_nonneg _
      by_cases hkl:k<L.length
      ·have k1:(k:Int)<(L.length:Int):=by omega
       obtain ⟨b1,o1,rfl,hb1,hx⟩:=HC.out k hkl
       have y0:=(HBl.out.cell (p:=⟨b1,o1+k*2,none⟩) hb1).trans (hx k hkl).1
       have y1:=(HBl.out.cell (p:=⟨b1,o1+k*2+1,none⟩) hb1).trans (hx k hkl).2
       have HY:=zh (Zr (kind:=3) (p:=(overB s.most)) hkl)
       have HNo:=zh (hits_no (kind:=3) (p:=(overB s.most)) hkl)
       have HCm:=zh fun W => refCmp L[k] ⟨s.most,1⟩ W (HGd.out.2.1 _ (List.getElem_mem hkl)) (good_int (by have:=HM.out;omega) (by have:=HM.out;omega)) (by have:=HM.out;show 0≤s.most;omega)
       have HV:Hid (overB s.most L[k]=decide (0<cmpF L[k] ⟨s.most,1⟩)):=rfl
       have y9:=(HBl.out.cell (p:=⟨w.heap.size,9,none⟩) Hset.out).trans X9.out
       have h11:(k:Int).toNat<L.length:=by omega
       clear hx
       generalize cmpF L[k] ⟨s.most,1⟩=cr at *
       generalize L[k]=fr at *
       obtain ⟨num,den⟩:=fr
       unfold FrT.val at HCm
       simp only at y0 y1 HV HCm
       have uy0:=HeldB.cell y0
       have uy1:=HeldB.cell y1
       have uy9:=HeldB.cell y9
       clear y0 y1 y9
       go_upto_region 17 with fail
       refine wp_region_grow 8 (fun jx => if jx=6 then some (gOne (.agg #[.int .i64 s.most,.int .i64 1])) else if jx=7 then some (gOne (.int .i64 cr)) else none) (by kernel_rfl) (by kernel_rfl) ?_
       simp only [zt1,zt2,zt3,zt4]
       refine wpG_quiet 6 (by kernel_rfl) (by rfl) (by decide) ?_
       simp only [zt1,zt2,zt3,zt4]
       repeat (go_big_quiet_step (fail))
       refine wpQuiet_nil ?_
       refine wpG_call rfl rfl ?_ ?_
       ·intro w1 hb1 hk
        have hC:=Calls.mono (R':=fun e wx => ∃ v,e = .returned v∧Below w1.heap.size w1 wx∧(gOne (.agg #[.int .i64 s.most,.int .i64 1])).σ v∧(gOne (.agg #[.int .i64 s.most,.int .i64 1])).φ v wx) (refOf02 s.most w1) fun _ _ hp => ⟨_,hp.1,hp.2,rfl,trivial⟩
        exact ⟨46,#[.int .i64 s.most],by go_simp,hC⟩
       rintro _ rfl
       simp only [Act.put,zs1,zs2,zs3]
       refine wpG_call rfl rfl ?_ ?_
       ·intro w1 hb1 hk
        have hC:=Calls.mono (R':=fun e wx => ∃ v,e = .returned v∧Below w1.heap.size w1 wx∧(gOne (.int .i64 cr)).σ v∧(gOne (.int .i64 cr)).φ v wx) (HCm.out w1) fun _ _ hp => ⟨_,hp.1,hp.2,rfl,trivial⟩
        exact ⟨45,#[.agg #[.int .i64 num,.int .i64 den],.agg #[.int .i64 s.most,.int .i64 1]],by go_simp,hC⟩
       rintro _ rfl
       simp only [Act.put,zs1,zs2,zs3]
       refine Zc ?_
       intro wq hbq _
       replace HO:=zh (ownsRow_of HO.out hbq)
       replace HBl:=zh (HBl.out.trans (hbq.mono (Nat.le_trans hB5 HBl.out.size)))
       clear hbq HCm uy0 uy1 uy9
       cases hp:overB s.most ⟨num,den⟩ with
       | false =>
        have d0:decide (0<cr)=false:=by rw [← HV.out];exact hp
        have HN:=zh (HNo.out hp)
        clear hp HY HNo
        go_wp2_with fail
        go_roundw
        case rel => exact ⟨k+1,_,_,by omega,by go_num,by rw [HN.out],by rw [HN.out];exact HO,HBl⟩
        case measure => simp [intOf];omega
       | true =>
        have d0:decide (0<cr)=true:=by rw [← HV.out];exact hp
        have HN:Hid (holdF s ++ hitsTo 2 pushB L L.length ++ hitsTo 3 (overB s.most) L (k+1)=(holdF s ++ hitsTo 2 pushB L L.length ++ hitsTo 3 (overB s.most) L k) ++ [⟨3,lineB k⟩]):=by unfold Hid;rw [HY.out hp,← List.append_assoc]
        have hfl0:=hits_len (kind:=3) (p:=(overB s.most)) (l:=L) k
        have HFl:Hid ((holdF s ++ hitsTo 2 pushB L L.length ++ hitsTo 3 (overB s.most) L k).length≤1000):=by unfold Hid;rw [List.length_append,List.length_append];have:=hits_len (kind:=2) (p:=pushB) (l:=L) L.length;omega
        clear hp HY HNo hfl0
        generalize holdF s ++ hitsTo 2 pushB L L.length ++ hitsTo 3 (overB s.most) L k=fs at *
        go_wp2_with fail
        refine (refLine29 k (by omega) _).mono ?_
        rintro e w8 ⟨rfl,hb8⟩
        replace HO:=zh (ownsRow_of HO.out hb8)
        replace HBl:=zh (HBl.out.trans (hb8.mono (Nat.le_trans hB5 HBl.out.size)))
        clear hb8
        have HOa:=zh (HO.out.alloc (.cells #[.int .i64 3,.string (lineB k)] 39))
        have hnew:=World.news_of_block (Blk.new w8 39 #[.int .i64 3,.string (lineB k)])
        have Hnew:=zh hnew
        have hbl:Bo≤w8.heap.size:=Nat.le_trans hB5 HBl.out.size
        have hfl:(fs).length≤1000:=HFl.out
        clear hnew
        go_wp2_with (at_builtin;refine wpList_append_own _ rfl _ _ 29 rfl Bo 39 iF (.agg #[.int .i64 0,.string ⟨#[]⟩]) 2 24 Tryz.underlying29 hiF hzF0 hzF1 hzF2 rfl (by decide) _ _ _ rfl HOa.out ⟨w8.heap.size,0,none⟩ 1 1 [.int .i64 3,.string (lineB k)] rfl rfl Hnew.out (by simp [Value.oneCell']) (by unfold maxLen;omega) (by omega) (by simp;omega) ?_;intro v' w1 hown' hgrow _;obtain ⟨g',cap',rfl⟩:=ownsRow_succ hown')
        have HBl2:=zh ((HBl.out.alloc hbl (.cells #[.int .i64 3,.string (lineB k)] 39)).grown hgrow (by simp;omega) (fun j ej => (HOa.out.lt j ej).1))
        have HO2:Hid (w1.ownsRow Bo 39 2 (.slice (some ⟨g',0,none⟩) ((fs).length+1) cap') (holdF s ++ hitsTo 2 pushB L L.length ++ hitsTo 3 (overB s.most) L (k+1)).length ((holdF s ++ hitsTo 2 pushB L L.length ++ hitsTo 3 (overB s.most) L (k+1)).flatMap FindT.cells)):=by
         rw [HN.out]
         unfold Hid
         rw [List.length_append,List.flatMap_append]
         exact hown'
        clear hown' hgrow HOa Hnew hbl hfl
        go_roundw
        case rel => exact ⟨k+1,_,_,by omega,by go_num,by rw [HN.out,List.length_append];rfl,by have h:=HO2;rw [HN.out,List.length_append] at h ⊢;exact h,HBl2⟩
        case measure => simp [intOf];omega
      ·obtain rfl:k=L.length:=by omega
       go_wp2_with fail
       refine bodyPost_ret (results_tmp2 rfl _ _ _) (by rfl) ?_
       exact ⟨HB5.out.trans (HBl.out.mono hBW),.inl ⟨HE.out,_,rfl,by rw [show findsL s=holdF s ++ hitsTo 2 pushB L L.length ++ hitsTo 3 (overB s.most) L L.length from by unfold findsL;rw [HLL.out]];exact Flat.of_own HO.out⟩⟩
def findsE (s:SetT):List FindT:=if Zs s=0 then findsL s else []
theorem check_form {s:SetT} {w w':World} {e:Ending} (h:CheckPost s w e w'):∃ A c,e = .returned (.tuple #[.slice A (findsE s).length c,.int .i64 (Zs s)])∧FindsAt w' w'.heap.size (.slice A (findsE s).length c) (findsE s)∧Below w.heap.size w w':=by
 obtain ⟨hb,⟨h0,v,rfl,hf⟩ | ⟨h0,rfl⟩⟩:=h
 ·have e0:findsE s=findsL s:=by unfold findsE;rw [if_pos h0]
  obtain ⟨A,c,rfl,-⟩:=hf.open_
  rw [e0,h0]
  exact ⟨A,c,rfl,hf,hb⟩
 ·have e0:findsE s=[]:=by unfold findsE;rw [if_neg h0]
  rw [e0]
  exact ⟨none,0,rfl,Flat.of_own (World.ownsRow_nil _ 0 0 0),hb⟩
theorem total_form (s:SetT):∃ (tn tf:Int),(if setB s=true then Value.tuple #[.int .i64 (totalN s),.int .i64 0] else .tuple #[.int .i64 0,.int .i64 1]) = .tuple #[.int .i64 tn,.int .i64 tf]∧((setB s=false→tn=0∧tf=1)∧(setB s=true→tn=totalN s∧tf=0)):=by
 rcases Bool.eq_false_or_eq_true (setB s) with h | h
 ·exact ⟨_,_,by rw [if_pos h],fun h' => (by rw [h] at h';cases h'),fun _ => ⟨rfl,rfl⟩⟩
 ·exact ⟨_,_,by rw [h,if_neg (by decide)],fun _ => ⟨rfl,rfl⟩,fun h' => (by rw [h] at h';cases h')⟩
theorem refAccepted29 (v:Value) (s:SetT) (w:World) (hv:SetAt w w.heap.size v s) (hn:SetNames s):Calls Tryz.prog 13 #[v] w fun e w' => e = .returned (.bool (accB s))∧Below w.heap.size w w':=by
 have HCh:=fun W (hb:Below w.heap.size w W) => refCheck29 v s W ((hv.below hb (Nat.le_refl _)).mono hb.size) hn
 obtain ⟨Al,cl,Ai,ci,Ab,cb,rfl,-,-,-⟩:=hv
 have HB1:=zh ((Below.refl _ w).alloc (Nat.le_refl _) (.cells #[.string s.name,.int .i64 s.depth,.int .i64 s.low,.int .i64 s.high,.int .i64 s.len,.slice Al s.lines.length cl,.int .i64 s.pipe,.int .i64 s.arbor,.int .i64 s.purch,.int .i64 s.most,.int .i64 s.brake,.slice Ai s.items.length ci,.slice Ab s.bricks.length cb] 26))
 have HV:Hid (accB s=((Zs s == 0) && (((findsL s).length:Int) == 0))):=rfl
 have hch:=HCh _ HB1.out
 clear HCh hn
 unfold setVal at *
 go_enter Tryz.func13,Tryz.ntmps13
 go_wp2_with fail
 refine hch.mono ?_
 rintro e w2 ⟨hb2,⟨hE,u,rfl,h⟩ | ⟨hE,rfl⟩⟩
 ·obtain ⟨A,c,rfl,-⟩:=h.open_
  have hb:=HB1.out.trans (hb2.mono HB1.out.size)
  have hv:=HV.out
  rw [hE] at hv
  have HV2:=zh hv
  clear hE h hb2 hch HV hv
  generalize (findsL s).length=n at *
  go_wp2_with fail
  go_ret
  exact ⟨Ze (by rw [HV2.out];rfl),hb⟩
 ·have hb:=HB1.out.trans (hb2.mono HB1.out.size)
  have hk1:(Zs s == 0)=false:=beq_eq_false_iff_ne.2 hE
  have hv:=HV.out
  rw [hk1] at hv
  have HV2:=zh hv
  clear hE hb2 hch HV hv
  generalize Zs s=k at *
  go_wp2_with fail
  go_ret
  exact ⟨Ze (by rw [HV2.out];rfl),hb⟩
theorem lawChecks (v1:Value) (s:SetT) (w:World) (h1:SetAt w w.heap.size v1 s) (n1:SetNames s) :
  Calls Tryz.prog 3 #[v1] w fun e w' => e = .returned (.bool true)∧Below w.heap.size w w':=by
 have HXs:=zh fun W (hb:Below w.heap.size w W) => (h1.below hb (Nat.le_refl _)).mono hb.size
 obtain ⟨Al,cl,Ai,ci,Ab,cb,rfl,-,-,-⟩:=h1
 have HXn:=zh n1
 have HBa:=zh ((Below.refl _ w).alloc (Nat.le_refl _) (.cells #[.string s.name,.int .i64 s.depth,.int .i64 s.low,.int .i64 s.high,.int .i64 s.len,.slice Al s.lines.length cl,.int .i64 s.pipe,.int .i64 s.arbor,.int .i64 s.purch,.int .i64 s.most,.int .i64 s.brake,.slice Ai s.items.length ci,.slice Ab s.bricks.length cb] 26))
 have hAw:=lawAwake29 (w.alloc (.cells #[.string s.name,.int .i64 s.depth,.int .i64 s.low,.int .i64 s.high,.int .i64 s.len,.slice Al s.lines.length cl,.int .i64 s.pipe,.int .i64 s.arbor,.int .i64 s.purch,.int .i64 s.most,.int .i64 s.brake,.slice Ai s.items.length ci,.slice Ab s.bricks.length cb] 26))
 have HX:=zh (Blk.new w 26 #[.string s.name,.int .i64 s.depth,.int .i64 s.low,.int .i64 s.high,.int .i64 s.len,.slice Al s.lines.length cl,.int .i64 s.pipe,.int .i64 s.arbor,.int .i64 s.purch,.int .i64 s.most,.int .i64 s.brake,.slice Ai s.items.length ci,.slice Ab s.bricks.length cb])
 clear n1
 unfold setVal at *
 go_enter Tryz.func3,Tryz.ntmps3
 go_wp2_with fail
 generalize (w.alloc (.cells #[.string s.name,.int .i64 s.depth,.int .i64 s.low,.int .i64 s.high,.int .i64 s.len,.slice Al s.lines.length cl,.int .i64 s.pipe,.int .i64 s.arbor,.int .i64 s.purch,.int .i64 s.most,.int .i64 s.brake,.slice Ai s.items.length ci,.slice Ab s.bricks.length cb] 26))=w0 at *
 refine hAw.mono ?_
 rintro e w1 ⟨rfl,hb1⟩
 replace HBa:=zh (HBa.out.trans (hb1.mono HBa.out.size))
 replace HX:=zh (HX.out.below hb1 HX.out.lt)
 have hLg:=lawLarge29 _ s w1 (HXs.out _ HBa.out) HXn.out
 clear hAw hb1
 have p0:=HX.out.cell 0
 have p1:=HX.out.cell 1
 have p2:=HX.out.cell 2
 have p3:=HX.out.cell 3
 have p4:=HX.out.cell 4
 have p5:=HX.out.cell 5
 have p6:=HX.out.cell 6
 have p7:=HX.out.cell 7
 have p8:=HX.out.cell 8
 have p9:=HX.out.cell 9
 have p10:=HX.out.cell 10
 have p11:=HX.out.cell 11
 have p12:=HX.out.cell 12
 simp only [zq1,zq2,zq3] at p0 p1 p2 p3 p4 p5 p6 p7 p8 p9 p10 p11 p12
 go_wp2_with fail
 refine hLg.mono ?_
 rintro e w2 ⟨q,rfl,hb2⟩
 clear hLg p0 p1 p2 p3 p4 p5 p6 p7 p8 p9 p10 p11 p12
 replace HBa:=zh (HBa.out.trans (hb2.mono HBa.out.size))
 replace HX:=zh (HX.out.below hb2 HX.out.lt)
 clear hb2
 cases q with
 | true =>
  go_wp2_with fail
  go_ret
  exact ⟨rfl,HBa.out⟩
 | false =>
  have hCh:=lsCheck _ s w2 (HXs.out _ HBa.out) HXn.out
  have p0:=HX.out.cell 0
  have p1:=HX.out.cell 1
  have p2:=HX.out.cell 2
  have p3:=HX.out.cell 3
  have p4:=HX.out.cell 4
  have p5:=HX.out.cell 5
  have p6:=HX.out.cell 6
  have p7:=HX.out.cell 7
  have p8:=HX.out.cell 8
  have p9:=HX.out.cell 9
  have p10:=HX.out.cell 10
  have p11:=HX.out.cell 11
  have p12:=HX.out.cell 12
  simp only [zq1,zq2,zq3] at p0 p1 p2 p3 p4 p5 p6 p7 p8 p9 p10 p11 p12
  go_wp2_with fail
  refine hCh.mono ?_
  rintro e w3 hp
  obtain ⟨A3,c3,rfl,hf3,hb3⟩:=check_form hp
  have HF3:=zh fun W (hb:Below w3.heap.size w3 W) => (hf3.below hb (Nat.le_refl _)).mono hb.size
  clear hCh hp hf3 p0 p1 p2 p3 p4 p5 p6 p7 p8 p9 p10 p11 p12
  replace HBa:=zh (HBa.out.trans (hb3.mono HBa.out.size))
  replace HX:=zh (HX.out.below hb3 HX.out.lt)
  clear hb3
  have hTo:=lsTotal _ s w3 (HXs.out _ HBa.out) HXn.out
  obtain ⟨tn,tf,hv,hts⟩:=total_form s
  rw [hv] at hTo
  have HTs:=zh hts
  clear hv hts
  have p0:=HX.out.cell 0
  have p1:=HX.out.cell 1
  have p2:=HX.out.cell 2
  have p3:=HX.out.cell 3
  have p4:=HX.out.cell 4
  have p5:=HX.out.cell 5
  have p6:=HX.out.cell 6
  have p7:=HX.out.cell 7
  have p8:=HX.out.cell 8
  have p9:=HX.out.cell 9
  have p10:=HX.out.cell 10
  have p11:=HX.out.cell 11
  have p12:=HX.out.cell 12
  simp only [zq1,zq2,zq3] at p0 p1 p2 p3 p4 p5 p6 p7 p8 p9 p10 p11 p12
  go_wp2_with fail
  refine hTo.mono ?_
  rintro e w4 ⟨rfl,hb4⟩
  replace HF3:=zh fun W (hb:Below w4.heap.size w4 W) => HF3.out W (hb4.trans (hb.mono hb4.size))
  clear hTo p0 p1 p2 p3 p4 p5 p6 p7 p8 p9 p10 p11 p12
  replace HBa:=zh (HBa.out.trans (hb4.mono HBa.out.size))
  replace HX:=zh (HX.out.below hb4 HX.out.lt)
  clear hb4
  have hCh:=refCheck29 _ s w4 (HXs.out _ HBa.out) HXn.out
  have p0:=HX.out.cell 0
  have p1:=HX.out.cell 1
  have p2:=HX.out.cell 2
  have p3:=HX.out.cell 3
  have p4:=HX.out.cell 4
  have p5:=HX.out.cell 5
  have p6:=HX.out.cell 6
  have p7:=HX.out.cell 7
  have p8:=HX.out.cell 8
  have p9:=HX.out.cell 9
  have p10:=HX.out.cell 10
  have p11:=HX.out.cell 11
  have p12:=HX.out.cell 12
  simp only [zq1,zq2,zq3] at p0 p1 p2 p3 p4 p5 p6 p7 p8 p9 p10 p11 p12
  go_wp2_with fail
  refine hCh.mono ?_
  rintro e w5 hp
  obtain ⟨A5,c5,rfl,hf5,hb5⟩:=check_form hp
  have HF5:=zh fun W (hb:Below w5.heap.size w5 W) => (hf5.below hb (Nat.le_refl _)).mono hb.size
  replace HF3:=zh fun W (hb:Below w5.heap.size w5 W) => HF3.out W (hb5.trans (hb.mono hb5.size))
  clear hCh hp hf5 p0 p1 p2 p3 p4 p5 p6 p7 p8 p9 p10 p11 p12
  replace HBa:=zh (HBa.out.trans (hb5.mono HBa.out.size))
  replace HX:=zh (HX.out.below hb5 HX.out.lt)
  clear hb5
  have HSl:=zh fun W (hb:Below w5.heap.size w5 W) => equalFind (.slice A3 (findsE s).length c3) (.slice A5 (findsE s).length c5) (findsE s) (findsE s) W.heap.size W (HF3.out W hb) (HF5.out W hb)
  have HA1:=zh fun W (hb:Below w5.heap.size w5 W) => lsAccepted _ s W (HXs.out W (HBa.out.trans (hb.mono HBa.out.size))) HXn.out
  have HA2:=zh fun W (hb:Below w5.heap.size w5 W) => refAccepted29 _ s W (HXs.out W (HBa.out.trans (hb.mono HBa.out.size))) HXn.out
  rw [decide_eq_true rfl] at HSl
  clear HF3 HF5
  generalize (findsE s).length=nl at *
  generalize accB s=sb at *
  have nb2:(sb != sb)=false:=by cases sb <;> rfl
  have ne1:(Zs s != Zs s)=false:=bne_self_eq_false _
  generalize Zs s=er at *
  go_wp2_with fail
  have x0:=HX.out.cell 0
  have x1:=HX.out.cell 1
  have x2:=HX.out.cell 2
  have x3:=HX.out.cell 3
  have x4:=HX.out.cell 4
  have x5:=HX.out.cell 5
  have x6:=HX.out.cell 6
  have x7:=HX.out.cell 7
  have x8:=HX.out.cell 8
  have x9:=HX.out.cell 9
  have x10:=HX.out.cell 10
  have x11:=HX.out.cell 11
  have x12:=HX.out.cell 12
  simp only [zq1,zq2,zq3] at x0 x1 x2 x3 x4 x5 x6 x7 x8 x9 x10 x11 x12
  have p0:=HeldB.cell x0
  have p1:=HeldB.cell x1
  have p2:=HeldB.cell x2
  have p3:=HeldB.cell x3
  have p4:=HeldB.cell x4
  have p5:=HeldB.cell x5
  have p6:=HeldB.cell x6
  have p7:=HeldB.cell x7
  have p8:=HeldB.cell x8
  have p9:=HeldB.cell x9
  have p10:=HeldB.cell x10
  have p11:=HeldB.cell x11
  have p12:=HeldB.cell x12
  clear x0 x1 x2 x3 x4 x5 x6 x7 x8 x9 x10 x11 x12
  refine wp_region_grow 15 (fun jx => if jx=2 then some (gOne (.bool true)) else if jx=11 then some (gOne (.bool sb)) else if jx=13 then some (gOne (.bool sb)) else none) (by kernel_rfl) (by kernel_rfl) ?_
  simp only [zt1,zt2,zt3,zt4]
  first | refine wpG_quiet1W (by first | rfl | go_simp) rfl rfl ?_ | refine wpG_pickW rfl (by first | rfl | go_simp) rfl ?_
  go_big_quiet_step (fail)
  refine wpQuiet_nil ?_
  first | refine wpG_quiet1W (by first | rfl | go_simp) rfl rfl ?_ | refine wpG_pickW rfl (by first | rfl | go_simp) rfl ?_
  go_big_quiet_step (fail)
  refine wpQuiet_nil ?_
  refine wpG_callW (by first | rfl | go_simp) rfl (fun w1 hb1 _ => ⟨11,#[.slice A3 nl c3,.slice A5 nl c5],by go_simp,((HSl.out w1 hb1).mono fun _ _ hp => ⟨_,hp.1,(let ⟨n,e⟩:=hp.2;by rw [← e];exact Zf (Below.refl _ _) n),rfl,trivial⟩)⟩) ?_
  rintro _ rfl
  simp only [Act.put,zs1,zs2,zs3]
  first | refine wpG_quiet1W (by first | rfl | go_simp) rfl rfl ?_ | refine wpG_pickW rfl (by first | rfl | go_simp) rfl ?_
  go_big_quiet_step (fail)
  refine wpQuiet_nil ?_
  first | refine wpG_quiet1W (by first | rfl | go_simp) rfl rfl ?_ | refine wpG_pickW rfl (by first | rfl | go_simp) rfl ?_
  go_big_quiet_step (fail)
  refine wpQuiet_nil ?_
  first | refine wpG_quiet1W (by first | rfl | go_simp) rfl rfl ?_ | refine wpG_pickW rfl (by first | rfl | go_simp) rfl ?_
  go_big_quiet_step (fail)
  refine wpQuiet_nil ?_
  first | refine wpG_quiet1W (by first | rfl | go_simp) rfl rfl ?_ | refine wpG_pickW rfl (by first | rfl | go_simp) rfl ?_
  go_big_quiet_step (fail)
  refine wpQuiet_nil ?_
  first | refine wpG_quiet1W (by first | rfl | go_simp) rfl rfl ?_ | refine wpG_pickW rfl (by first | rfl | go_simp) rfl ?_
  go_big_quiet_step (fail)
  refine wpQuiet_nil ?_
  first | refine wpG_quiet1W (by first | rfl | go_simp) rfl rfl ?_ | refine wpG_pickW rfl (by first | rfl | go_simp) rfl ?_
  go_big_quiet_step (fail)
  refine wpQuiet_nil ?_
  first | refine wpG_quiet1W (by first | rfl | go_simp) rfl rfl ?_ | refine wpG_pickW rfl (by first | rfl | go_simp) rfl ?_
  go_big_quiet_step (fail)
  refine wpQuiet_nil ?_
  first | refine wpG_quiet1W (by first | rfl | go_simp) rfl rfl ?_ | refine wpG_pickW rfl (by first | rfl | go_simp) rfl ?_
  go_big_quiet_step (fail)
  refine wpQuiet_nil ?_
  refine wpG_callW (by first | rfl | go_simp) rfl (fun w1 hb1 _ => ⟨12,#[.agg #[.string s.name,.int .i64 s.depth,.int .i64 s.low,.int .i64 s.high,.int .i64 s.len,.slice Al s.lines.length cl,.int .i64 s.pipe,.int .i64 s.arbor,.int .i64 s.purch,.int .i64 s.most,.int .i64 s.brake,.slice Ai s.items.length ci,.slice Ab s.bricks.length cb]],by go_simp,((HA1.out w1 hb1).mono fun _ _ hp => ⟨_,hp.1,hp.2,rfl,trivial⟩)⟩) ?_
  rintro _ rfl
  simp only [Act.put,zs1,zs2,zs3]
  first | refine wpG_quiet1W (by first | rfl | go_simp) rfl rfl ?_ | refine wpG_pickW rfl (by first | rfl | go_simp) rfl ?_
  go_big_quiet_step (fail)
  refine wpQuiet_nil ?_
  refine wpG_callW (by first | rfl | go_simp) rfl (fun w1 hb1 _ => ⟨13,#[.agg #[.string s.name,.int .i64 s.depth,.int .i64 s.low,.int .i64 s.high,.int .i64 s.len,.slice Al s.lines.length cl,.int .i64 s.pipe,.int .i64 s.arbor,.int .i64 s.purch,.int .i64 s.most,.int .i64 s.brake,.slice Ai s.items.length ci,.slice Ab s.bricks.length cb]],by go_simp,((HA2.out w1 hb1).mono fun _ _ hp => ⟨_,hp.1,hp.2,rfl,trivial⟩)⟩) ?_
  rintro _ rfl
  simp only [Act.put,zs1,zs2,zs3]
  first | refine wpG_quiet1W (by first | rfl | go_simp) rfl rfl ?_ | refine wpG_pickW rfl (by first | rfl | go_simp) rfl ?_
  go_big_quiet_step (fail)
  refine wpQuiet_nil ?_
  refine Zc ?_
  intro w6 hb6 _
  clear HSl HA1 HA2 p0 p1 p2 p3 p4 p5 p6 p7 p8 p9 p10 p11 p12 nb2 ne1
  replace HBa:=zh (HBa.out.trans (hb6.mono HBa.out.size))
  replace HX:=zh (HX.out.below hb6 HX.out.lt)
  clear hb6
  have hVa:=refValid21 _ s w6 (HXs.out _ HBa.out) HXn.out
  have p0:=HX.out.cell 0
  have p1:=HX.out.cell 1
  have p2:=HX.out.cell 2
  have p3:=HX.out.cell 3
  have p4:=HX.out.cell 4
  have p5:=HX.out.cell 5
  have p6:=HX.out.cell 6
  have p7:=HX.out.cell 7
  have p8:=HX.out.cell 8
  have p9:=HX.out.cell 9
  have p10:=HX.out.cell 10
  have p11:=HX.out.cell 11
  have p12:=HX.out.cell 12
  simp only [zq1,zq2,zq3] at p0 p1 p2 p3 p4 p5 p6 p7 p8 p9 p10 p11 p12
  go_wp2_with fail
  refine hVa.mono ?_
  rintro e w7 ⟨rfl,hb7⟩
  clear hVa p0 p1 p2 p3 p4 p5 p6 p7 p8 p9 p10 p11 p12
  replace HBa:=zh (HBa.out.trans (hb7.mono HBa.out.size))
  replace HX:=zh (HX.out.below hb7 HX.out.lt)
  clear hb7
  rcases Bool.eq_false_or_eq_true (setB s) with hok | hok
  rotate_left
  ·obtain ⟨rfl,rfl⟩:=HTs.out.1 hok
   rw [hok]
   clear hok HTs
   go_wp2_with fail
   go_ret
   exact ⟨rfl,HBa.out⟩
  obtain ⟨rfl,rfl⟩:=HTs.out.2 hok
  have hTo:=refTotal29 _ s w7 (HXs.out _ HBa.out) hok
  rw [hok]
  clear hok HTs
  generalize totalN s=tn at *
  have p0:=HX.out.cell 0
  have p1:=HX.out.cell 1
  have p2:=HX.out.cell 2
  have p3:=HX.out.cell 3
  have p4:=HX.out.cell 4
  have p5:=HX.out.cell 5
  have p6:=HX.out.cell 6
  have p7:=HX.out.cell 7
  have p8:=HX.out.cell 8
  have p9:=HX.out.cell 9
  have p10:=HX.out.cell 10
  have p11:=HX.out.cell 11
  have p12:=HX.out.cell 12
  simp only [zq1,zq2,zq3] at p0 p1 p2 p3 p4 p5 p6 p7 p8 p9 p10 p11 p12
  have t1:(tn == tn)=true:=beq_self_eq_true _
  go_wp2_with fail
  refine hTo.mono ?_
  rintro e w8 ⟨rfl,hb8⟩
  have hbz:=HBa.out.trans (hb8.mono HBa.out.size)
  clear hTo hb8 p0 p1 p2 p3 p4 p5 p6 p7 p8 p9 p10 p11 p12
  go_wp2_with fail
  go_ret
  exact ⟨rfl,hbz⟩
end Go.Proofs.YtfhmbechennkbaaGreatDoor
