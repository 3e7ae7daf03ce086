/- Parts of the proof, laid into one text: RgTo, RgTi, Rv20. -/
import Derived.Test.YtfhmbechennkbaaGreatDoorC7
import Derived.Test.YtfhmbechennkbaaGreatDoorR8
namespace Go.Proofs.YtfhmbechennkbaaGreatDoor
set_option maxRecDepth 100000
set_option maxHeartbeats 40000000
open Go.RowKit Go.Shelf
theorem rgTold (v:Value) (l:List Rat) (K:Nat) (w:World) (hv:EqsAt w v l K) (hK:K≤300000) (hl:l.length≤100):Calls Tryz.prog 86 #[v] w (FracsPost l w):=by
 obtain ⟨A,c,rfl,hc1,hc2,hR⟩:=hv
 unfold maxLen at hc2
 have HR:=zh hR
 have HK:=zh hK
 obtain ⟨iF,hiF,hzF0,hzF1,hzF2⟩:=info_parts info_frac
 clear hR hK
 go_enter Tryz.func86,Tryz.ntmps86
 go_wp2_with fail
 go_loopw [4,5] (fun ox ix wr => ∃ k:Nat,k≤l.length∧ix = .int .i64 k∧Hid (wr.ownsRow w.heap.size 82 2 ox k (((l.take k).map frOf).flatMap FrT.cells))∧Hid (allOk (l.take k)=true)∧Hid (Below w.heap.size w wr)) (fun _ ix _ => l.length-(intOf ix).toNat)
 case atStart => exact ⟨0,Nat.zero_le _,rfl,World.ownsRow_nil _ _ _ _,rfl,Below.refl _ _⟩
 case round =>
  obtain ⟨k,hk,rfl,HO,HA,HB⟩:=hrel
  have k0:(0:Int)≤(k:Int):=Int.natCast_nonneg _
  by_cases hkl:k<l.length
  ·have k1:(k:Int)<(l.length:Int):=by omega
   obtain ⟨g,rfl,hg,hcs⟩:=HR.out (by omega)
   obtain ⟨sb1,sA1,sl1,sc1,sb2,sA2,sl2,sc2,y0,y1,y2,y3,hE⟩:=hcs k hkl
   have HE:=zh hE
   have y0:=(HB.out.cell (p:=⟨g,k*4,none⟩) hg).trans y0
   have y1:=(HB.out.cell (p:=⟨g,k*4+1,none⟩) hg).trans y1
   have y2:=(HB.out.cell (p:=⟨g,k*4+2,none⟩) hg).trans y2
   have y3:=(HB.out.cell (p:=⟨g,k*4+3,none⟩) hg).trans y3
   have HTk:Hid (l.take (k+1)=l.take k ++ [l[k]]):=take_snoc l k hkl
   have HNo:=zh (fun h:fracOk l[k]=false => allOk_false hkl h)
   clear hE hg hcs
   generalize l[k]=q at *
   go_wp2_with fail
   refine (rgFraction _ q K _ (HE.out.grow HB.out) HK.out).mono ?_
   rintro e w5 ⟨rfl,hb5⟩
   have HB5:=zh (HB.out.trans (hb5.mono HB.out.size))
   have HO5:=zh (ownF_below HO.out hb5)
   clear hb5 y0 y1 y2 y3
   cases hq:fracOk q with
   | true =>
    rw [fracV_ok hq]
    have HQ:=zh hq
    have hbs:=HB5.out.size
    have HOa:=zh ((HO5.out.alloc (.cells #[.int .i64 q.num,.int .i64 (q.den:Int)] 82)).alloc (.cells #[.int .i64 q.num,.int .i64 (q.den:Int)] 82))
    have hnew:=World.news_of_block (Blk.new (w5.alloc (.cells #[.int .i64 q.num,.int .i64 (q.den:Int)] 82)) 82 #[.int .i64 q.num,.int .i64 (q.den:Int)])
    rw [World.size_alloc] at hnew
    have Hnew:=zh hnew
    have HAl:Hid (allOk (l.take (k+1))=true):=by
     unfold Hid
     rw [HTk.out]
     unfold allOk
     rw [List.all_append]
     have h:=HA.out
     unfold allOk at h
     rw [h]
     simpa using HQ.out
    clear hq hnew HO HO5
    go_wp2_with (at_builtin;refine wpList_append_own _ rfl _ _ 59 rfl w.heap.size 82 iF (.agg #[.int .i64 0,.int .i64 0]) 2 16 Tryz.underlying59 hiF hzF0 hzF1 hzF2 rfl (by decide) _ _ _ rfl HOa.out ⟨w5.heap.size+1,0,none⟩ 1 1 [.int .i64 q.num,.int .i64 (q.den:Int)] rfl rfl Hnew.out (by simp [Value.oneCell']) (by unfold maxLen;omega) (by omega) (by simp;omega) ?_;intro v' w1 hown' hgrow _;obtain ⟨g',cap',rfl⟩:=ownsRow_succ hown')
    have hb6:=((HB5.out.alloc hbs (.cells #[.int .i64 q.num,.int .i64 (q.den:Int)] 82)).alloc (by simp;omega) (.cells #[.int .i64 q.num,.int .i64 (q.den:Int)] 82)).grown hgrow (by simp;omega) (fun j ej => (HOa.out.lt j ej).1)
    have HB6:=zh hb6
    have hO6:w1.ownsRow w.heap.size 82 2 (.slice (some ⟨g',0,none⟩) (k+1) cap') (k+1) (((l.take (k+1)).map frOf).flatMap FrT.cells):=by
     rw [HTk.out,List.map_append,List.flatMap_append]
     exact hown'
    have HO6:=zh hO6
    clear hb6 hO6 hown' hgrow HOa HB5 HB HA
    go_roundw
    case rel => exact ⟨k+1,by omega,by go_num,HO6,HAl,HB6⟩
    case measure => simp [intOf];omega
   | false =>
    rw [fracV_no hq]
    have HQ:=zh (HNo.out hq)
    have hbs:=HB5.out.size
    have HB6:=zh (HB5.out.alloc hbs (.cells #[.int .i64 0,.int .i64 0] 82))
    clear hq HO HO5
    go_wp2_with fail
    refine bodyPost_ret (results_tmp2 rfl _ _ _) (by rfl) ?_
    exact ⟨HB6.out,.inr ⟨HQ.out,rfl⟩⟩
  ·obtain rfl:k=l.length:=by omega
   rw [List.take_length] at HO HA
   go_wp2_with fail
   refine bodyPost_ret (results_tmp2 rfl _ _ _) (by rfl) ?_
   exact ⟨HB.out,.inl ⟨HA.out,_,rfl,HO.out⟩⟩
theorem sgn_zero (x:Rat):(sgnR x == 0)=decide (x=0):=by
 unfold sgnR
 by_cases h:x=0
 ·subst h
  rfl
 ·rw [decide_eq_false h,beq_eq_false_iff_ne]
  by_cases h1:x<0
  ·rw [if_pos h1]
   decide
  ·rw [if_neg h1,if_neg h]
   decide
def gCs (v0:Value):GPost:=⟨fun v => v=v0,fun _ _ => True,⟨_,rfl⟩,fun _ _ _ _ _ => trivial,false⟩
theorem tilt_cmp {b:BeamT} (hb:BeamOk b) (h1:b.sup.length=1):(sgnR (leftR b (supAt b 0)-leftR (turnedT b) (b.len-supAt b 0)) == 0)=tiltOk b:=by
 have h2:=hang_turned hb
 rw [h1] at h2
 have h3:(0:Rat)-leftR b (supAt b 0)=hangR b:=by rw [hang_left];rfl
 rw [sgn_zero]
 unfold tiltOk
 rw [if_pos h1,← h2,← h3]
 have e:b.sup.length-1=0:=by omega
 simp only [Nat.sub_self] at h2 ⊢
 rw [decide_eq_decide]
 constructor
 ·intro h
  grind
 ·intro h
  grind
theorem rgTilts (v:Value) (b:BeamT) (w:World) (hv:BeamAt w w.heap.size v b) (hb:BeamOk b) (hT:∀ (u:Value) (w1:World),BeamAt w1 w1.heap.size u b→Calls Tryz.prog 204 #[u] w1 (TurnedPost b w1)) :
  Calls Tryz.prog 129 #[v] w fun e w' => e = .returned (.bool (!tiltOk b))∧Below w.heap.size w w':=by
 have HV0:=hv
 obtain ⟨As,cs,Al,cl,rfl,hS,-⟩:=hv
 obtain ⟨_,_,e,_,hcs,hSc⟩:=hS.open_
 injection e with e1 _ e2
 subst e1 e2
 have h1:=hb.sup1
 have h4:=hb.sup 0 h1.1
 unfold maxLen at hcs
 obtain ⟨bs,os,rfl,hbs,hSx⟩:=hSc 0 h1.1
 have hS0:=hSx 0 h1.1
 have e0:b.sup[0]'h1.1=supAt b 0:=by unfold supAt;rw [List.getD_eq_getElem?_getD,List.getElem?_eq_getElem h1.1];rfl
 rw [e0,Nat.add_zero] at hS0
 have Hb:=zh hb
 have HT:=zh hT
 have HA0:=zh h4
 have HbW:=zh ((Below.refl _ w).alloc (Nat.le_refl _) (.cells #[.string b.name,.int .i64 b.len,.slice (some ⟨bs,os,none⟩) b.sup.length cs,.slice Al b.loads.length cl,.int .i64 b.even] 122))
 have HV:=zh (HV0.grow HbW.out)
 have HB1:=zh (Blk.new w 122 #[.string b.name,.int .i64 b.len,.slice (some ⟨bs,os,none⟩) b.sup.length cs,.slice Al b.loads.length cl,.int .i64 b.even])
 have z0:=(HbW.out.cell (p:=⟨bs,os,none⟩) hbs).trans hS0
 have s0:(0:Int)<(b.sup.length:Int):=by omega
 have HTi:=zh (tilt_cmp hb)
 have HTn:Hid (b.sup.length≠1→tiltOk b=true):=fun h => by unfold tiltOk;rw [if_neg h]
 clear hSc hSx hb hS hT HV0 h4 e0 hS0
 go_enter Tryz.func129,Tryz.ntmps129
 go_upto_region 1 with fail
 generalize w.alloc (.cells #[.string b.name,.int .i64 b.len,.slice (some ⟨bs,os,none⟩) b.sup.length cs,.slice Al b.loads.length cl,.int .i64 b.even] 122)=W1 at *
 have y0:=HB1.out.cell 0
 have y1:=HB1.out.cell 1
 have y2:=HB1.out.cell 2
 have y3:=HB1.out.cell 3
 have y4:=HB1.out.cell 4
 simp only [zq1,zq2,zq3] at y0 y1 y2 y3 y4
 generalize supAt b 0=sa at *
 by_cases hn:b.sup.length=1
 ·have hd:((b.sup.length:Int) == 1)=true:=beq_iff_eq.2 (by omega)
  have HTc:=zh (HTi.out hn)
  clear hn HTi HTn
  have uy0:=HeldB.cell y0
  have uy1:=HeldB.cell y1
  have uy2:=HeldB.cell y2
  have uy3:=HeldB.cell y3
  have uy4:=HeldB.cell y4
  have uz0:=HeldB.cell z0
  clear y0 y1 y2 y3 y4 z0
  refine wp_region_grow 20 (fun jx => if jx=10 then some (gEq (leftR b sa) 1270) else if jx=16 then some (gEq (leftR (turnedT b) (b.len-sa)) 1270) else if jx=17 then some (gCs (.int .i64 (sgnR (leftR b sa-leftR (turnedT b) (b.len-sa))))) else none) (by kernel_rfl) (by kernel_rfl) ?_
  simp only [zt1,zt2,zt3,zt4]
  first | refine wpG_quiet1W (by first | rfl | go_simp) rfl rfl ?_ | refine wpG_pickW rfl (by first | rfl | go_simp) rfl ?_
  go_big_quiet_step (fail)
  refine wpQuiet_nil ?_
  first | refine wpG_quiet1W (by first | rfl | go_simp) rfl rfl ?_ | refine wpG_pickW rfl (by first | rfl | go_simp) rfl ?_
  go_big_quiet_step (fail)
  refine wpQuiet_nil ?_
  first | refine wpG_quiet1W (by first | rfl | go_simp) rfl rfl ?_ | refine wpG_pickW rfl (by first | rfl | go_simp) rfl ?_
  go_big_quiet_step (fail)
  refine wpQuiet_nil ?_
  first | refine wpG_quiet1W (by first | rfl | go_simp) rfl rfl ?_ | refine wpG_pickW rfl (by first | rfl | go_simp) rfl ?_
  go_big_quiet_step (fail)
  refine wpQuiet_nil ?_
  first | refine wpG_quiet1W (by first | rfl | go_simp) rfl rfl ?_ | refine wpG_pickW rfl (by first | rfl | go_simp) rfl ?_
  go_big_quiet_step (fail)
  refine wpQuiet_nil ?_
  first | refine wpG_quiet1W (by first | rfl | go_simp) rfl rfl ?_ | refine wpG_pickW rfl (by first | rfl | go_simp) rfl ?_
  go_big_quiet_step (fail)
  refine wpQuiet_nil ?_
  first | refine wpG_quiet1W (by first | rfl | go_simp) rfl rfl ?_ | refine wpG_pickW rfl (by first | rfl | go_simp) rfl ?_
  go_big_quiet_step (fail)
  refine wpQuiet_nil ?_
  first | refine wpG_quiet1W (by first | rfl | go_simp) rfl rfl ?_ | refine wpG_pickW rfl (by first | rfl | go_simp) rfl ?_
  go_big_quiet_step (fail)
  refine wpQuiet_nil ?_
  first | refine wpG_quiet1W (by first | rfl | go_simp) rfl rfl ?_ | refine wpG_pickW rfl (by first | rfl | go_simp) rfl ?_
  go_big_quiet_step (fail)
  refine wpQuiet_nil ?_
  first | refine wpG_quiet1W (by first | rfl | go_simp) rfl rfl ?_ | refine wpG_pickW rfl (by first | rfl | go_simp) rfl ?_
  go_big_quiet_step (fail)
  refine wpQuiet_nil ?_
  refine wpG_callW (by first | rfl | go_simp) rfl (fun w1 hb1 _ => ⟨168,#[.agg #[.string b.name,.int .i64 b.len,.slice (some ⟨bs,os,none⟩) b.sup.length cs,.slice Al b.loads.length cl,.int .i64 b.even],.int .i64 sa],by go_simp,Zg (rgLeft _ b sa w1 (HV.out.grow hb1) Hb.out HA0.out.1 HA0.out.2)⟩) ?_
  rintro _ ⟨r13b1,r13A1,r13l1,r13c1,r13b2,r13A2,r13l2,r13c2,rfl⟩
  simp only [Act.put,zs1,zs2,zs3]
  first | refine wpG_quiet1W (by first | rfl | go_simp) rfl rfl ?_ | refine wpG_pickW rfl (by first | rfl | go_simp) rfl ?_
  go_big_quiet_step (fail)
  refine wpQuiet_nil ?_
  first | refine wpG_quiet1W (by first | rfl | go_simp) rfl rfl ?_ | refine wpG_pickW rfl (by first | rfl | go_simp) rfl ?_
  go_big_quiet_step (fail)
  refine wpQuiet_nil ?_
  first | refine wpG_quiet1W (by first | rfl | go_simp) rfl rfl ?_ | refine wpG_pickW rfl (by first | rfl | go_simp) rfl ?_
  go_big_quiet_step (fail)
  refine wpQuiet_nil ?_
  first | refine wpG_quiet1W (by first | rfl | go_simp) rfl rfl ?_ | refine wpG_pickW rfl (by first | rfl | go_simp) rfl ?_
  go_big_quiet_step (fail)
  refine wpQuiet_nil ?_
  first | refine wpG_quiet1W (by first | rfl | go_simp) rfl rfl ?_ | refine wpG_pickW rfl (by first | rfl | go_simp) rfl ?_
  go_big_quiet_step (fail)
  refine wpQuiet_nil ?_
  refine wpG_callW (by first | rfl | go_simp) rfl (fun w1 hb1 _ => ⟨169,#[.agg #[.string b.name,.int .i64 b.len,.slice (some ⟨bs,os,none⟩) b.sup.length cs,.slice Al b.loads.length cl,.int .i64 b.even],.int .i64 sa],by go_simp,Zg (rgRightOf _ b sa w1 (HV.out.grow hb1) Hb.out HA0.out.1 HA0.out.2 HT.out)⟩) ?_
  rintro _ ⟨r19b1,r19A1,r19l1,r19c1,r19b2,r19A2,r19l2,r19c2,rfl⟩
  simp only [Act.put,zs1,zs2,zs3]
  refine wpG_callW (by first | rfl | go_simp) rfl ?_ ?_
  ·intro w1 hb1 hk
   have h13:ExqAt w1 w1.heap.size (.agg #[.bool r13b1,.slice r13A1 r13l1 r13c1,.bool r13b2,.slice r13A2 r13l2 r13c2]) (leftR b sa) (1270):=hk 13 (of_decide_eq_true (by kernel_rfl))
   have h19:ExqAt w1 w1.heap.size (.agg #[.bool r19b1,.slice r19A1 r19l1 r19c1,.bool r19b2,.slice r19A2 r19l2 r19c2]) (leftR (turnedT b) (b.len-sa)) (1270):=hk 19 (of_decide_eq_true (by kernel_rfl))
   exact ⟨167,#[.agg #[.bool r13b1,.slice r13A1 r13l1 r13c1,.bool r13b2,.slice r13A2 r13l2 r13c2],.agg #[.bool r19b1,.slice r19A1 r19l1 r19c1,.bool r19b2,.slice r19A2 r19l2 r19c2]],by go_simp,(rgCmp _ _ (leftR b sa) (leftR (turnedT b) (b.len-sa)) 1270 1270 w1 h13 h19 (by decide)).mono fun _ _ hp => ⟨_,hp.1,hp.2,rfl,trivial⟩⟩
  rintro _ rfl
  simp only [Act.put,zs1,zs2,zs3]
  have HTd:Hid ((!(sgnR (leftR b sa-leftR (turnedT b) (b.len-sa)) == 0)) = !tiltOk b):=by unfold Hid;rw [HTc.out]
  generalize sgnR (leftR b sa-leftR (turnedT b) (b.len-sa))=z at *
  first | refine wpG_quiet1W (by first | rfl | go_simp) rfl rfl ?_ | refine wpG_pickW rfl (by first | rfl | go_simp) rfl ?_
  go_big_quiet_step (fail)
  refine wpQuiet_nil ?_
  first | refine wpG_quiet1W (by first | rfl | go_simp) rfl rfl ?_ | refine wpG_pickW rfl (by first | rfl | go_simp) rfl ?_
  go_big_quiet_step (fail)
  refine wpQuiet_nil ?_
  refine Zc ?_
  intro w8 hb8 hF
  have HB8:=zh (HbW.out.trans (hb8.mono HbW.out.size))
  clear hF hb8
  go_wp2_with fail
  go_ret
  exact ⟨congrArg (fun x => Ending.returned (.bool x)) HTd.out,HB8.out⟩
 ·have hd:((b.sup.length:Int) == 1)=false:=beq_eq_false_iff_ne.2 (by omega)
  have HTd:Hid (false = !tiltOk b):=by unfold Hid;rw [HTn.out hn];rfl
  have HB8:=zh (Zf HbW.out)
  clear hn HTi HTn
  go_quiet (fail)
  go_wp2_with fail
  go_ret
  exact ⟨congrArg (fun x => Ending.returned (.bool x)) HTd.out,HB8.out _⟩
theorem all_no20 {b:BeamT} {k:Nat} (hk:k<b.loads.length) (h:loadOk b.len b.loads[k]=false):okBm b=false:=by
 unfold okBm
 have:b.loads.all (loadOk b.len)=false:=by
  rw [List.all_eq_false]
  exact ⟨b.loads[k],List.getElem_mem hk,by rw [h];decide⟩
 rw [this,Bool.and_false]
theorem all_yes {b:BeamT} (h1:okHead b=true) (h2:supsGood b b.sup.length=true) (h3:(b.loads.take b.loads.length).all (loadOk b.len)=true):okBm b=true:=by
 rw [List.take_length] at h3
 unfold okBm
 rw [h1,h2,h3]
 rfl
theorem rgValid (v:Value) (b:BeamT) (w:World) (hv:BeamAt w w.heap.size v b) (hn:b.name.size≤maxLen):Calls Tryz.prog 128 #[v] w fun e w' => e = .returned (.bool (okBm b))∧Below w.heap.size w w':=by
 obtain ⟨As,cs,Al,cl,rfl,hS,hL⟩:=hv
 have HN:=fun W => refIsName b.name hn W
 obtain ⟨_,_,e,hs1,hs2,hSc⟩:=hS.open_
 injection e with e1 _ e2
 subst e1 e2
 obtain ⟨_,_,e,hl1,hl2,hLc⟩:=hL.open_
 injection e with e1 _ e2
 subst e1 e2
 unfold maxLen at hs2 hl2
 have HSc:=zh hSc
 have HLc:=zh hLc
 have HD:=zh (Blk.new w 122 #[.string b.name,.int .i64 b.len,.slice As b.sup.length cs,.slice Al b.loads.length cl,.int .i64 b.even])
 have HB:=zh ((Below.refl _ w).alloc (Nat.le_refl _) (.cells #[.string b.name,.int .i64 b.len,.slice As b.sup.length cs,.slice Al b.loads.length cl,.int .i64 b.even] 122))
 clear hS hSc hn hL hLc
 go_enter Tryz.func128,Tryz.ntmps128
 go_wp2_with (exact Go.WalkKit.wp_stop)
 generalize w.alloc (.cells #[.string b.name,.int .i64 b.len,.slice As b.sup.length cs,.slice Al b.loads.length cl,.int .i64 b.even] 122)=W1 at *
 have y0:=HD.out.cell 0
 have y1:=HD.out.cell 1
 have y2:=HD.out.cell 2
 have y3:=HD.out.cell 3
 have y4:=HD.out.cell 4
 simp only [zq1,zq2,zq3] at y0 y1 y2 y3 y4
 have hn0:=HN W1
 cases d0:nameB b.name with
 | false =>
  rw [d0] at hn0
  have HV:Hid (okBm b=false):=by unfold Hid;refine okBm_head ?_;unfold okHead;simp only [d0];rfl
  go_wp2_with (go_at_call 47;refine hn0.mono ?_;rintro e w' ⟨rfl,rfl⟩)
  go_ret
  exact ⟨Ze HV.out.symm,HB.out⟩
 | true =>
  rw [d0] at hn0
  by_cases c1:b.len<1
  ·have d1:decide (b.len<1)=true:=decide_eq_true c1
   have HV:Hid (okBm b=false):=by unfold Hid;refine okBm_head ?_;unfold okHead;simp only [d0,d1];rfl
   go_wp2_with (go_at_call 47;refine hn0.mono ?_;rintro e w' ⟨rfl,rfl⟩)
   go_ret
   exact ⟨Ze HV.out.symm,HB.out⟩
  have d1:decide (b.len<1)=false:=decide_eq_false c1
  by_cases c2:1048576<b.len
  ·have d2:decide (1048576<b.len)=true:=decide_eq_true c2
   have HV:Hid (okBm b=false):=by unfold Hid;refine okBm_head ?_;unfold okHead;simp only [d0,d1,d2];rfl
   go_wp2_with (go_at_call 47;refine hn0.mono ?_;rintro e w' ⟨rfl,rfl⟩)
   go_ret
   exact ⟨Ze HV.out.symm,HB.out⟩
  have d2:decide (1048576<b.len)=false:=decide_eq_false c2
  by_cases c3:b.even<0
  ·have d3:decide (b.even<0)=true:=decide_eq_true c3
   have HV:Hid (okBm b=false):=by unfold Hid;refine okBm_head ?_;unfold okHead;simp only [d0,d1,d2,d3];rfl
   go_wp2_with (go_at_call 47;refine hn0.mono ?_;rintro e w' ⟨rfl,rfl⟩)
   go_ret
   exact ⟨Ze HV.out.symm,HB.out⟩
  have d3:decide (b.even<0)=false:=decide_eq_false c3
  by_cases c4:1048576<b.even
  ·have d4:decide (1048576<b.even)=true:=decide_eq_true c4
   have HV:Hid (okBm b=false):=by unfold Hid;refine okBm_head ?_;unfold okHead;simp only [d0,d1,d2,d3,d4];rfl
   go_wp2_with (go_at_call 47;refine hn0.mono ?_;rintro e w' ⟨rfl,rfl⟩)
   go_ret
   exact ⟨Ze HV.out.symm,HB.out⟩
  have d4:decide (1048576<b.even)=false:=decide_eq_false c4
  by_cases c5:(b.sup.length:Int)<1
  ·have d5:decide ((b.sup.length:Int)<1)=true:=decide_eq_true c5
   have HV:Hid (okBm b=false):=by unfold Hid;refine okBm_head ?_;unfold okHead;simp only [d0,d1,d2,d3,d4,d5];rfl
   go_wp2_with (go_at_call 47;refine hn0.mono ?_;rintro e w' ⟨rfl,rfl⟩)
   go_ret
   exact ⟨Ze HV.out.symm,HB.out⟩
  have d5:decide ((b.sup.length:Int)<1)=false:=decide_eq_false c5
  by_cases c6:10<(b.sup.length:Int)
  ·have d6:decide (10<(b.sup.length:Int))=true:=decide_eq_true c6
   have HV:Hid (okBm b=false):=by unfold Hid;refine okBm_head ?_;unfold okHead;simp only [d0,d1,d2,d3,d4,d5,d6];rfl
   go_wp2_with (go_at_call 47;refine hn0.mono ?_;rintro e w' ⟨rfl,rfl⟩)
   go_ret
   exact ⟨Ze HV.out.symm,HB.out⟩
  have d6:decide (10<(b.sup.length:Int))=false:=decide_eq_false c6
  by_cases c7:40<(b.loads.length:Int)
  ·have d7:decide (40<(b.loads.length:Int))=true:=decide_eq_true c7
   have HV:Hid (okBm b=false):=by unfold Hid;refine okBm_head ?_;unfold okHead;simp only [d0,d1,d2,d3,d4,d5,d6,d7];rfl
   go_wp2_with (go_at_call 47;refine hn0.mono ?_;rintro e w' ⟨rfl,rfl⟩)
   go_ret
   exact ⟨Ze HV.out.symm,HB.out⟩
  have d7:decide (40<(b.loads.length:Int))=false:=decide_eq_false c7
  have HH:Hid (okHead b=true):=by unfold Hid okHead;simp only [d0,d1,d2,d3,d4,d5,d6,d7];rfl
  obtain ⟨bs,os,rfl,hbs,hSx⟩:=HSc.out 0 (by omega)
  have HSx:Hid (∀ j,j<b.sup.length→W1.cell? ⟨bs,os+j,none⟩=some (.int .i64 (supAt b j))):=fun j hj => by
   have h:=(HB.out.cell (p:=⟨bs,os+j,none⟩) hbs).trans (hSx j hj)
   unfold supAt
   rw [List.getD_eq_getElem?_getD,List.getElem?_eq_getElem hj]
   exact h
  clear hSx HSc
  go_wp2_with (go_at_call 47;refine hn0.mono ?_;rintro e w' ⟨rfl,rfl⟩)
  go_loopw [3] (fun x wr => ∃ k:Nat,k≤b.sup.length∧x = .int .i64 k∧Hid (supsGood b k=true)∧∃ q,W1.drewN q=wr) (fun x _ => b.sup.length-(intOf x).toNat)
  case atStart => exact ⟨0,Nat.zero_le _,rfl,supsGood_zero b,0,rfl⟩
  case round =>
   obtain ⟨k,hk,rfl,HG,q,rfl⟩:=hrel
   by_cases hlt:k<b.sup.length
   ·have z:=HSx.out k hlt
    have i1:(0:Int)≤(k:Int):=Int.natCast_nonneg _
    have i2:(k:Int)<(b.sup.length:Int):=by omega
    by_cases e1:supAt b k<0
    ·have f1:decide (supAt b k<0)=true:=decide_eq_true e1
     have HV:Hid (okBm b=false):=okBm_sup hlt (by unfold supGood;rw [f1];rfl)
     go_wp2_with fail
     go_quiet (fail)
     go_wp2_with fail
     go_ret
     exact ⟨Ze HV.out.symm,Zf (Zf HB.out _) _⟩
    have f1:decide (supAt b k<0)=false:=decide_eq_false e1
    by_cases e2:b.len<supAt b k
    ·have f2:decide (b.len<supAt b k)=true:=decide_eq_true e2
     have HV:Hid (okBm b=false):=okBm_sup hlt (by unfold supGood;rw [f1,f2];rfl)
     go_wp2_with fail
     go_quiet (fail)
     go_wp2_with fail
     go_ret
     exact ⟨Ze HV.out.symm,Zf (Zf HB.out _) _⟩
    have f2:decide (b.len<supAt b k)=false:=decide_eq_false e2
    by_cases e3:k=0
    ·have f3':¬ (0:Int)<(k:Int):=by omega
     have f3:decide ((0:Int)<(k:Int))=false:=decide_eq_false f3'
     have f3n:decide (0<k)=false:=decide_eq_false (by omega)
     have HV:Hid (supsGood b (k+1)=true):=supsGood_succ HG.out (by unfold supGood;rw [f1,f2,decide_eq_true e3];rfl)
     clear e3
     go_wp2_with fail
     go_quiet (fail)
     go_wp2_with fail
     go_roundw
     case rel => exact ⟨k+1,hlt,by go_num,HV,_,rfl⟩
     case measure => simp [intOf];omega
    have f3:decide ((0:Int)<(k:Int))=true:=decide_eq_true (by omega)
    have f3n:decide (0<k)=true:=decide_eq_true (by omega)
    have z0:=HSx.out (k-1) (by omega)
    have i4:((k:Int)-1).toNat=k-1:=by omega
    have i5:(0:Int)≤(k:Int)-1:=by omega
    have i6:(k:Int)-1<(b.sup.length:Int):=by omega
    have v1:IntKind.i64.wrap ((k:Int)-1)=(k:Int)-1:=IntWalk.i64_in _ (by omega)
    have E3:Hid (¬ k=0):=e3
    clear e3
    by_cases e4:supAt b k≤supAt b (k-1)
    ·have f4:decide (supAt b k≤supAt b (k-1))=true:=decide_eq_true e4
     have HV:Hid (okBm b=false):=okBm_sup hlt (by unfold supGood;rw [f1,f2,f4,decide_eq_false E3.out];rfl)
     go_wp2_with fail
     go_quiet (fail)
     go_wp2_with fail
     go_ret
     exact ⟨Ze HV.out.symm,Zf (Zf HB.out _) _⟩
    have f4:decide (supAt b k≤supAt b (k-1))=false:=decide_eq_false e4
    have HV:Hid (supsGood b (k+1)=true):=supsGood_succ HG.out (by unfold supGood;rw [f1,f2,f4,decide_eq_false E3.out];rfl)
    go_wp2_with fail
    go_quiet (fail)
    go_wp2_with fail
    go_roundw
    case rel => exact ⟨k+1,hlt,by go_num,HV,_,rfl⟩
    case measure => simp [intOf];omega
   ·have hje:k=b.sup.length:=by omega
    subst hje
    have HBq:=zh (Zf HB.out q)
    have HDq:=zh (HD.out.drewN q)
    clear y0 y1 y4 HSx
    go_wp2_with fail
    have HAl0:Hid ((b.loads.take 0).all (loadOk b.len)=true):=rfl
    generalize W1.drewN q=W2 at *
    go_loopw [4] (fun x wr => ∃ k:Nat,k≤b.loads.length∧x = .int .i64 k∧Hid ((b.loads.take k).all (loadOk b.len)=true)∧Hid (Below w.heap.size w wr∧Blk wr w.heap.size 122 #[.string b.name,.int .i64 b.len,.slice (some ⟨bs,os,none⟩) b.sup.length cs,.slice Al b.loads.length cl,.int .i64 b.even])) (fun x _ => b.loads.length-(intOf x).toNat)
    case atStart => exact ⟨0,Nat.zero_le _,rfl,HAl0,HBq.out,HDq.out⟩
    case round =>
     clear HBq HDq HAl0 HB HD y2 y3
     obtain ⟨k,hk,rfl,HA,HM⟩:=hrel
     have y1:=HM.out.2.cell 1
     have y3:=HM.out.2.cell 3
     simp only [zq1,zq2,zq3] at y1 y3
     have i1:(0:Int)≤(k:Int):=Int.natCast_nonneg _
     by_cases hlt:k<b.loads.length
     ·have i2:(k:Int)<(b.loads.length:Int):=by omega
      obtain ⟨bl,ol,rfl,hbl,hcl⟩:=HLc.out k hlt
      obtain ⟨hx1,hx2⟩:=hcl k hlt
      have hx1:=(HM.out.1.cell (p:=⟨bl,ol+k*2,none⟩) hbl).trans hx1
      have hx2:=(HM.out.1.cell (p:=⟨bl,ol+k*2+1,none⟩) hbl).trans hx2
      have HNo:=zh (fun h => all_no20 (b:=b) hlt h)
      have HYe:Hid (loadOk b.len b.loads[k]=true→(b.loads.take (k+1)).all (loadOk b.len)=true):=fun h => by
       rw [take_snoc b.loads k hlt,List.all_append,HA.out]
       simpa using h
      clear hcl
      generalize b.loads[k]=x at *
      obtain ⟨pos,wt⟩:=x
      simp only at hx1 hx2
      have HBa:Hid (Below w.heap.size w (wr.alloc (.cells #[.int .i64 pos,.int .i64 wt] 162))∧Blk (wr.alloc (.cells #[.int .i64 pos,.int .i64 wt] 162)) w.heap.size 122 #[.string b.name,.int .i64 b.len,.slice (some ⟨bs,os,none⟩) b.sup.length cs,.slice (some ⟨bl,ol,none⟩) b.loads.length cl,.int .i64 b.even]):=⟨HM.out.1.alloc HM.out.1.size _,HM.out.2.alloc _⟩
      have y1a:=HBa.out.2.cell 1
      simp only [zq1,zq2,zq3] at y1a
      clear HM HA
      by_cases c0:pos<0
      ·have d0:decide (pos<0)=true:=decide_eq_true c0
       have HV:Hid (okBm b=false):=HNo.out (by unfold loadOk;simp only [d0];rfl)
       clear HNo HYe
       go_wp2_with fail
       go_ret
       exact ⟨Ze HV.out.symm,HBa.out.1⟩
      have d0:decide (pos<0)=false:=decide_eq_false c0
      by_cases c1:b.len<pos
      ·have d1:decide (b.len<pos)=true:=decide_eq_true c1
       have HV:Hid (okBm b=false):=HNo.out (by unfold loadOk;simp only [d0,d1];rfl)
       clear HNo HYe
       go_wp2_with fail
       go_ret
       exact ⟨Ze HV.out.symm,HBa.out.1⟩
      have d1:decide (b.len<pos)=false:=decide_eq_false c1
      by_cases c2:wt<0
      ·have d2:decide (wt<0)=true:=decide_eq_true c2
       have HV:Hid (okBm b=false):=HNo.out (by unfold loadOk;simp only [d0,d1,d2];rfl)
       clear HNo HYe
       go_wp2_with fail
       go_ret
       exact ⟨Ze HV.out.symm,HBa.out.1⟩
      have d2:decide (wt<0)=false:=decide_eq_false c2
      by_cases c3:67108864<wt
      ·have d3:decide (67108864<wt)=true:=decide_eq_true c3
       have HV:Hid (okBm b=false):=HNo.out (by unfold loadOk;simp only [d0,d1,d2,d3];rfl)
       clear HNo HYe
       go_wp2_with fail
       go_ret
       exact ⟨Ze HV.out.symm,HBa.out.1⟩
      have d3:decide (67108864<wt)=false:=decide_eq_false c3
      have HV:=zh (HYe.out (by unfold loadOk;simp only [d0,d1,d2,d3];rfl))
      clear HNo HYe
      go_wp2_with fail
      go_roundw
      case rel => exact ⟨k+1,hlt,by go_num,HV,HBa⟩
      case measure => simp [intOf];omega
     ·have hje:k=b.loads.length:=by omega
      subst hje
      have HV:=zh (all_yes HH.out HG.out HA.out)
      go_wp2_with fail
      go_ret
      exact ⟨Ze HV.out.symm,HM.out.1⟩
def givenR (b:BeamT):Int:=if okBm b=false then 1 else if tiltOk b=false then 22 else 0
theorem rgGiven (v:Value) (b:BeamT) (w:World) (hv:BeamAt w w.heap.size v b) (hn:b.name.size≤maxLen) (hT:BeamOk b→∀ (u:Value) (w1:World),BeamAt w1 w1.heap.size u b→Calls Tryz.prog 204 #[u] w1 (TurnedPost b w1)):Calls Tryz.prog 85 #[v] w fun e w' => e = .returned (.int .i64 (givenR b))∧Below w.heap.size w w':=by
 have HV0:=hv
 obtain ⟨As,cs,Al,cl,rfl,-⟩:=hv
 have HD:=zh (Blk.new w 122 #[.string b.name,.int .i64 b.len,.slice As b.sup.length cs,.slice Al b.loads.length cl,.int .i64 b.even])
 have HB:=zh ((Below.refl _ w).alloc (Nat.le_refl _) (.cells #[.string b.name,.int .i64 b.len,.slice As b.sup.length cs,.slice Al b.loads.length cl,.int .i64 b.even] 122))
 have HV:=zh (HV0.grow HB.out)
 have HVa:=zh (fun u W h => rgValid u b W h hn)
 have HTi:=zh (fun u h W hW => rgTilts u b W hW h (hT h))
 clear HV0 hn hT
 go_enter Tryz.func85,Tryz.ntmps85
 go_upto_region 1 with fail
 generalize w.alloc (.cells #[.string b.name,.int .i64 b.len,.slice As b.sup.length cs,.slice Al b.loads.length cl,.int .i64 b.even] 122)=W1 at *
 have y0:=HD.out.cell 0
 have y1:=HD.out.cell 1
 have y2:=HD.out.cell 2
 have y3:=HD.out.cell 3
 have y4:=HD.out.cell 4
 simp only [zq1,zq2,zq3] at y0 y1 y2 y3 y4
 go_wp2_with fail
 refine (HVa.out _ W1 HV.out).mono ?_
 rintro e w3 ⟨rfl,hb3⟩
 have HB3:=zh (HB.out.trans (hb3.mono HB.out.size))
 have HV3:=zh (HV.out.grow hb3)
 have hd3:=HD.out.below hb3 HD.out.lt
 clear y0 y1 y2 y3 y4
 have y0:=hd3.cell 0
 have y1:=hd3.cell 1
 have y2:=hd3.cell 2
 have y3:=hd3.cell 3
 have y4:=hd3.cell 4
 simp only [zq1,zq2,zq3] at y0 y1 y2 y3 y4
 clear hb3 HB HV HD HVa hd3
 cases hok:okBm b with
 | false =>
  have HE:Hid (givenR b=1):=if_pos hok
  clear hok
  go_wp2_with fail
  go_ret
  exact ⟨congrArg (fun x => Ending.returned (.int .i64 x)) HE.out.symm,HB3.out⟩
 | true =>
  have HOk:=zh (okBm_ok hok)
  have HE:Hid (givenR b=if tiltOk b=false then 22 else 0):=if_neg (by rw [hok];decide)
  clear hok
  go_wp2_with fail
  refine (HTi.out _ HOk.out w3 HV3.out).mono ?_
  rintro e w4 ⟨rfl,hb4⟩
  have HB4:=zh (HB3.out.trans (hb4.mono HB3.out.size))
  clear hb4 y0 y1 y2 y3 y4
  cases ht:tiltOk b with
  | false =>
   have HE2:Hid (givenR b=22):=HE.out.trans (if_pos ht)
   clear ht HE
   go_wp2_with fail
   go_ret
   exact ⟨congrArg (fun x => Ending.returned (.int .i64 x)) HE2.out.symm,HB4.out⟩
  | true =>
   have HE2:Hid (givenR b=0):=HE.out.trans (if_neg (by rw [ht];decide))
   clear ht HE
   go_wp2_with fail
   go_ret
   exact ⟨congrArg (fun x => Ending.returned (.int .i64 x)) HE2.out.symm,HB4.out⟩
end Go.Proofs.YtfhmbechennkbaaGreatDoor
