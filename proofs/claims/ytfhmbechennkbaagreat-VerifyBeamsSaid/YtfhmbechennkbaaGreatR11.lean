/- Parts of the proof, laid into one text: R51, R51b. -/
import Derived.Test.YtfhmbechennkbaaGreatR10
import Derived.Test.YtfhmbechennkbaaGreatR6
namespace Go.Proofs.YtfhmbechennkbaaGreat
open Go.RowKit Go.Shelf
theorem fr_ne {l1 l2:List FrT} {k:Nat} (h1:k<l1.length) (h2:k<l2.length) (h:l1[k]≠l2[k]):decide (l1=l2)=false:=decide_eq_false fun e => by
 subst e
 exact h rfl
theorem fr_all {l1 l2:List FrT} (hl:l1.length=l2.length) (h:l1.take l1.length=l2.take l1.length):decide (l1=l2)=true:=decide_eq_true (by
 rw [List.take_length,hl,List.take_length] at h
 exact h)
set_option maxRecDepth 100000 in
set_option maxHeartbeats 2000000 in
theorem rf51Equal (v1 v2:Value) (l1 l2:List FrT) (w:World) (h1:FrsAt w w.heap.size v1 l1) (h2:FrsAt w w.heap.size v2 l2):Calls Tryz.prog 22 #[v1,v2] w fun e w' => e = .returned (.bool (decide (l1=l2)))∧Below w.heap.size w w':=by
 obtain ⟨A1,c1,rfl,ha1,ha2,hC1⟩:=h1.open_
 obtain ⟨A2,c2,rfl,hb1,hb2,hC2⟩:=h2.open_
 unfold maxLen at ha2 hb2
 have HC1:=Lib.hid hC1
 have HC2:=Lib.hid hC2
 clear h1 h2 hC1 hC2
 by_cases hl:l1.length=l2.length
 rotate_left
 ·have e0:((l1.length:Int) != (l2.length:Int))=true:=by rw [bne_iff_ne];omega
  have e1:((l1.length:Int) == (l2.length:Int))=false:=beq_eq_false_iff_ne.2 (by omega)
  have HV:Hid (decide (l1=l2)=false):=decide_eq_false fun e => hl (by rw [e])
  clear hl
  go_enter Tryz.func22,Tryz.ntmps22
  go_wp2_with fail
  go_ret
  exact ⟨ret_bool HV.out.symm,Below.refl _ _⟩
 have e0:((l1.length:Int) != (l2.length:Int))=false:=by rw [hl];simp
 have Hl:=Lib.hid hl
 go_enter Tryz.func22,Tryz.ntmps22
 go_wp2_with fail
 clear hl e0
 go_loopw [5] (fun x wr => ∃ k:Nat,k≤l1.length∧x = .int .i64 k∧Hid (l1.take k=l2.take k)∧Hid (Below w.heap.size w wr)) (fun x _ => l1.length-(intOf x).toNat)
 case atStart => exact ⟨0,Nat.zero_le _,rfl,by unfold Hid;rw [List.take_zero,List.take_zero],Below.refl _ _⟩
 case round =>
  obtain ⟨k,hk,rfl,HA,HB⟩:=hrel
  have i1:(0:Int)≤(k:Int):=Int.natCast_nonneg _
  by_cases hlt:k<l1.length
  ·have hlt2:k<l2.length:=by have:=Hl.out;omega
   have i2:(k:Int)<(l1.length:Int):=by omega
   have i3:(k:Int)<(l2.length:Int):=by omega
   obtain ⟨b,o,rfl,hb,hcs⟩:=HC1.out k hlt
   obtain ⟨x0,x1⟩:=hcs k hlt
   obtain ⟨b',o',rfl,hb',hcs'⟩:=HC2.out k hlt2
   obtain ⟨y0,y1⟩:=hcs' k hlt2
   have x0:=(HB.out.cell (p:=⟨b,o+k*2,none⟩) hb).trans x0
   have x1:=(HB.out.cell (p:=⟨b,o+k*2+1,none⟩) hb).trans x1
   have y0:=(HB.out.cell (p:=⟨b',o'+k*2,none⟩) hb').trans y0
   have y1:=(HB.out.cell (p:=⟨b',o'+k*2+1,none⟩) hb').trans y1
   have HNo:=Lib.hid (fun h => fr_ne hlt hlt2 h)
   have HYe:Hid (l1[k]=l2[k]→l1.take (k+1)=l2.take (k+1)):=fun h => by
    rw [take_snoc l1 k hlt,take_snoc l2 k hlt2,HA.out,h]
   clear hcs hcs'
   generalize l1[k]=x at *
   generalize l2[k]=y at *
   obtain ⟨n1,d1⟩:=x
   obtain ⟨n2,d2⟩:=y
   simp only at x0 x1 y0 y1
   by_cases hn:n1=n2
   ·subst hn
    by_cases hd:d1=d2
    ·subst hd
     have HV:=Lib.hid (HYe.out rfl)
     clear HYe HNo
     go_wp2_with fail
     go_region_both
     all_goals
      go_wp2_with fail
      go_roundw
      case rel => exact ⟨k+1,hlt,by go_num,HV,below_drewN HB.out _⟩
      case measure => simp [intOf];omega
    ·have HV:=Lib.hid (HNo.out (fun e => hd (by injection e)))
     have e3:(d1 == d2)=false:=beq_eq_false_iff_ne.2 hd
     have e4:(d1 != d2)=true:=by rw [bne_iff_ne];exact hd
     clear HYe HNo
     go_wp2_with fail
     go_region_both
     all_goals
      go_wp2_with fail
      go_ret
      exact ⟨ret_bool HV.out.symm,below_drewN HB.out _⟩
   ·have HV:=Lib.hid (HNo.out (fun e => hn (by injection e)))
    have e3:(n1 == n2)=false:=beq_eq_false_iff_ne.2 hn
    have e4:(n1 != n2)=true:=by rw [bne_iff_ne];exact hn
    clear HYe HNo
    go_wp2_with fail
    go_region_both
    all_goals
     go_wp2_with fail
     go_ret
     exact ⟨ret_bool HV.out.symm,below_drewN HB.out _⟩
  ·obtain rfl:k=l1.length:=by omega
   have HV:=Lib.hid (fr_all Hl.out HA.out)
   go_wp2_with fail
   go_ret
   exact ⟨ret_bool HV.out.symm,HB.out⟩
theorem FracsPost.uni {l:List Rat} {w w':World} {e:Ending} (h:FracsPost l w e w'):∃ A n c e1,e = .returned (.tuple #[.slice A n c,.int .i64 e1])∧Below w.heap.size w w'∧((allOk l=true∧e1=0∧FrsAt w' w'.heap.size (.slice A n c) (l.map frOf))∨(allOk l=false∧e1=5)):=by
 obtain ⟨hb,⟨h1,v,rfl,h2⟩ | ⟨h1,rfl⟩⟩:=h
 ·have h3:FrsAt w' w'.heap.size v (l.map frOf):=by
   have:=Flat.of_own h2
   unfold FrsAt
   rw [List.length_map]
   exact this
  have h4:=h3
  obtain ⟨A,c,rfl,-⟩:=h4
  exact ⟨A,_,c,0,rfl,hb,.inl ⟨h1,rfl,h3⟩⟩
 ·exact ⟨none,0,0,5,rfl,hb,.inr ⟨h1,rfl⟩⟩
theorem FrsAt.grow {w w':World} {v:Value} {l:List FrT} (h:FrsAt w w.heap.size v l) (hb:Below w.heap.size w w'):FrsAt w' w'.heap.size v l:=(h.below hb (Nat.le_refl _)).mono hb.size
theorem reactL_len (b:BeamT):(reactL b).length=b.sup.length:=by unfold reactL;simp
theorem momL_len (b:BeamT):(momL b).length=b.sup.length:=by unfold momL;simp
set_option maxRecDepth 100000 in
set_option maxHeartbeats 4000000 in
theorem rf51Beam (v:Value) (Ar:Option Addr) (cr:Nat) (Am:Option Addr) (cm:Nat) (b:BeamT) (r m:List FrT) (w:World) (hv:BeamAt w w.heap.size v b) (hn:b.name.size≤maxLen) (hok:okBm b=true) (hr:FrsAt w w.heap.size (.slice Ar r.length cr) r) (hm:FrsAt w w.heap.size (.slice Am m.length cm) m) :
  Calls Tryz.prog 8 #[v,.slice Ar r.length cr,.slice Am m.length cm] w fun e w' => e = .returned (.bool (beamIs b r m))∧Below w.heap.size w w':=by
 have hb:=okBm_ok hok
 have HT:=Lib.hid (fun (u:Value) (w1:World) (h:BeamAt w1 w1.heap.size u b) => rgTurned u b w1 h hb)
 have HV0:=hv
 obtain ⟨As,cs,Al,cl,rfl,-⟩:=hv
 have HD:=Lib.hid (Blk.new w 25 #[.string b.name,.int .i64 b.len,.slice As b.sup.length cs,.slice Al b.loads.length cl,.int .i64 b.even])
 have HB:=Lib.hid ((Below.refl _ w).alloc (Nat.le_refl _) (.cells #[.string b.name,.int .i64 b.len,.slice As b.sup.length cs,.slice Al b.loads.length cl,.int .i64 b.even] 25))
 have HV:=Lib.hid (HV0.grow HB.out)
 have HR:=Lib.hid (hr.grow HB.out)
 have HM:=Lib.hid (hm.grow HB.out)
 have HGi:=Lib.hid (fun u W h => rgGiven u b W h hn (fun _ => HT.out))
 have Hb:=Lib.hid hb
 have HOk:=Lib.hid hok
 have hl:=hb.sup1
 have Hl:=Lib.hid hl.2
 clear HV0 hn hb hok hr hm hl
 go_enter Tryz.func8,Tryz.ntmps8
 go_upto_region 1 with fail
 generalize w.alloc (.cells #[.string b.name,.int .i64 b.len,.slice As b.sup.length cs,.slice Al b.loads.length cl,.int .i64 b.even] 25)=W1 at *
 have y0:=HD.out.cell 0
 have y1:=HD.out.cell 1
 have y2:=HD.out.cell 2
 have y3:=HD.out.cell 3
 have y4:=HD.out.cell 4
 simp only [zq1,zq2,zq3] at y0 y1 y2 y3 y4
 go_wp2_with fail
 refine (HGi.out _ W1 HV.out).mono ?_
 rintro e w3 ⟨rfl,hb3⟩
 have HB3:=Lib.hid (HB.out.trans (hb3.mono HB.out.size))
 have HV3:=Lib.hid (HV.out.grow hb3)
 have HR3:=Lib.hid (HR.out.grow hb3)
 have HM3:=Lib.hid (HM.out.grow hb3)
 have HD3:=Lib.hid (HD.out.below hb3 HD.out.lt)
 clear y0 y1 y2 y3 y4 hb3 HB HV HR HM HD HGi
 cases ht:tiltOk b with
 | false =>
  have HI:Hid (beamIs b r m=false):=by unfold Hid beamIs;rw [ht];rfl
  have hg:givenR b=22:=by unfold givenR;rw [if_neg (by rw [HOk.out];decide),if_pos ht]
  rw [hg]
  clear hg ht
  go_wp2_with fail
  go_ret
  exact ⟨ret_bool HI.out.symm,HB3.out⟩
 | true =>
  have hg:givenR b=0:=by unfold givenR;rw [if_neg (by rw [HOk.out];decide),if_neg (by rw [ht];decide)]
  rw [hg]
  have HTi:=Lib.hid ht
  have y0:=HD3.out.cell 0
  have y1:=HD3.out.cell 1
  have y2:=HD3.out.cell 2
  have y3:=HD3.out.cell 3
  have y4:=HD3.out.cell 4
  simp only [zq1,zq2,zq3] at y0 y1 y2 y3 y4
  clear hg ht
  go_wp2_with fail
  refine (rgReactions _ b w3 HV3.out Hb.out HTi.out HT.out).mono ?_
  rintro e w4 ⟨hb4,v4,rfl,hE4⟩
  have hE4':=hE4
  obtain ⟨A4,c4,e4,-⟩:=hE4'
  have HE4:=Lib.hid hE4
  rw [e4] at HE4 ⊢
  have HB4:=Lib.hid (HB3.out.trans (hb4.mono HB3.out.size))
  have HV4:=Lib.hid (HV3.out.grow hb4)
  have HR4:=Lib.hid (HR3.out.grow hb4)
  have HM4:=Lib.hid (HM3.out.grow hb4)
  have HD4:=Lib.hid (HD3.out.below hb4 HD3.out.lt)
  clear hb4 hE4 e4 y0 y1 y2 y3 y4 HB3 HV3 HR3 HM3 HD3
  go_wp2_with fail
  refine (rgTold _ (reactL b) 280000 w4 HE4.out (by decide) (by rw [reactL_len];have:=Hl.out;omega)).mono ?_
  rintro e w5 hF5
  obtain ⟨A5,n5,c5,e5,rfl,hb5,hf5⟩:=hF5.uni
  have HF5:=Lib.hid hf5
  have HB5:=Lib.hid (HB4.out.trans (hb5.mono HB4.out.size))
  have HV5:=Lib.hid (HV4.out.grow hb5)
  have HR5:=Lib.hid (HR4.out.grow hb5)
  have HM5:=Lib.hid (HM4.out.grow hb5)
  have hd5:=HD4.out.below hb5 HD4.out.lt
  have y0:=hd5.cell 0
  have y1:=hd5.cell 1
  have y2:=hd5.cell 2
  have y3:=hd5.cell 3
  have y4:=hd5.cell 4
  simp only [zq1,zq2,zq3] at y0 y1 y2 y3 y4
  clear hb5 hf5 hF5 HB4 HV4 HR4 HM4 HD4 HE4 hd5
  go_wp2_with fail
  refine (rgMoments _ b w5 HV5.out Hb.out HTi.out HT.out).mono ?_
  rintro e w6 ⟨hb6,g6,rfl,hE6⟩
  have HE6:=Lib.hid (hE6.eqs (by have:=Hl.out;unfold maxLen;omega))
  have HF6:Hid (allOk (reactL b)=true∧e5=0∧FrsAt w6 w6.heap.size (.slice A5 n5 c5) ((reactL b).map frOf)∨allOk (reactL b)=false∧e5=5):=by
   rcases HF5.out with ⟨h1,h2,h3⟩ | h
   ·exact .inl ⟨h1,h2,h3.grow hb6⟩
   ·exact .inr h
  have HB6:=Lib.hid (HB5.out.trans (hb6.mono HB5.out.size))
  have HR6:=Lib.hid (HR5.out.grow hb6)
  have HM6:=Lib.hid (HM5.out.grow hb6)
  clear hb6 hE6 y0 y1 y2 y3 y4 HB5 HV5 HR5 HM5 HF5
  go_wp2_with fail
  refine (rgTold _ (momL b) 67530 w6 HE6.out (by decide) (by rw [momL_len];have:=Hl.out;omega)).mono ?_
  rintro e w7 hF7
  obtain ⟨A7,n7,c7,e7,rfl,hb7,hf7⟩:=hF7.uni
  have HF7:=Lib.hid hf7
  have HF8:Hid (allOk (reactL b)=true∧e5=0∧FrsAt w7 w7.heap.size (.slice A5 n5 c5) ((reactL b).map frOf)∨allOk (reactL b)=false∧e5=5):=by
   rcases HF6.out with ⟨h1,h2,h3⟩ | h
   ·exact .inl ⟨h1,h2,h3.grow hb7⟩
   ·exact .inr h
  have HB7:=Lib.hid (HB6.out.trans (hb7.mono HB6.out.size))
  have HR7:=Lib.hid (HR6.out.grow hb7)
  have HM7:=Lib.hid (HM6.out.grow hb7)
  clear hb7 hf7 hF7 HB6 HR6 HM6 HE6 HF6
  rcases HF8.out with ⟨hr1,rfl,hr3⟩ | ⟨hr1,rfl⟩
  rotate_left
  ·have HI:Hid (beamIs b r m=false):=by unfold Hid beamIs;rw [hr1,Bool.and_false];rfl
   clear hr1
   go_wp2_with fail
   go_ret
   exact ⟨ret_bool HI.out.symm,HB7.out⟩
  rcases HF7.out with ⟨hm1,rfl,hm3⟩ | ⟨hm1,rfl⟩
  rotate_left
  ·have HI:Hid (beamIs b r m=false):=by unfold Hid beamIs;rw [hm1,Bool.and_false];rfl
   clear hr1 hr3 hm1
   go_wp2_with fail
   go_ret
   exact ⟨ret_bool HI.out.symm,HB7.out⟩
  have HI:=Lib.hid (beamIs_all (r:=r) (m:=m) HTi.out hr1 hm1)
  have HX:=Lib.hid hr3
  have HY:=Lib.hid hm3
  clear hr1 hr3 hm1 hm3 HF7 HF8
  go_wp2_with fail
  refine (rf51Equal _ _ r ((reactL b).map frOf) w7 HR7.out HX.out).mono ?_
  rintro e w8 ⟨rfl,hb8⟩
  have HB8:=Lib.hid (HB7.out.trans (hb8.mono HB7.out.size))
  have HM8:=Lib.hid (HM7.out.grow hb8)
  have HY8:=Lib.hid (HY.out.grow hb8)
  clear hb8 HB7 HR7 HM7 HX HY
  cases hq:decide (r=(reactL b).map frOf) with
  | false =>
   have HI2:Hid (beamIs b r m=false):=by rw [hq] at HI;exact HI.out
   clear hq HI
   go_wp2_with fail
   go_ret
   exact ⟨ret_bool HI2.out.symm,HB8.out⟩
  | true =>
   have HI2:Hid (beamIs b r m=decide (m=(momL b).map frOf)):=by rw [hq] at HI;exact HI.out.trans (Bool.true_and _)
   clear hq HI
   go_wp2_with fail
   refine (rf51Equal _ _ m ((momL b).map frOf) w8 HM8.out HY8.out).mono ?_
   rintro e w9 ⟨rfl,hb9⟩
   have HB9:=Lib.hid (HB8.out.trans (hb9.mono HB8.out.size))
   clear hb9 HB8 HM8 HY8
   generalize decide (m=(momL b).map frOf)=z at *
   go_wp2_with fail
   go_ret
   exact ⟨ret_bool HI2.out.symm,HB9.out⟩
end Go.Proofs.YtfhmbechennkbaaGreat
