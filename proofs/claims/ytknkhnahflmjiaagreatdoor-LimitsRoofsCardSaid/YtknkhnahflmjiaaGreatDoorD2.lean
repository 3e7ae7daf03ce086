/- Lemmas. -/
import Derived.Test.YtknkhnahflmjiaaGreatDoorD1
namespace Go.Proofs.YtknkhnahflmjiaaGreatDoor
set_option maxRecDepth 100000
set_option maxHeartbeats 40000000
open Go.RowKit Go.Shelf
def setB (s:SetT):Bool:=nameB s.name&&(Zw s.depth 0 1048576&&(decide (0≤s.low)&&(decide (s.low≤s.high)&&(decide (s.high≤1048576)&&(Zw s.len 1000 1048576&&((s.len % 1000==0)&&(linesB s.lines s.len&&(Zw s.pipe 0 1048576&&(Zw s.arbor 0 1048576&&(Zw s.purch 1 2&&(Zw s.most 1 67108864&&(Zw s.brake 0 67108864&&(itemsB s.items s.len&&(bricksB s.bricks))))))))))))))
structure SetNames (s:SetT):Prop where
 name:s.name.size≤maxLen
 items:∀ x∈s.items,x.name.size≤maxLen
 bricks:∀ x∈s.bricks,x.name.size≤maxLen
theorem batValid (v:Value) (s:SetT) (w:World) (hv:SetAt w w.heap.size v s) (hn:SetNames s) :
  Calls Tryz.prog 87 #[v] w fun e w'=>e = .returned (.bool (setB s))∧Below w.heap.size w w':=by
 obtain⟨Al,cl,Ai,ci,Ab,cb,rfl,hL,hI,hB⟩:=hv
 have hnm:=fun W=>decIsName s.name hn.name W
 have HLi:=zh fun W (hb:Below w.heap.size w W)=>batLines _ s.lines s.len W.heap.size W ((RowAt.below hL hb (yA _)).mono hb.size)
 have HIt:=zh fun hlen W (hb:Below w.heap.size w W)=>batItems _ s.items s.len W ((hI.below hb (yA _)).mono hb.size) hn.items hlen
 have HBr:=zh fun W (hb:Below w.heap.size w W)=>batBricks _ s.bricks W ((hB.below hb (yA _)).mono hb.size) hn.bricks
 have HV:Hid (setB s=(nameB s.name&&(Zw s.depth 0 1048576&&(decide (0≤s.low)&&(decide (s.low≤s.high)&&(decide (s.high≤1048576)&&(Zw s.len 1000 1048576&&((s.len % 1000==0)&&(linesB s.lines s.len&&(Zw s.pipe 0 1048576&&(Zw s.arbor 0 1048576&&(Zw s.purch 1 2&&(Zw s.most 1 67108864&&(Zw s.brake 0 67108864&&(itemsB s.items s.len&&(bricksB s.bricks)))))))))))))))):=rfl
 have HD:=zh (Blk.new w 37 (zA s Al cl Ai ci Ab cb))
 have HB1:=zh ((yB _ w).alloc (yA _) (.cells (zA s Al cl Ai ci Ab cb) 37))
 clear hL hI hB hn
 unfold setVal
 go_enter Tryz.func87,Tryz.ntmps87
 go_wp2_with (go_at_call 126;fail)
 go_at_call 126
 generalize w.alloc (.cells (zA s Al cl Ai ci Ab cb) 37)=W1 at *
 have z0:=HD.out.cell 0;have z1:=HD.out.cell 1;have z2:=HD.out.cell 2;have z3:=HD.out.cell 3;have z4:=HD.out.cell 4;have z5:=HD.out.cell 5;have z6:=HD.out.cell 6;have z7:=HD.out.cell 7;have z8:=HD.out.cell 8;have z9:=HD.out.cell 9;have z10:=HD.out.cell 10;have z11:=HD.out.cell 11;have z12:=HD.out.cell 12
 simp only[zq1,zq2,zq3] at z0 z1 z2 z3 z4 z5 z6 z7 z8 z9 z10 z11 z12
 refine (hnm _).mono ?_
 rintro e w' ⟨rfl,rfl⟩
 rcases yL (nameB s.name) with h0 | h0
 rotate_left
 ·have HV2:Hid (setB s=false):=by unfold Hid;rw[HV.out,h0];simp only[Bool.false_and]
  rw[h0]
  go_wp2_with fail
  go_ret
  exact⟨Ze HV2.out.symm,HB1.out⟩
 rw[h0] at HV ⊢
 clear h0
 go_wp2_with (go_at_call 127;fail)
 go_at_call 127
 refine (Zn _ _ _ _).mono ?_
 rintro e w' ⟨rfl,rfl⟩
 rcases yL (Zw s.depth 0 1048576) with h1 | h1
 rotate_left
 ·have HV2:Hid (setB s=false):=by unfold Hid;rw[HV.out,h1];simp only[Bool.false_and,Bool.and_false]
  rw[h1]
  go_wp2_with fail
  go_ret
  exact⟨Ze HV2.out.symm,HB1.out⟩
 rw[h1] at HV ⊢
 clear h1
 rcases yL (decide (0≤s.low)) with h2 | h2
 rotate_left
 ·have HV2:Hid (setB s=false):=by unfold Hid;rw[HV.out,h2];simp only[Bool.false_and,Bool.and_false]
  go_wp2_with fail
  go_ret
  exact⟨Ze HV2.out.symm,HB1.out⟩
 rw[h2] at HV
 rcases yL (decide (s.low≤s.high)) with h3 | h3
 rotate_left
 ·have HV2:Hid (setB s=false):=by unfold Hid;rw[HV.out,h3];simp only[Bool.false_and,Bool.and_false]
  go_wp2_with fail
  go_ret
  exact⟨Ze HV2.out.symm,HB1.out⟩
 rw[h3] at HV
 rcases yL (decide (s.high≤1048576)) with h4 | h4
 rotate_left
 ·have HV2:Hid (setB s=false):=by unfold Hid;rw[HV.out,h4];simp only[Bool.false_and,Bool.and_false]
  go_wp2_with fail
  go_ret
  exact⟨Ze HV2.out.symm,HB1.out⟩
 rw[h4] at HV
 go_wp2_with (go_at_call 127;fail)
 go_at_call 127
 refine (Zn _ _ _ _).mono ?_
 rintro e w' ⟨rfl,rfl⟩
 rcases yL (Zw s.len 1000 1048576) with h5 | h5
 rotate_left
 ·have HV2:Hid (setB s=false):=by unfold Hid;rw[HV.out,h5];simp only[Bool.false_and,Bool.and_false]
  rw[h5]
  go_wp2_with fail
  go_ret
  exact⟨Ze HV2.out.symm,HB1.out⟩
 rw[h5] at HV ⊢
 have hlen:=Zh h5
 have htm:s.len.tmod 1000=s.len % 1000:=Int.tmod_eq_emod_of_nonneg (by omega)
 have vr:IntKind.i64.wrap (s.len % 1000)=s.len % 1000:=yF _ (by omega)
 clear h5
 rcases yL ((s.len % 1000==0)) with h6 | h6
 rotate_left
 ·have HV2:Hid (setB s=false):=by unfold Hid;rw[HV.out,h6];simp only[Bool.false_and,Bool.and_false]
  go_wp2_with fail
  go_ret
  exact⟨Ze HV2.out.symm,HB1.out⟩
 rw[h6] at HV
 go_wp2_with (go_at_call 128;fail)
 go_at_call 128
 refine (HLi.out _ HB1.out).mono ?_
 rintro e w' ⟨rfl,nq,rfl⟩
 have hq:=Zf HB1.out nq
 have HD2:=zh (HD.out.drewN nq)
 clear z0 z1 z2 z3 z4 z5 z6 z7 z8 z9 z10 z11 z12 HD HB1 HLi
 generalize W1.drewN nq=W2 at *
 have z0:=HD2.out.cell 0;have z1:=HD2.out.cell 1;have z2:=HD2.out.cell 2;have z3:=HD2.out.cell 3;have z4:=HD2.out.cell 4;have z5:=HD2.out.cell 5;have z6:=HD2.out.cell 6;have z7:=HD2.out.cell 7;have z8:=HD2.out.cell 8;have z9:=HD2.out.cell 9;have z10:=HD2.out.cell 10;have z11:=HD2.out.cell 11;have z12:=HD2.out.cell 12
 simp only[zq1,zq2,zq3] at z0 z1 z2 z3 z4 z5 z6 z7 z8 z9 z10 z11 z12
 rcases yL (linesB s.lines s.len) with h7 | h7
 rotate_left
 ·have HV2:Hid (setB s=false):=by unfold Hid;rw[HV.out,h7];simp only[Bool.false_and,Bool.and_false]
  rw[h7]
  go_wp2_with fail
  go_ret
  exact⟨Ze HV2.out.symm,hq⟩
 rw[h7] at HV ⊢
 clear h7
 go_wp2_with (go_at_call 127;fail)
 go_at_call 127
 refine (Zn _ _ _ _).mono ?_
 rintro e w' ⟨rfl,rfl⟩
 rcases yL (Zw s.pipe 0 1048576) with h8 | h8
 rotate_left
 ·have HV2:Hid (setB s=false):=by unfold Hid;rw[HV.out,h8];simp only[Bool.false_and,Bool.and_false]
  rw[h8]
  go_wp2_with fail
  go_ret
  exact⟨Ze HV2.out.symm,hq⟩
 rw[h8] at HV ⊢
 clear h8
 go_wp2_with (go_at_call 127;fail)
 go_at_call 127
 refine (Zn _ _ _ _).mono ?_
 rintro e w' ⟨rfl,rfl⟩
 rcases yL (Zw s.arbor 0 1048576) with h9 | h9
 rotate_left
 ·have HV2:Hid (setB s=false):=by unfold Hid;rw[HV.out,h9];simp only[Bool.false_and,Bool.and_false]
  rw[h9]
  go_wp2_with fail
  go_ret
  exact⟨Ze HV2.out.symm,hq⟩
 rw[h9] at HV ⊢
 clear h9
 go_wp2_with (go_at_call 127;fail)
 go_at_call 127
 refine (Zn _ _ _ _).mono ?_
 rintro e w' ⟨rfl,rfl⟩
 rcases yL (Zw s.purch 1 2) with h10 | h10
 rotate_left
 ·have HV2:Hid (setB s=false):=by unfold Hid;rw[HV.out,h10];simp only[Bool.false_and,Bool.and_false]
  rw[h10]
  go_wp2_with fail
  go_ret
  exact⟨Ze HV2.out.symm,hq⟩
 rw[h10] at HV ⊢
 clear h10
 go_wp2_with (go_at_call 127;fail)
 go_at_call 127
 refine (Zn _ _ _ _).mono ?_
 rintro e w' ⟨rfl,rfl⟩
 rcases yL (Zw s.most 1 67108864) with h11 | h11
 rotate_left
 ·have HV2:Hid (setB s=false):=by unfold Hid;rw[HV.out,h11];simp only[Bool.false_and,Bool.and_false]
  rw[h11]
  go_wp2_with fail
  go_ret
  exact⟨Ze HV2.out.symm,hq⟩
 rw[h11] at HV ⊢
 clear h11
 go_wp2_with (go_at_call 127;fail)
 go_at_call 127
 refine (Zn _ _ _ _).mono ?_
 rintro e w' ⟨rfl,rfl⟩
 rcases yL (Zw s.brake 0 67108864) with h12 | h12
 rotate_left
 ·have HV2:Hid (setB s=false):=by unfold Hid;rw[HV.out,h12];simp only[Bool.false_and,Bool.and_false]
  rw[h12]
  go_wp2_with fail
  go_ret
  exact⟨Ze HV2.out.symm,hq⟩
 rw[h12] at HV ⊢
 clear h12
 go_wp2_with (go_at_call 129;fail)
 go_at_call 129
 refine (HIt.out hlen _ hq).mono ?_
 rintro e w3 ⟨rfl,hb3⟩
 have hq3:=hq.trans (hb3.mono hq.size)
 have HD3:=zh (HD2.out.below hb3 HD2.out.lt)
 clear z0 z1 z2 z3 z4 z5 z6 z7 z8 z9 z10 z11 z12 HD2 hb3 HIt
 have q0:=HD3.out.cell 0;have q1:=HD3.out.cell 1;have q2:=HD3.out.cell 2;have q3:=HD3.out.cell 3;have q4:=HD3.out.cell 4;have q5:=HD3.out.cell 5;have q6:=HD3.out.cell 6;have q7:=HD3.out.cell 7;have q8:=HD3.out.cell 8;have q9:=HD3.out.cell 9;have q10:=HD3.out.cell 10;have q11:=HD3.out.cell 11;have q12:=HD3.out.cell 12
 simp only[zq1,zq2,zq3] at q0 q1 q2 q3 q4 q5 q6 q7 q8 q9 q10 q11 q12
 rcases yL (itemsB s.items s.len) with h13 | h13
 rotate_left
 ·have HV2:Hid (setB s=false):=by unfold Hid;rw[HV.out,h13];simp only[Bool.false_and,Bool.and_false]
  rw[h13]
  go_wp2_with fail
  go_ret
  exact⟨Ze HV2.out.symm,hq3⟩
 rw[h13] at HV ⊢
 clear h13
 go_wp2_with (go_at_call 130;fail)
 go_at_call 130
 refine (HBr.out _ hq3).mono ?_
 rintro e w4 ⟨rfl,hb4⟩
 have hq4:=hq3.trans (hb4.mono hq3.size)
 rcases yL (bricksB s.bricks) with h14 | h14
 all_goals
  have HV2:=HV.out
  rw[h14] at HV2 ⊢
  simp only[Bool.and_false,Bool.and_true] at HV2
  have HV3:=zh HV2
  clear HV2
  go_wp2_with fail
  go_ret
  exact⟨Ze HV3.out.symm,hq4⟩
end Go.Proofs.YtknkhnahflmjiaaGreatDoor
