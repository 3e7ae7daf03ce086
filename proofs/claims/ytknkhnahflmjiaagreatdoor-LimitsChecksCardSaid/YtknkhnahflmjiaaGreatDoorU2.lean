/- Lemmas. -/
import Derived.Test.YtknkhnahflmjiaaGreatDoorU1
namespace Go.Proofs.YtknkhnahflmjiaaGreatDoor
set_option maxRecDepth 100000
set_option maxHeartbeats 40000000
open Go.RowKit Go.Shelf
def cA (s:SetT):Bool:=dW s.name&&(Zw s.depth 0 1048576&&(decide (0≤s.low)&&(decide (s.low≤s.high)&&(decide (s.high≤1048576)&&(Zw s.len 1000 1048576&&((s.len%1000==0)&&(fH s.lines s.len&&(Zw s.pipe 0 1048576&&(Zw s.arbor 0 1048576&&(Zw s.purch 1 2&&(Zw s.most 1 67108864&&(Zw s.brake 0 67108864&&(eR s.items s.len&&(dL s.bricks))))))))))))))
structure SetNames (s:SetT):Prop where
 name:s.name.size≤maxLen
 items:∀x∈s.items,x.name.size≤maxLen
 bricks:∀x∈s.bricks,x.name.size≤maxLen
theorem DV (v:Value) (s:SetT) (w:World) (hv:SetAt w w.heap.size v s) (hn:SetNames s) :
  Calls Tryz.prog 87 #[v] w fun e w'=>e=.returned (.bool (cA s))∧Below w.heap.size w w':=by
 obtain⟨Al,cl,Ai,ci,Ab,cb,rfl,hL,hI,hB⟩:=hv;have lR:=fun W=>oG s.name hn.name W;have tx:=zh fun W (hb:Below w.heap.size w W)=>SA _ s.lines s.len W.heap.size W ((RowAt.below hL hb (yA _)).mono hb.size);have HIt:=zh fun dD W (hb:Below w.heap.size w W)=>SB _ s.items s.len W ((hI.below hb (yA _)).mono hb.size) hn.items dD;have HBr:=zh fun W (hb:Below w.heap.size w W)=>LI _ s.bricks W ((hB.below hb (yA _)).mono hb.size) hn.bricks
 have HV:Y0 (cA s=(dW s.name&&(Zw s.depth 0 1048576&&(decide (0≤s.low)&&(decide (s.low≤s.high)&&(decide (s.high≤1048576)&&(Zw s.len 1000 1048576&&((s.len%1000==0)&&(fH s.lines s.len&&(Zw s.pipe 0 1048576&&(Zw s.arbor 0 1048576&&(Zw s.purch 1 2&&(Zw s.most 1 67108864&&(Zw s.brake 0 67108864&&(eR s.items s.len&&(dL s.bricks)))))))))))))))):=rfl;have HD:=zh (Blk.new w 37 (zA s Al cl Ai ci Ab cb));have cw:=zh ((yB _ w).alloc (yA _) (.cells (zA s Al cl Ai ci Ab cb) 37))
 clear hL hI hB hn;unfold dO;go_enter Tryz.func87,Tryz.ntmps87;go_wp2_with (go_at_call 126;fail);go_at_call 126;generalize w.alloc (.cells (zA s Al cl Ai ci Ab cb) 37)=W1 at*;have z0:=HD.o.cell 0;have z1:=HD.o.cell 1;have z2:=HD.o.cell 2;have z3:=HD.o.cell 3;have z4:=HD.o.cell 4;have z5:=HD.o.cell 5;have z6:=HD.o.cell 6;have z7:=HD.o.cell 7;have z8:=HD.o.cell 8;have z9:=HD.o.cell 9;have fD:=HD.o.cell 10;have dN:=HD.o.cell 11;have fa:=HD.o.cell 12
 simp only[aB,aD,aA] at z0 z1 z2 z3 z4 z5 z6 z7 z8 z9 fD dN fa;refine (lR _).mono ?_;rintro e w' ⟨rfl,rfl⟩;rcases yM (dW s.name) with h0|h0;rotate_left
 ·have cH:Y0 (cA s=false):=by unfold Y0;rw[HV.o,h0];simp only[Bool.false_and]
  rw[h0];go_wp2_with fail;go_ret;exact⟨Ze cH.o.symm,cw.o⟩
 rw[h0] at HV⊢;clear h0;go_wp2_with (go_at_call 127;fail);go_at_call 127;refine (Zn _ _ _ _).mono ?_;rintro e w' ⟨rfl,rfl⟩;rcases yM (Zw s.depth 0 1048576) with h1|h1;rotate_left
 ·have cH:Y0 (cA s=false):=by unfold Y0;rw[HV.o,h1];simp only[Bool.false_and,Bool.and_false]
  rw[h1];go_wp2_with fail;go_ret;exact⟨Ze cH.o.symm,cw.o⟩
 rw[h1] at HV⊢;clear h1;rcases yM (decide (0≤s.low)) with h2|h2;rotate_left
 ·have cH:Y0 (cA s=false):=by unfold Y0;rw[HV.o,h2];simp only[Bool.false_and,Bool.and_false]
  go_wp2_with fail;go_ret;exact⟨Ze cH.o.symm,cw.o⟩
 rw[h2] at HV;rcases yM (decide (s.low≤s.high)) with h3|h3;rotate_left
 ·have cH:Y0 (cA s=false):=by unfold Y0;rw[HV.o,h3];simp only[Bool.false_and,Bool.and_false]
  go_wp2_with fail;go_ret;exact⟨Ze cH.o.symm,cw.o⟩
 rw[h3] at HV;rcases yM (decide (s.high≤1048576)) with h4|h4;rotate_left
 ·have cH:Y0 (cA s=false):=by unfold Y0;rw[HV.o,h4];simp only[Bool.false_and,Bool.and_false]
  go_wp2_with fail;go_ret;exact⟨Ze cH.o.symm,cw.o⟩
 rw[h4] at HV;go_wp2_with (go_at_call 127;fail);go_at_call 127;refine (Zn _ _ _ _).mono ?_;rintro e w' ⟨rfl,rfl⟩;rcases yM (Zw s.len 1000 1048576) with h5|h5;rotate_left
 ·have cH:Y0 (cA s=false):=by unfold Y0;rw[HV.o,h5];simp only[Bool.false_and,Bool.and_false]
  rw[h5];go_wp2_with fail;go_ret;exact⟨Ze cH.o.symm,cw.o⟩
 rw[h5] at HV⊢;have dD:=Zh h5;have htm:s.len.tmod 1000=s.len%1000:=Int.tmod_eq_emod_of_nonneg (by omega);have vr:IntKind.i64.wrap (s.len%1000)=s.len%1000:=yF _ (by omega);clear h5;rcases yM ((s.len%1000==0)) with h6|h6;rotate_left
 ·have cH:Y0 (cA s=false):=by unfold Y0;rw[HV.o,h6];simp only[Bool.false_and,Bool.and_false]
  go_wp2_with fail;go_ret;exact⟨Ze cH.o.symm,cw.o⟩
 rw[h6] at HV;go_wp2_with (go_at_call 128;fail);go_at_call 128;refine (tx.o _ cw.o).mono ?_;rintro e w' ⟨rfl,nq,rfl⟩;have hq:=Zf cw.o nq;have cP:=zh (HD.o.drewN nq);clear z0 z1 z2 z3 z4 z5 z6 z7 z8 z9 fD dN fa HD cw tx;generalize W1.drewN nq=W2 at*;have z0:=cP.o.cell 0;have z1:=cP.o.cell 1;have z2:=cP.o.cell 2;have z3:=cP.o.cell 3;have z4:=cP.o.cell 4;have z5:=cP.o.cell 5;have z6:=cP.o.cell 6;have z7:=cP.o.cell 7;have z8:=cP.o.cell 8;have z9:=cP.o.cell 9;have fD:=cP.o.cell 10;have dN:=cP.o.cell 11;have fa:=cP.o.cell 12
 simp only[aB,aD,aA] at z0 z1 z2 z3 z4 z5 z6 z7 z8 z9 fD dN fa;rcases yM (fH s.lines s.len) with h7|h7;rotate_left
 ·have cH:Y0 (cA s=false):=by unfold Y0;rw[HV.o,h7];simp only[Bool.false_and,Bool.and_false]
  rw[h7];go_wp2_with fail;go_ret;exact⟨Ze cH.o.symm,hq⟩
 rw[h7] at HV⊢;clear h7;go_wp2_with (go_at_call 127;fail);go_at_call 127;refine (Zn _ _ _ _).mono ?_;rintro e w' ⟨rfl,rfl⟩;rcases yM (Zw s.pipe 0 1048576) with h8|h8;rotate_left
 ·have cH:Y0 (cA s=false):=by unfold Y0;rw[HV.o,h8];simp only[Bool.false_and,Bool.and_false]
  rw[h8];go_wp2_with fail;go_ret;exact⟨Ze cH.o.symm,hq⟩
 rw[h8] at HV⊢;clear h8;go_wp2_with (go_at_call 127;fail);go_at_call 127;refine (Zn _ _ _ _).mono ?_;rintro e w' ⟨rfl,rfl⟩;rcases yM (Zw s.arbor 0 1048576) with h9|h9;rotate_left
 ·have cH:Y0 (cA s=false):=by unfold Y0;rw[HV.o,h9];simp only[Bool.false_and,Bool.and_false]
  rw[h9];go_wp2_with fail;go_ret;exact⟨Ze cH.o.symm,hq⟩
 rw[h9] at HV⊢;clear h9;go_wp2_with (go_at_call 127;fail);go_at_call 127;refine (Zn _ _ _ _).mono ?_;rintro e w' ⟨rfl,rfl⟩;rcases yM (Zw s.purch 1 2) with Bg|Bg;rotate_left
 ·have cH:Y0 (cA s=false):=by unfold Y0;rw[HV.o,Bg];simp only[Bool.false_and,Bool.and_false]
  rw[Bg];go_wp2_with fail;go_ret;exact⟨Ze cH.o.symm,hq⟩
 rw[Bg] at HV⊢;clear Bg;go_wp2_with (go_at_call 127;fail);go_at_call 127;refine (Zn _ _ _ _).mono ?_;rintro e w' ⟨rfl,rfl⟩;rcases yM (Zw s.most 1 67108864) with J6|J6;rotate_left
 ·have cH:Y0 (cA s=false):=by unfold Y0;rw[HV.o,J6];simp only[Bool.false_and,Bool.and_false]
  rw[J6];go_wp2_with fail;go_ret;exact⟨Ze cH.o.symm,hq⟩
 rw[J6] at HV⊢;clear J6;go_wp2_with (go_at_call 127;fail);go_at_call 127;refine (Zn _ _ _ _).mono ?_;rintro e w' ⟨rfl,rfl⟩;rcases yM (Zw s.brake 0 67108864) with tK|tK;rotate_left
 ·have cH:Y0 (cA s=false):=by unfold Y0;rw[HV.o,tK];simp only[Bool.false_and,Bool.and_false]
  rw[tK];go_wp2_with fail;go_ret;exact⟨Ze cH.o.symm,hq⟩
 rw[tK] at HV⊢;clear tK;go_wp2_with (go_at_call 129;fail);go_at_call 129;refine (HIt.o dD _ hq).mono ?_;rintro e w3 ⟨rfl,bZ⟩;have hq3:=hq.trans (bZ.mono hq.size);have eJ:=zh (cP.o.below bZ cP.o.lt);clear z0 z1 z2 z3 z4 z5 z6 z7 z8 z9 fD dN fa cP bZ HIt;have q0:=eJ.o.cell 0;have q1:=eJ.o.cell 1;have q2:=eJ.o.cell 2;have q3:=eJ.o.cell 3;have q4:=eJ.o.cell 4;have q5:=eJ.o.cell 5;have q6:=eJ.o.cell 6;have q7:=eJ.o.cell 7;have q8:=eJ.o.cell 8;have q9:=eJ.o.cell 9;have gT:=eJ.o.cell 10;have jz:=eJ.o.cell 11;have oO:=eJ.o.cell 12
 simp only[aB,aD,aA] at q0 q1 q2 q3 q4 q5 q6 q7 q8 q9 gT jz oO;rcases yM (eR s.items s.len) with Df|Df;rotate_left
 ·have cH:Y0 (cA s=false):=by unfold Y0;rw[HV.o,Df];simp only[Bool.false_and,Bool.and_false]
  rw[Df];go_wp2_with fail;go_ret;exact⟨Ze cH.o.symm,hq3⟩
 rw[Df] at HV⊢;clear Df;go_wp2_with (go_at_call 130;fail);go_at_call 130;refine (HBr.o _ hq3).mono ?_;rintro e w4 ⟨rfl,bP⟩;have hq4:=hq3.trans (bP.mono hq3.size);rcases yM (dL s.bricks) with My|My
 all_goals
  have cH:=HV.o;rw[My] at cH⊢;simp only[Bool.and_false,Bool.and_true] at cH;have AU:=zh cH;clear cH;go_wp2_with fail;go_ret;exact⟨Ze AU.o.symm,hq4⟩
