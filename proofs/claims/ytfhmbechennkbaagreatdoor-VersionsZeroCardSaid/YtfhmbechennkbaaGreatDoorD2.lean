/- Lemmas. -/
import Derived.Test.YtfhmbechennkbaaGreatDoorD1
namespace Go.Proofs.YtfhmbechennkbaaGreatDoor
set_option maxRecDepth 100000
set_option maxHeartbeats 40000000
open Go.RowKit Go.Shelf
def bS (s:SetT):Bool:=da s.name&&(Zw s.depth 0 1048576&&(decide (0≤s.low)&&(decide (s.low≤s.high)&&(decide (s.high≤1048576)&&(Zw s.len 1000 1048576&&((s.len % 1000==0)&&(fp s.lines s.len&&(Zw s.pipe 0 1048576&&(Zw s.arbor 0 1048576&&(Zw s.purch 1 2&&(Zw s.most 1 67108864&&(Zw s.brake 0 67108864&&(eT s.items s.len&&(dB s.bricks))))))))))))))
structure SetNames (s:SetT):Prop where
 name:s.name.size≤maxLen
 items:∀ x∈s.items,x.name.size≤maxLen
 bricks:∀ x∈s.bricks,x.name.size≤maxLen
theorem BQ (v:Value) (s:SetT) (w:World) (hv:SetAt w w.heap.size v s) (hn:SetNames s) :
  Calls Tryz.prog 69 #[v] w fun e w'=>e = .returned (.bool (bS s))∧Below w.heap.size w w':=by
 obtain⟨Al,cl,Ai,ci,Ab,cb,rfl,hL,hI,hB⟩:=hv
 have gg:=fun W=>pO s.name hn.name W
 have HLi:=zh fun W (hb:Below w.heap.size w W)=>XO _ s.lines s.len W.heap.size W ((RowAt.below hL hb (yA _)).mono hb.size)
 have HIt:=zh fun bL W (hb:Below w.heap.size w W)=>XP _ s.items s.len W ((hI.below hb (yA _)).mono hb.size) hn.items bL
 have HBr:=zh fun W (hb:Below w.heap.size w W)=>Qp _ s.bricks W ((hB.below hb (yA _)).mono hb.size) hn.bricks
 have HV:Y0 (bS s=(da s.name&&(Zw s.depth 0 1048576&&(decide (0≤s.low)&&(decide (s.low≤s.high)&&(decide (s.high≤1048576)&&(Zw s.len 1000 1048576&&((s.len % 1000==0)&&(fp s.lines s.len&&(Zw s.pipe 0 1048576&&(Zw s.arbor 0 1048576&&(Zw s.purch 1 2&&(Zw s.most 1 67108864&&(Zw s.brake 0 67108864&&(eT s.items s.len&&(dB s.bricks)))))))))))))))):=rfl
 have HD:=zh (Blk.new w 26 (zA s Al cl Ai ci Ab cb))
 have bZ:=zh ((yB _ w).alloc (yA _) (.cells (zA s Al cl Ai ci Ab cb) 26))
 clear hL hI hB hn
 unfold aL
 go_enter Tryz.func69,Tryz.ntmps69
 go_wp2_with (go_at_call 107;fail)
 go_at_call 107
 generalize w.alloc (.cells (zA s Al cl Ai ci Ab cb) 26)=W1 at *
 have z0:=HD.o.cell 0;have z1:=HD.o.cell 1;have z2:=HD.o.cell 2;have z3:=HD.o.cell 3;have z4:=HD.o.cell 4;have z5:=HD.o.cell 5;have z6:=HD.o.cell 6;have z7:=HD.o.cell 7;have z8:=HD.o.cell 8;have z9:=HD.o.cell 9;have jg:=HD.o.cell 10;have fc:=HD.o.cell 11;have gU:=HD.o.cell 12
 simp only[aP,aQ,aO] at z0 z1 z2 z3 z4 z5 z6 z7 z8 z9 jg fc gU
 refine (gg _).mono ?_
 rintro e w' ⟨rfl,rfl⟩
 rcases yL (da s.name) with h0 | h0
 rotate_left
 ·have dH:Y0 (bS s=false):=by unfold Y0;rw[HV.o,h0];simp only[Bool.false_and]
  rw[h0]
  go_wp2_with fail
  go_ret
  exact⟨Ze dH.o.symm,bZ.o⟩
 rw[h0] at HV ⊢
 clear h0
 go_wp2_with (go_at_call 108;fail)
 go_at_call 108
 refine (Zn _ _ _ _).mono ?_
 rintro e w' ⟨rfl,rfl⟩
 rcases yL (Zw s.depth 0 1048576) with h1 | h1
 rotate_left
 ·have dH:Y0 (bS s=false):=by unfold Y0;rw[HV.o,h1];simp only[Bool.false_and,Bool.and_false]
  rw[h1]
  go_wp2_with fail
  go_ret
  exact⟨Ze dH.o.symm,bZ.o⟩
 rw[h1] at HV ⊢
 clear h1
 rcases yL (decide (0≤s.low)) with h2 | h2
 rotate_left
 ·have dH:Y0 (bS s=false):=by unfold Y0;rw[HV.o,h2];simp only[Bool.false_and,Bool.and_false]
  go_wp2_with fail
  go_ret
  exact⟨Ze dH.o.symm,bZ.o⟩
 rw[h2] at HV
 rcases yL (decide (s.low≤s.high)) with h3 | h3
 rotate_left
 ·have dH:Y0 (bS s=false):=by unfold Y0;rw[HV.o,h3];simp only[Bool.false_and,Bool.and_false]
  go_wp2_with fail
  go_ret
  exact⟨Ze dH.o.symm,bZ.o⟩
 rw[h3] at HV
 rcases yL (decide (s.high≤1048576)) with h4 | h4
 rotate_left
 ·have dH:Y0 (bS s=false):=by unfold Y0;rw[HV.o,h4];simp only[Bool.false_and,Bool.and_false]
  go_wp2_with fail
  go_ret
  exact⟨Ze dH.o.symm,bZ.o⟩
 rw[h4] at HV
 go_wp2_with (go_at_call 108;fail)
 go_at_call 108
 refine (Zn _ _ _ _).mono ?_
 rintro e w' ⟨rfl,rfl⟩
 rcases yL (Zw s.len 1000 1048576) with h5 | h5
 rotate_left
 ·have dH:Y0 (bS s=false):=by unfold Y0;rw[HV.o,h5];simp only[Bool.false_and,Bool.and_false]
  rw[h5]
  go_wp2_with fail
  go_ret
  exact⟨Ze dH.o.symm,bZ.o⟩
 rw[h5] at HV ⊢
 have bL:=Zh h5
 have htm:s.len.tmod 1000=s.len % 1000:=Int.tmod_eq_emod_of_nonneg (by omega)
 have vr:IntKind.i64.wrap (s.len % 1000)=s.len % 1000:=yF _ (by omega)
 clear h5
 rcases yL ((s.len % 1000==0)) with h6 | h6
 rotate_left
 ·have dH:Y0 (bS s=false):=by unfold Y0;rw[HV.o,h6];simp only[Bool.false_and,Bool.and_false]
  go_wp2_with fail
  go_ret
  exact⟨Ze dH.o.symm,bZ.o⟩
 rw[h6] at HV
 go_wp2_with (go_at_call 109;fail)
 go_at_call 109
 refine (HLi.o _ bZ.o).mono ?_
 rintro e w' ⟨rfl,nq,rfl⟩
 have hq:=Zf bZ.o nq
 have cF:=zh (HD.o.drewN nq)
 clear z0 z1 z2 z3 z4 z5 z6 z7 z8 z9 jg fc gU HD bZ HLi
 generalize W1.drewN nq=W2 at *
 have z0:=cF.o.cell 0;have z1:=cF.o.cell 1;have z2:=cF.o.cell 2;have z3:=cF.o.cell 3;have z4:=cF.o.cell 4;have z5:=cF.o.cell 5;have z6:=cF.o.cell 6;have z7:=cF.o.cell 7;have z8:=cF.o.cell 8;have z9:=cF.o.cell 9;have jg:=cF.o.cell 10;have fc:=cF.o.cell 11;have gU:=cF.o.cell 12
 simp only[aP,aQ,aO] at z0 z1 z2 z3 z4 z5 z6 z7 z8 z9 jg fc gU
 rcases yL (fp s.lines s.len) with h7 | h7
 rotate_left
 ·have dH:Y0 (bS s=false):=by unfold Y0;rw[HV.o,h7];simp only[Bool.false_and,Bool.and_false]
  rw[h7]
  go_wp2_with fail
  go_ret
  exact⟨Ze dH.o.symm,hq⟩
 rw[h7] at HV ⊢
 clear h7
 go_wp2_with (go_at_call 108;fail)
 go_at_call 108
 refine (Zn _ _ _ _).mono ?_
 rintro e w' ⟨rfl,rfl⟩
 rcases yL (Zw s.pipe 0 1048576) with h8 | h8
 rotate_left
 ·have dH:Y0 (bS s=false):=by unfold Y0;rw[HV.o,h8];simp only[Bool.false_and,Bool.and_false]
  rw[h8]
  go_wp2_with fail
  go_ret
  exact⟨Ze dH.o.symm,hq⟩
 rw[h8] at HV ⊢
 clear h8
 go_wp2_with (go_at_call 108;fail)
 go_at_call 108
 refine (Zn _ _ _ _).mono ?_
 rintro e w' ⟨rfl,rfl⟩
 rcases yL (Zw s.arbor 0 1048576) with h9 | h9
 rotate_left
 ·have dH:Y0 (bS s=false):=by unfold Y0;rw[HV.o,h9];simp only[Bool.false_and,Bool.and_false]
  rw[h9]
  go_wp2_with fail
  go_ret
  exact⟨Ze dH.o.symm,hq⟩
 rw[h9] at HV ⊢
 clear h9
 go_wp2_with (go_at_call 108;fail)
 go_at_call 108
 refine (Zn _ _ _ _).mono ?_
 rintro e w' ⟨rfl,rfl⟩
 rcases yL (Zw s.purch 1 2) with vC | vC
 rotate_left
 ·have dH:Y0 (bS s=false):=by unfold Y0;rw[HV.o,vC];simp only[Bool.false_and,Bool.and_false]
  rw[vC]
  go_wp2_with fail
  go_ret
  exact⟨Ze dH.o.symm,hq⟩
 rw[vC] at HV ⊢
 clear vC
 go_wp2_with (go_at_call 108;fail)
 go_at_call 108
 refine (Zn _ _ _ _).mono ?_
 rintro e w' ⟨rfl,rfl⟩
 rcases yL (Zw s.most 1 67108864) with Cz | Cz
 rotate_left
 ·have dH:Y0 (bS s=false):=by unfold Y0;rw[HV.o,Cz];simp only[Bool.false_and,Bool.and_false]
  rw[Cz]
  go_wp2_with fail
  go_ret
  exact⟨Ze dH.o.symm,hq⟩
 rw[Cz] at HV ⊢
 clear Cz
 go_wp2_with (go_at_call 108;fail)
 go_at_call 108
 refine (Zn _ _ _ _).mono ?_
 rintro e w' ⟨rfl,rfl⟩
 rcases yL (Zw s.brake 0 67108864) with m6 | m6
 rotate_left
 ·have dH:Y0 (bS s=false):=by unfold Y0;rw[HV.o,m6];simp only[Bool.false_and,Bool.and_false]
  rw[m6]
  go_wp2_with fail
  go_ret
  exact⟨Ze dH.o.symm,hq⟩
 rw[m6] at HV ⊢
 clear m6
 go_wp2_with (go_at_call 110;fail)
 go_at_call 110
 refine (HIt.o bL _ hq).mono ?_
 rintro e w3 ⟨rfl,cO⟩
 have hq3:=hq.trans (cO.mono hq.size)
 have iD:=zh (cF.o.below cO cF.o.lt)
 clear z0 z1 z2 z3 z4 z5 z6 z7 z8 z9 jg fc gU cF cO HIt
 have q0:=iD.o.cell 0;have q1:=iD.o.cell 1;have q2:=iD.o.cell 2;have q3:=iD.o.cell 3;have q4:=iD.o.cell 4;have q5:=iD.o.cell 5;have q6:=iD.o.cell 6;have q7:=iD.o.cell 7;have q8:=iD.o.cell 8;have q9:=iD.o.cell 9;have iZ:=iD.o.cell 10;have j9:=iD.o.cell 11;have mY:=iD.o.cell 12
 simp only[aP,aQ,aO] at q0 q1 q2 q3 q4 q5 q6 q7 q8 q9 iZ j9 mY
 rcases yL (eT s.items s.len) with Ch | Ch
 rotate_left
 ·have dH:Y0 (bS s=false):=by unfold Y0;rw[HV.o,Ch];simp only[Bool.false_and,Bool.and_false]
  rw[Ch]
  go_wp2_with fail
  go_ret
  exact⟨Ze dH.o.symm,hq3⟩
 rw[Ch] at HV ⊢
 clear Ch
 go_wp2_with (go_at_call 111;fail)
 go_at_call 111
 refine (HBr.o _ hq3).mono ?_
 rintro e w4 ⟨rfl,cD⟩
 have hq4:=hq3.trans (cD.mono hq3.size)
 rcases yL (dB s.bricks) with QN | QN
 all_goals
  have dH:=HV.o
  rw[QN] at dH ⊢
  simp only[Bool.and_false,Bool.and_true] at dH
  have QP:=zh dH
  clear dH
  go_wp2_with fail
  go_ret
  exact⟨Ze QP.o.symm,hq4⟩
end Go.Proofs.YtfhmbechennkbaaGreatDoor
