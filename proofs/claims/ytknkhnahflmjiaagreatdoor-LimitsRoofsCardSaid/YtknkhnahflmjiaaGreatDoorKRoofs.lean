/- For every input the law returns true, and its arguments read as they did. -/
import Derived.Test.YtknkhnahflmjiaaGreatDoorCards
import Derived.Test.YtknkhnahflmjiaaGreatDoorQ6
import Derived.Test.YtknkhnahflmjiaaGreatDoorS4
import Derived.Test.YtknkhnahflmjiaaGreatDoorTie
namespace Go.Proofs.YtknkhnahflmjiaaGreatDoor
set_option maxRecDepth 100000
set_option maxHeartbeats 40000000
open Go.ChangeShapes Go.WideShapes Go.ChangeAt Go.RowKit
theorem limitsRoofs_door (os:Os) (args:Array Value):laidMetH Tryz.prog Rows.limitsRoofsRow.laid ((World.doorLaid Tryz.prog 400 os).forCall (fun _ _=>0) ⟨#[],args,[]⟩).memory :=
 laidMetH_of_parts3 (fuel:=8) (laidMet_of_run' 8 (by kernel_rfl) (by kernel_rfl)) (by kernel_rfl) (by kernel_rfl)
theorem limitsRoofs_lifted (os:Os) (started:os.Started) (H:Type) (enc:TypeId×Value→H) :
  ReturnsInHanded {} Tryz.checked os 8 .any (fun w args=>(Rows.limitsRoofsSpec.pre enc Tryz.prog Tryz.f8 [] false w args∧laidMetH Tryz.prog Rows.limitsRoofsRow.laid w)∧sizedMet enc Tryz.prog Tryz.f8 (OpenSpec.ofChange Rows.limitsRoofsSpec) false w args) (Rows.limitsRoofsSpec.post enc Tryz.prog Tryz.f8 false true false false):=by
 refine law_liftedL started (by kernel_rfl) Tryz.func8 rfl (by kernel_rfl) ?_ ?_ (ChangeSpec.witness_shaped (enc:=enc) (C:=Tryz.checked) (os:=os) (X:=fun w _=>laidMetH Tryz.prog Rows.limitsRoofsRow.laid w) false (World.doorLaid Tryz.prog 400 os) #[.slice none 0 0,.slice none 0 0,.agg #[.int .i64 0,.int .i64 0]] 8 rfl (World.shaped_of_RefB (by kernel_rfl) (by kernel_rfl)) (by kernel_rfl) (by kernel_rfl) (by kernel_rfl) (limitsRoofs_door os _)) ?_
 ·rw[Tryz.params8]
  intro t ht
  simp only[List.mem_cons,List.not_mem_nil,or_false] at ht
  rcases ht with rfl | rfl | rfl <;> exact⟨by kernel_rfl,yG (by kernel_rfl)⟩
 ·intro ds hds
  match ds,hds with
  | [d0,d1,d2],_=>exact⟨rfl,rfl,rfl⟩
 intro W base args ds ps hval hA
 rw[Tryz.params8] at hA hval
 obtain⟨v0,vs0,d0,ds0,p0,q0,hargs,rfl,rfl,h0,r0⟩:=trodAll_cons hA
 obtain⟨v1,vs1,d1,ds1,p1,q1,rfl,rfl,rfl,h1,r1⟩:=trodAll_cons r0
 obtain⟨v2,vs2,d2,ds2,p2,q2,rfl,rfl,rfl,h2,r2⟩:=trodAll_cons r1
 obtain⟨rfl,rfl,rfl⟩:=trodAll_nil r2
 obtain rfl:args=#[v0,v1,v2]:=by cases args;simp_all
 obtain⟨a0,n0,c0,rfl⟩:=okWide_slice Tryz.underlying65 (hval 0 65 v0 rfl rfl)
 obtain⟨fuel0,hf0⟩:=h0
 obtain⟨x0,hx0,hn0⟩:=roofs_of_trod hf0
 obtain⟨a1,n1,c1,rfl⟩:=okWide_slice Tryz.underlying66 (hval 1 66 v1 rfl rfl)
 obtain⟨fuel1,hf1⟩:=h1
 obtain⟨x1,hx1⟩:=loads_of_trod hf1
 obtain⟨cs2,rfl,hcs2⟩:=okWide_struct Tryz.underlying23 (hval 2 23 v2 rfl rfl)
 rw[show Tryz.prog.cellsOf 23=2 from by kernel_rfl] at hcs2
 obtain⟨fuel2,hf2⟩:=h2
 obtain⟨x2,hx2⟩:=frac_of_trod hcs2 hf2
 rw[hx2]
 exact lawRoofs23 _ _ x0 x1 x2 W hx0 hn0 hx1
theorem andT {a b:Bool} (h:a=true) (h2:b=true):(a&&b)=true:=by rw[h,h2];rfl
theorem limitsRoofs_row:Rows.LimitsRoofsSaid :=
 OpenClaim.holds_of_wide 8 Tryz.f8 rfl rfl rfl rfl rfl rfl rfl ⟨rfl,rfl,rfl,rfl,rfl⟩ rfl rfl rfl rfl rfl (by as_aux_lemma=>kernel_rfl) Tryz.func8 (by unfold joinedFacts;repeat' (with_reducible refine andT ?_ ?_);all_goals (as_aux_lemma=>kernel_rfl))
  (yG (by as_aux_lemma=>kernel_rfl)) (by unfold Func.isWrapper;first | (rw[if_pos (by decide +kernel)];kernel_rfl) | (rw[if_neg (by decide +kernel)];exact⟨rfl,rfl⟩))
  (fun os started H enc _=>limitsRoofs_lifted os started H enc)
theorem limitsRoofs_holds:Rows.LimitsRoofsCardSaid :=
 Claim7.holds_tied_plain_at .later [] [.data,.data,.data] true Rows.limitsRoofsCard.stood.harness false
  limitsRoofs_row (fun _ h=>by cases h) (by kernel_rfl) (fun _ h=>by cases h) limitsRoofs_row_tie rfl ⟨rfl,rfl⟩ (by kernel_rfl) rfl
  (fun f fn hf hfn=>by
   obtain rfl:f=8:=Option.some.inj ((show Tryz.prog.funcNamed "loftblock/loftblocklaw23.LimitsRoofs" = some 8 by kernel_rfl).symm.trans hf) |>.symm
   obtain rfl:fn=Tryz.f8:=(Option.some.inj (Tryz.func8.symm.trans hfn)).symm
   exact⟨by kernel_rfl,fun j t ht=>by
    rw[Tryz.params8] at ht
    have h3:t=65∨t=66∨t=23:=by
     rcases j with _ | _ | _ | j
     ·exact .inl (by simpa using ht.symm)
     ·exact .inr (.inl (by simpa using ht.symm))
     ·exact .inr (.inr ((by simpa using ht.symm)))
     simp at ht
    rcases h3 with rfl | rfl | rfl
    ·exact (show Tryz.prog.wantsStandIn 65=false by kernel_rfl)
    ·exact (show Tryz.prog.wantsStandIn 66=false by kernel_rfl)
    exact (show Tryz.prog.wantsStandIn 23=false by kernel_rfl)⟩)
  (by kernel_rfl)
#print axioms limitsRoofs_holds
end Go.Proofs.YtknkhnahflmjiaaGreatDoor
