/- For every input the law returns true, and its arguments read as they did. -/
import Derived.Test.YtknkhnahflmjiaaGreatDoorCards
import Derived.Test.YtknkhnahflmjiaaGreatDoorN4
import Derived.Test.YtknkhnahflmjiaaGreatDoorS6
import Derived.Test.YtknkhnahflmjiaaGreatDoorTie
namespace Go.Proofs.YtknkhnahflmjiaaGreatDoor
set_option maxRecDepth 100000
set_option maxHeartbeats 40000000
open Go.ChangeShapes Go.WideShapes Go.ChangeAt Go.RowKit
theorem qO (os:Os) (args:Array Value):laidMetH Tryz.prog Rows.limitsChecksRow.laid ((World.doorLaid Tryz.prog 400 os).forCall (fun _ _=>0) ⟨#[],args,[]⟩).memory :=
 laidMetH_of_parts3 (fuel:=8) (laidMet_of_run' 8 (by kernel_rfl) (by kernel_rfl)) (by kernel_rfl) (by kernel_rfl)
theorem oP (os:Os) (started:os.Started) (H:Type) (enc:TypeId×Value→H) :
  ReturnsInHanded {} Tryz.checked os 6 .any (fun w args=>(Rows.limitsChecksSpec.pre enc Tryz.prog Tryz.f6 [] false w args∧laidMetH Tryz.prog Rows.limitsChecksRow.laid w)∧sizedMet enc Tryz.prog Tryz.f6 (OpenSpec.ofChange Rows.limitsChecksSpec) false w args) (Rows.limitsChecksSpec.post enc Tryz.prog Tryz.f6 false true false false):=by
 refine CH started (by kernel_rfl) Tryz.func6 rfl (by kernel_rfl) ?_ ?_ (ChangeSpec.witness_shaped (enc:=enc) (C:=Tryz.checked) (os:=os) (X:=fun w _=>laidMetH Tryz.prog Rows.limitsChecksRow.laid w) false (World.doorLaid Tryz.prog 400 os) #[.agg zE,.agg #[.int .i64 0,.int .i64 0]] 8 rfl (World.shaped_of_RefB (by kernel_rfl) (by kernel_rfl)) (by kernel_rfl) (by kernel_rfl) (by kernel_rfl) (qO os _)) ?_
 ·rw[Tryz.params6];intro t ht;simp only[List.mem_cons,List.not_mem_nil,or_false] at ht;rcases ht with rfl|rfl <;> exact⟨by kernel_rfl,yG (by kernel_rfl)⟩
 ·intro ds UM
  match ds,UM with
  | [d0,d1],_=>exact⟨rfl,rfl,rfl⟩
 intro W base args ds ps QT hA;rw[Tryz.params6] at hA QT;obtain⟨v0,vs0,d0,ds0,p0,q0,Rs,rfl,rfl,h0,r0⟩:=trodAll_cons hA;obtain⟨v1,vs1,d1,E0,p1,q1,rfl,rfl,rfl,h1,r1⟩:=trodAll_cons r0;obtain⟨rfl,rfl,rfl⟩:=trodAll_nil r1;obtain rfl:args=#[v0,v1]:=by cases args;simp_all
 obtain⟨cs0,rfl,qkE⟩:=okWide_struct Tryz.underlying37 (QT 0 37 v0 rfl rfl);rw[show Tryz.prog.cellsOf 37=13 from by kernel_rfl] at qkE;obtain⟨vwt,hf0⟩:=h0;obtain⟨x0,hx0,qR⟩:=BK (by simpa[Value.cells] using qkE) hf0;obtain⟨cs1,rfl,qkD⟩:=okWide_struct Tryz.underlying23 (QT 1 23 v1 rfl rfl);rw[show Tryz.prog.cellsOf 23=2 from by kernel_rfl] at qkD;obtain⟨vws,hf1⟩:=h1;obtain⟨x1,cG⟩:=Av qkD hf1;rw[cG];exact CI _ x0 x1 W (by simpa[Value.cells] using hx0) qR
theorem vwv {a b:Bool} (h:a=true) (h2:b=true):(a&&b)=true:=by rw[h,h2];rfl
theorem rY:Rows.LimitsChecksSaid :=
 OpenClaim.holds_of_wide 6 Tryz.f6 rfl rfl rfl rfl rfl rfl rfl ⟨rfl,rfl,rfl,rfl,rfl⟩ rfl rfl rfl rfl rfl (by as_aux_lemma=>kernel_rfl) Tryz.func6 (by unfold joinedFacts;repeat' (with_reducible refine vwv ?_ ?_);all_goals (as_aux_lemma=>kernel_rfl))
  (yG (by as_aux_lemma=>kernel_rfl)) (by unfold Func.isWrapper;first|(rw[if_pos (by decide +kernel)];kernel_rfl)|(rw[if_neg (by decide +kernel)];exact⟨rfl,rfl⟩))
  (fun os started H enc _=>oP os started H enc)
theorem limitsChecks_holds:Rows.LimitsChecksCardSaid :=
 Claim7.holds_tied_plain_at .later [] [.data,.data,.data] true Rows.limitsChecksCard.stood.harness false
  rY (fun _ h=>by cases h) (by kernel_rfl) (fun _ h=>by cases h) limitsChecks_row_tie rfl ⟨rfl,rfl⟩ (by kernel_rfl) rfl
  (fun f fn hf Ae=>by
   obtain rfl:f=6:=Option.some.inj ((show Tryz.prog.funcNamed "loftblock/loftblocklaw23.LimitsChecks" = some 6 by kernel_rfl).symm.trans hf) |>.symm;obtain rfl:fn=Tryz.f6:=(Option.some.inj (Tryz.func6.symm.trans Ae)).symm;exact⟨by kernel_rfl,fun j t ht=>by
    rw[Tryz.params6] at ht;have h3:t=37∨t=23:=by
     rcases j with _|_|j
     ·exact .inl (by simpa using ht.symm)
     ·exact .inr ((by simpa using ht.symm))
     simp at ht
    rcases h3 with rfl|rfl
    ·exact (show Tryz.prog.wantsStandIn 37=false by kernel_rfl)
    exact (show Tryz.prog.wantsStandIn 23=false by kernel_rfl)⟩)
  (by kernel_rfl)
#print axioms limitsChecks_holds
