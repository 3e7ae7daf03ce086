/- For every input the law returns true, and its arguments read as they did. -/
import Derived.Test.YtfhmbechennkbaaGreatDoorCards
import Derived.Test.YtfhmbechennkbaaGreatDoorS4
import Derived.Test.YtfhmbechennkbaaGreatDoorT5
import Derived.Test.YtfhmbechennkbaaGreatDoorTie
namespace Go.Proofs.YtfhmbechennkbaaGreatDoor
set_option maxRecDepth 100000
set_option maxHeartbeats 40000000
open Go.ChangeShapes Go.WideShapes Go.ChangeAt Go.RowKit
theorem ry (os:Os) (args:Array Value):laidMetH Tryz.prog Rows.versionsZeroRow.laid ((World.doorLaid Tryz.prog 400 os).forCall (fun _ _=>0) ⟨#[],args,[]⟩).memory :=
 laidMetH_of_parts3 (fuel:=8) (laidMet_of_run' 8 (by kernel_rfl) (by kernel_rfl)) (by kernel_rfl) (by kernel_rfl)
theorem pT (os:Os) (started:os.Started) (H:Type) (enc:TypeId×Value→H) :
  ReturnsInHanded {} Tryz.checked os 5 .any (fun w args=>(Rows.versionsZeroSpec.pre enc Tryz.prog Tryz.f5 [] false w args∧laidMetH Tryz.prog Rows.versionsZeroRow.laid w)∧sizedMet enc Tryz.prog Tryz.f5 (OpenSpec.ofChange Rows.versionsZeroSpec) false w args) (Rows.versionsZeroSpec.post enc Tryz.prog Tryz.f5 false true false false):=by
 refine u9 started (by kernel_rfl) Tryz.func5 rfl (by kernel_rfl) ?_ ?_ (ChangeSpec.witness_shaped (enc:=enc) (C:=Tryz.checked) (os:=os) (X:=fun w _=>laidMetH Tryz.prog Rows.versionsZeroRow.laid w) false (World.doorLaid Tryz.prog 400 os) #[.slice none 0 0] 8 rfl (World.shaped_of_RefB (by kernel_rfl) (by kernel_rfl)) (by kernel_rfl) (by kernel_rfl) (by kernel_rfl) (ry os _)) ?_
 ·rw[Tryz.params5]
  intro t ht
  simp only[List.mem_cons,List.not_mem_nil,or_false] at ht
  subst ht
  exact⟨by kernel_rfl,yG (by kernel_rfl)⟩
 ·intro ds hds
  match ds,hds with
  | [d0],_=>exact⟨rfl,rfl,rfl⟩
 intro W base args ds ps LI hA Wo
 rw[Tryz.params5] at hA LI
 obtain⟨v0,vs0,d0,ds0,p0,q0,ND,rfl,rfl,h0,r0⟩:=trodAll_cons hA
 obtain⟨rfl,rfl,rfl⟩:=trodAll_nil r0
 obtain rfl:args=#[v0]:=by cases args;simp_all
 obtain⟨a0,n0,c0,rfl⟩:=okWide_slice Tryz.underlying41 (LI 0 41 v0 rfl rfl)
 obtain⟨qvS,Zb⟩:=h0
 obtain⟨x0,hx0⟩:=sJ Zb
 exact Po _ x0 W hx0 (uc Wo)
theorem sU:Rows.VersionsZeroSaid :=
 OpenClaim.holds_of_wide 5 Tryz.f5 rfl rfl rfl rfl rfl rfl rfl ⟨rfl,rfl,rfl,rfl,rfl⟩ rfl rfl rfl rfl rfl (by kernel_rfl) Tryz.func5 (by kernel_rfl)
  (yG (by kernel_rfl)) (by unfold Func.isWrapper;first | (rw[if_pos (by decide +kernel)];kernel_rfl) | (rw[if_neg (by decide +kernel)];exact⟨rfl,rfl⟩))
  (fun os started H enc _=>pT os started H enc)
theorem versionsZero_holds:Rows.VersionsZeroCardSaid :=
 Claim7.holds_tied_plain_at .later [] [.data,.data,.data] true Rows.versionsZeroCard.stood.harness true
  sU (fun _ h=>by cases h) (by kernel_rfl) (fun _ h=>by cases h) versionsZero_row_tie rfl ⟨rfl,rfl⟩ (by kernel_rfl) rfl
  (fun f fn hf hfn=>by
   obtain rfl:f=5:=Option.some.inj ((show Tryz.prog.funcNamed "loftblock/loftblocklaw49.VersionsZero" = some 5 by kernel_rfl).symm.trans hf) |>.symm
   obtain rfl:fn=Tryz.f5:=(Option.some.inj (Tryz.func5.symm.trans hfn)).symm
   exact⟨by kernel_rfl,fun j t ht=>by
    rw[Tryz.params5] at ht
    have h3:t=41:=by
     rcases j with _ | j
     ·simpa using ht.symm
     simp at ht
    subst h3
    exact (show Tryz.prog.wantsStandIn 41=false by kernel_rfl)⟩)
  (by kernel_rfl)
#print axioms versionsZero_holds
end Go.Proofs.YtfhmbechennkbaaGreatDoor
