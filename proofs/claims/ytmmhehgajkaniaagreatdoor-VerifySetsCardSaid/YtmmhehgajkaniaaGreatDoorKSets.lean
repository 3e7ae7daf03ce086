/- For every input the law returns true, and its arguments read as they did. -/
import Derived.Test.YtmmhehgajkaniaaGreatDoorCards
import Derived.Test.YtmmhehgajkaniaaGreatDoorTie
import Derived.Test.YtmmhehgajkaniaaGreatDoorZ40
namespace Go.Proofs.YtmmhehgajkaniaaGreatDoor
set_option maxRecDepth 100000
set_option maxHeartbeats 40000000
open Go.ChangeShapes Go.WideShapes Go.ChangeAt Go.RowKit
theorem uY (os:Os) (args:Array Value):laidMetH Tryz.prog Rows.verifySetsRow.laid ((World.doorLaid Tryz.prog 400 os).forCall (fun _ _=>0) ⟨#[],args,[]⟩).memory :=
 laidMetH_of_parts3 (fuel:=8) (laidMet_of_run' 8 (by kernel_rfl) (by kernel_rfl)) (by kernel_rfl) (by kernel_rfl)
theorem rp (os:Os) (started:os.Started) (H:Type) (enc:TypeId×Value→H) :
  ReturnsInHanded {} Tryz.checked os 3 .any (fun w args=>(Rows.verifySetsSpec.pre enc Tryz.prog Tryz.f3 [] false w args∧laidMetH Tryz.prog Rows.verifySetsRow.laid w)∧sizedMet enc Tryz.prog Tryz.f3 (OpenSpec.ofChange Rows.verifySetsSpec) false w args) (Rows.verifySetsSpec.post enc Tryz.prog Tryz.f3 false true false false):=by
 refine Fz started (by kernel_rfl) Tryz.func3 rfl (by kernel_rfl) ?_ ?_ (ChangeSpec.witness_shaped (enc:=enc) (C:=Tryz.checked) (os:=os) (X:=fun w _=>laidMetH Tryz.prog Rows.verifySetsRow.laid w) false (World.doorLaid Tryz.prog 400 os) #[.agg zE,.slice none 0 0,.agg #[.int .i64 0,.int .i64 0]] 8 rfl (World.shaped_of_RefB (by kernel_rfl) (by kernel_rfl)) (by kernel_rfl) (by kernel_rfl) (by kernel_rfl) (uY os _)) ?_
 ·rw[Tryz.params3];intro t ht;simp only[List.mem_cons,List.not_mem_nil,or_false] at ht;rcases ht with rfl|rfl|rfl <;> exact⟨by kernel_rfl,yG (by kernel_rfl)⟩
 ·intro ds FJ
  match ds,FJ with
  | [d0,d1,d2],_=>exact⟨rfl,rfl,rfl⟩
 intro W base args ds ps xK hA;rw[Tryz.params3] at hA xK;obtain⟨v0,vs0,d0,ds0,p0,q0,UJ,rfl,rfl,h0,r0⟩:=trodAll_cons hA;obtain⟨v1,vs1,d1,ds1,p1,q1,rfl,rfl,rfl,h1,r1⟩:=trodAll_cons r0;obtain⟨v2,vs2,d2,ds2,p2,q2,rfl,rfl,rfl,h2,r2⟩:=trodAll_cons r1;obtain⟨rfl,rfl,rfl⟩:=trodAll_nil r2;obtain rfl:args=#[v0,v1,v2]:=by cases args;simp_all
 obtain⟨cs0,rfl,vxr⟩:=okWide_struct Tryz.underlying26 (xK 0 26 v0 rfl rfl);rw[show Tryz.prog.cellsOf 26=13 from by kernel_rfl] at vxr;obtain⟨vvt,hf0⟩:=h0;obtain⟨x0,Uq,t6⟩:=Ee (by simpa[Value.cells] using vxr) hf0;obtain⟨a1,n1,c1,rfl⟩:=okWide_slice Tryz.underlying27 (xK 1 27 v1 rfl rfl);obtain⟨vvs,hf1⟩:=h1;obtain⟨x1,cB⟩:=Ak hf1;obtain⟨cs2,rfl,vxq⟩:=okWide_struct Tryz.underlying29 (xK 2 29 v2 rfl rfl)
 rw[show Tryz.prog.cellsOf 29=2 from by kernel_rfl] at vxq;obtain⟨vvr,hf2⟩:=h2;obtain⟨x2,dc⟩:=CS vxq hf2;rw[dc];exact NT _ _ x0 x1 x2 W (by simpa[Value.cells] using Uq) t6 cB
theorem vvv {a b:Bool} (h:a=true) (h2:b=true):(a&&b)=true:=by rw[h,h2];rfl
theorem wy:Rows.VerifySetsSaid :=
 OpenClaim.holds_of_wide 3 Tryz.f3 rfl rfl rfl rfl rfl rfl rfl ⟨rfl,rfl,rfl,rfl,rfl⟩ rfl rfl rfl rfl rfl (by as_aux_lemma=>kernel_rfl) Tryz.func3 (by unfold joinedFacts;repeat' (with_reducible refine vvv ?_ ?_);all_goals (as_aux_lemma=>kernel_rfl))
  (yG (by as_aux_lemma=>kernel_rfl)) (by unfold Func.isWrapper;first|(rw[if_pos (by decide +kernel)];kernel_rfl)|(rw[if_neg (by decide +kernel)];exact⟨rfl,rfl⟩))
  (fun os started H enc _=>rp os started H enc)
theorem verifySets_holds:Rows.VerifySetsCardSaid :=
 Claim7.holds_tied_plain_at .later [] [.data,.data,.data] true Rows.verifySetsCard.stood.harness false
  wy (fun _ h=>by cases h) (by kernel_rfl) (fun _ h=>by cases h) verifySets_row_tie rfl ⟨rfl,rfl⟩ (by kernel_rfl) rfl
  (fun f fn hf Xe=>by
   obtain rfl:f=3:=Option.some.inj ((show Tryz.prog.funcNamed "loftblock/loftblocklaw51.VerifySets" = some 3 by kernel_rfl).symm.trans hf) |>.symm;obtain rfl:fn=Tryz.f3:=(Option.some.inj (Tryz.func3.symm.trans Xe)).symm;exact⟨by kernel_rfl,fun j t ht=>by
    rw[Tryz.params3] at ht;have h3:t=26∨t=27∨t=29:=by
     rcases j with _|_|_|j
     ·exact .inl (by simpa using ht.symm)
     ·exact .inr (.inl (by simpa using ht.symm))
     ·exact .inr (.inr ((by simpa using ht.symm)))
     simp at ht
    rcases h3 with rfl|rfl|rfl
    ·exact (show Tryz.prog.wantsStandIn 26=false by kernel_rfl)
    ·exact (show Tryz.prog.wantsStandIn 27=false by kernel_rfl)
    exact (show Tryz.prog.wantsStandIn 29=false by kernel_rfl)⟩)
  (by kernel_rfl)
#print axioms verifySets_holds
