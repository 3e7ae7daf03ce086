/- For every input the law returns true, and its arguments read as they did. -/
import Derived.Test.YtfhmbechennkbaaGreatC8
import Derived.Test.YtfhmbechennkbaaGreatR12
namespace Go.Proofs.YtfhmbechennkbaaGreat
open Go.ChangeShapes Go.WideShapes Go.ChangeAt Go.RowKit
set_option maxRecDepth 100000 in
theorem verifyBeams_lifted (os:Os) (started:os.Started) (H:Type) (enc:TypeId × Value→H) :
  ReturnsInHanded {} Tryz.checked os 3 .any (Rows.verifyBeamsSpec.pre6 enc Tryz.prog Tryz.f3 Rows.verifyBeamsRow.domain false) (Rows.verifyBeamsSpec.post enc Tryz.prog Tryz.f3 false true false false):=by
 refine law_lifted started (by kernel_rfl) Tryz.func3 rfl (by kernel_rfl) ?_ ?_ (ChangeSpec.witness6 (enc:=enc) (C:=Tryz.checked) false ⟨#[],#[.agg #[.string ⟨#[]⟩,.int .i64 0,.slice none 0 0,.slice none 0 0,.int .i64 0],.slice none 0 0,.slice none 0 0],[]⟩ 8 (by kernel_rfl) (by kernel_rfl) (by kernel_rfl) (by kernel_rfl)) ?_
 ·rw [Tryz.params3]
  intro t ht
  simp only [List.mem_cons,List.not_mem_nil,or_false] at ht
  rcases ht with rfl | rfl | rfl <;> exact ⟨by kernel_rfl,of_decide_eq_true (by kernel_rfl)⟩
 ·intro ds hds
  match ds,hds with
  | [d0,d1,d2],_ => exact ⟨rfl,rfl,rfl⟩
 ·intro W base args ds ps hval hA
  rw [Tryz.params3] at hA hval
  obtain ⟨v0,vs0,d0,ds0,p0,q0,hargs,rfl,rfl,h0,r0⟩:=trodAll_cons hA
  obtain ⟨v1,vs1,d1,ds1,p1,q1,rfl,rfl,rfl,h1,r1⟩:=trodAll_cons r0
  obtain ⟨v2,vs2,d2,ds2,p2,q2,rfl,rfl,rfl,h2,r2⟩:=trodAll_cons r1
  obtain ⟨rfl,rfl,rfl⟩:=trodAll_nil r2
  obtain rfl:args=#[v0,v1,v2]:=by cases args;simp_all
  obtain ⟨cs0,rfl,hcs0⟩:=okWide_struct Tryz.underlying25 (hval 0 25 v0 rfl rfl)
  rw [show Tryz.prog.cellsOf 25=5 from by kernel_rfl] at hcs0
  obtain ⟨fuel0,hf0⟩:=h0
  obtain ⟨x0,hx0,hn0⟩:=beam_of_trod (by simpa [Value.cells] using hcs0) hf0
  obtain ⟨a1,n1,c1,rfl⟩:=okWide_slice Tryz.underlying26 (hval 1 26 v1 rfl rfl)
  obtain ⟨fuel1,hf1⟩:=h1
  obtain ⟨x1,A1,C1,e1,hx1⟩:=fracs_of_trod hf1
  obtain ⟨a2,n2,c2,rfl⟩:=okWide_slice Tryz.underlying26 (hval 2 26 v2 rfl rfl)
  obtain ⟨fuel2,hf2⟩:=h2
  obtain ⟨x2,A2,C2,e2,hx2⟩:=fracs_of_trod hf2
  exact lawVerifyBeams _ _ _ x0 x1 x2 W hx0 hn0 hx1 hx2
theorem verifyBeams_holds:Rows.VerifyBeamsSaid :=
 OpenClaim.holds_of_wide 3 Tryz.f3 rfl rfl rfl rfl rfl rfl rfl ⟨rfl,rfl,rfl,rfl,rfl⟩ rfl rfl rfl rfl rfl (by kernel_rfl) Tryz.func3 (by kernel_rfl)
  (of_decide_eq_true (by kernel_rfl)) (by unfold Func.isWrapper;first | (rw [if_pos (by decide +kernel)];kernel_rfl) | (rw [if_neg (by decide +kernel)];exact ⟨rfl,rfl⟩))
  (fun os started H enc _ => verifyBeams_lifted os started H enc)
#print axioms verifyBeams_holds
end Go.Proofs.YtfhmbechennkbaaGreat
