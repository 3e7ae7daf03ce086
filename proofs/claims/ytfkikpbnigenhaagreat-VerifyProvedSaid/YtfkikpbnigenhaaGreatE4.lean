/- Parts of the proof, laid into one text: VerS, Ex51, Awake51, Open, Row, OpenInts, OpenSet, OpenJob. -/
import Derived.Below
import Derived.BigQuiet
import Derived.Carry
import Derived.ChangeSame
import Derived.Deep.AppendLies
import Derived.Deep.Draws
import Derived.Deep.Fields
import Derived.Deep.LoopGhost
import Derived.Deep.QuietTactic
import Derived.Deep.RegionHeld3
import Derived.Deep.RegionLaw
import Derived.Deep.Slices
import Derived.IntWalk
import Derived.Laws.Bits64b
import Derived.Laws.BitsLemmas
import Derived.Laws.CopyOwn
import Derived.Laws.EntriesVeiled
import Derived.Lib.Hide
import Derived.LoopIn
import Derived.LoopNIn
import Derived.Maps.AppendAt
import Derived.Maps.Own
import Derived.Maps.OwnOps
import Derived.Maps.OwnSet
import Derived.Maps.Views
import Derived.Outline
import Derived.OwnWalkIn
import Derived.PlainAid
import Derived.ProofKit
import Derived.RangeFuncBox
import Derived.RangeFuncLeaves
import Derived.Shelf.Abstract
import Derived.Shelf.Sort.Plain
import Derived.SliceStrings
import Derived.Sort.OwnSortedInts
import Derived.StillTail
import Derived.StillTailTactics
import Derived.TacticsInMore
import Derived.Test.YtfkikpbnigenhaaGreatC1
import Derived.Test.YtfkikpbnigenhaaGreatC2
import Derived.Test.YtfkikpbnigenhaaGreatC3
import Derived.Test.YtfkikpbnigenhaaGreatC4
import Derived.Test.YtfkikpbnigenhaaGreatC5
import Derived.Test.YtfkikpbnigenhaaGreatC6
import Derived.Test.YtfkikpbnigenhaaGreatC7
import Derived.Test.YtfkikpbnigenhaaGreatD1
import Derived.Test.YtfkikpbnigenhaaGreatD2
import Derived.Test.YtfkikpbnigenhaaGreatD3
import Derived.Test.YtfkikpbnigenhaaGreatE1
import Derived.Test.YtfkikpbnigenhaaGreatG1
import Derived.Test.YtfkikpbnigenhaaGreatG11
import Derived.Test.YtfkikpbnigenhaaGreatG2
import Derived.Test.YtfkikpbnigenhaaGreatG3
import Derived.Test.YtfkikpbnigenhaaGreatG4
import Derived.Test.YtfkikpbnigenhaaGreatG6
import Derived.Test.YtfkikpbnigenhaaGreatG8
import Derived.Test.YtfkikpbnigenhaaGreatG9
import Derived.Test.YtfkikpbnigenhaaGreatProg
import Derived.Test.YtfkikpbnigenhaaGreatRows
import Derived.WalkKit
import Derived.WalkLawsBesides
import Derived.WalkMore
import Derived.WalkSpells

namespace Go.Proofs.YtfkikpbnigenhaaGreat
open Go.RowKit Go.Shelf
noncomputable def schedIs (l : List Task) (c p : Int) (s : List Int) (n : Int) : Bool := (startsN l s == 0) && (checkB l c p s && ((lenTo l s l.length == n) && (bestN l c p == n)))
theorem given_validS {l : List Task} {c p : Int} (h : givenN l c p = 0) : validB l c p = true := by
 unfold givenN at h
 cases hv : validB l c p with
 | false => rw [hv] at h;simp at h
 | true => rfl
def CovX (l : List Task) (c p : Int) : Prop := (∃ L y,Covers l [l.length] L y) ∧ ∃ K z,Heavy l c p (2 ^ l.length) K z
theorem bestYesC (v : Value) (l : List Task) (c p : Int) (w : World) (hl : TasksAt w w.heap.size v l) (hg : givenN l c p = 0) :
  Calls Tryz.prog 40 #[v,.int .i64 c,.int .i64 p] w fun e w' => e = .returned (.tuple #[.int .i64 (bestN l c p),.int .i64 0]) ∧ CovX l c p ∧ Below w.heap.size w w' :=
 (boundsBest v l c p w hl).mono fun e w' h => by
  obtain ⟨hb,⟨hno,rfl⟩ | ⟨hz,L,K,y,s,hc,hh,rfl⟩⟩ := h
  ·exact absurd hg hno
  ·unfold bestN
   rw [pathN_eq hc,cliqueN_eq hh]
   exact ⟨rfl,⟨⟨L,y,hc⟩,⟨K,s,hh⟩⟩,hb⟩
set_option maxRecDepth 100000 in
set_option maxHeartbeats 4000000 in
theorem vrScheduleC (v u : Value) (l : List Task) (c p : Int) (s : List Int) (n : Int) (w : World) (hl : TasksAt w w.heap.size v l) (hs : IntsAt w w.heap.size u s) (hw : Wide s) :
  Calls Tryz.prog 16 #[v,.int .i64 c,.int .i64 p,u,.int .i64 n] w fun e w' => e = .returned (.tuple #[.bool ((givenN l c p == 0) && schedIs l c p s n),.int .i64 (givenN l c p)]) ∧ (givenN l c p = 0 → CovX l c p) ∧ Below w.heap.size w w' := by
 have HT : Hid (∀ w1,Below w.heap.size w w1 → TasksAt w1 w1.heap.size v l) := fun w1 hb => (hl.below hb (Nat.le_refl _)).mono hb.size
 have HS : Hid (∀ w1,Below w.heap.size w w1 → IntsAt w1 w1.heap.size u s) := fun w1 hb => (hs.below hb (Nat.le_refl _)).mono hb.size
 by_cases hg : givenN l c p = 0
 rotate_left
 ·have hB := bestNo v l c p w hl hg
  have e1 : (givenN l c p == 0) = false := beq_eq_false_iff_ne.2 hg
  have e2 : (givenN l c p != 0) = true := bne_iff_ne.2 hg
  rw [e1,Bool.false_and]
  clear hl hs hg
  generalize givenN l c p = g at *
  go_enter Tryz.func16,Tryz.ntmps16
  go_wp2_with (go_at_call 40;refine hB.mono ?_;rintro e w1 ⟨rfl,hb1⟩)
  go_ret2
  exact ⟨rfl,(fun h => by rw [h] at e2;cases e2),hb1⟩
 have hB := bestYesC v l c p w hl hg
 have hce : checkE l c p s = startsN l s := checkE_yes (given_validS hg)
 have hr : rightR l = true := (right_iff l).2 (givenN_zero hg).1
 have HCk : Hid (∀ w1,Below w.heap.size w w1 → Calls Tryz.prog 18 #[v,.int .i64 c,.int .i64 p,u] w1 (CheckPost l c p s w1)) := fun w1 hb => schedCheck v _ l c p s w1 (HT.out w1 hb) (HS.out w1 hb) hw
 have HLn : Hid (∀ w1,Below w.heap.size w w1 → Calls Tryz.prog 41 #[v,u] w1 (LengthPost l s w1)) := fun w1 hb => schedLength v _ l s w1 (HT.out w1 hb) (HS.out w1 hb) hw
 unfold CheckPost at HCk
 unfold LengthPost at HLn
 rw [hce] at HCk
 rw [hg]
 clear hl hs hg hce
 by_cases hst : startsN l s = 0
 rotate_left
 ·have e1 : (startsN l s == 0) = false := beq_eq_false_iff_ne.2 hst
  have e2 : (startsN l s != 0) = true := bne_iff_ne.2 hst
  have HV : Hid (schedIs l c p s n = false) := by unfold Hid schedIs;rw [e1];rfl
  rw [decide_eq_false hst,Bool.false_and] at HCk
  clear hst
  generalize startsN l s = st at *
  generalize bestN l c p = bn at *
  go_enter Tryz.func16,Tryz.ntmps16
  go_wp2_with (first | (go_at_call 40;refine hB.mono ?_;rintro e w1 ⟨rfl,hcx,hb1⟩) | (go_at_call 18;refine (HCk.out _ hb1).mono ?_;rintro e w2 ⟨hb2,rfl⟩))
  go_ret2
  exact ⟨by rw [HV.out];rfl,fun _ => hcx,hb1.trans (hb2.mono hb1.size)⟩
 rw [hst] at HCk HLn
 have Hst := Lib.hid hst
 rw [show decide ((0 : Int) = 0) = true from rfl] at HCk
 simp only [Bool.true_and] at HCk
 clear hst
 rcases Bool.eq_false_or_eq_true (checkB l c p s) with hk | hk
 rotate_left
 ·have HV : Hid (schedIs l c p s n = false) := by unfold Hid schedIs;rw [hk,Bool.false_and,Bool.and_false]
  rw [hk] at HCk
  clear hk
  generalize bestN l c p = bn at *
  go_enter Tryz.func16,Tryz.ntmps16
  go_wp2_with (first | (go_at_call 40;refine hB.mono ?_;rintro e w1 ⟨rfl,hcx,hb1⟩) | (go_at_call 18;refine (HCk.out _ hb1).mono ?_;rintro e w2 ⟨hb2,rfl⟩))
  go_ret2
  exact ⟨by rw [HV.out];rfl,fun _ => hcx,hb1.trans (hb2.mono hb1.size)⟩
 have HLn' : Hid (∀ w1,Below w.heap.size w w1 → Calls Tryz.prog 41 #[v,u] w1 fun e w' => e = .returned (.tuple #[.int .i64 (lenTo l s l.length),.int .i64 0]) ∧ Below w1.heap.size w1 w') := fun w1 hb => (HLn.out w1 hb).mono fun e w' h => by
  obtain ⟨hb',⟨hno,-⟩ | ⟨-,rfl⟩⟩ := h
  ·rw [hr] at hno;cases hno
  ·exact ⟨rfl,hb'⟩
 rw [hk] at HCk
 have HV : Hid (schedIs l c p s n = ((lenTo l s l.length == n) && (bestN l c p == n))) := by unfold Hid schedIs;rw [hk,Hst.out];rfl
 clear hk HLn hr
 rcases Bool.eq_false_or_eq_true (lenTo l s l.length == n) with hn | hn
 all_goals
  rw [hn] at HV
  generalize lenTo l s l.length = ln at *
  generalize bestN l c p = bn at *
  go_enter Tryz.func16,Tryz.ntmps16
  go_wp2_with (first | (go_at_call 40;refine hB.mono ?_;rintro e w1 ⟨rfl,hcx,hb1⟩) | (go_at_call 18;refine (HCk.out _ hb1).mono ?_;rintro e w2 ⟨hb2,rfl⟩;have hb3 := hb1.trans (hb2.mono hb1.size)) | (go_at_call 41;refine (HLn'.out _ hb3).mono ?_;rintro e w4 ⟨rfl,hb4⟩))
  go_ret2
  exact ⟨by rw [HV.out];rfl,fun _ => hcx,hb3.trans (hb4.mono hb3.size)⟩
theorem vrSchedule (v u : Value) (l : List Task) (c p : Int) (s : List Int) (n : Int) (w : World) (hl : TasksAt w w.heap.size v l) (hs : IntsAt w w.heap.size u s) (hw : Wide s) :
  Calls Tryz.prog 16 #[v,.int .i64 c,.int .i64 p,u,.int .i64 n] w fun e w' => e = .returned (.tuple #[.bool ((givenN l c p == 0) && schedIs l c p s n),.int .i64 (givenN l c p)]) ∧ Below w.heap.size w w' :=
 (vrScheduleC v u l c p s n w hl hs hw).mono fun _ _ h => ⟨h.1,h.2.2⟩
end Go.Proofs.YtfkikpbnigenhaaGreat

namespace Go.Proofs.YtfkikpbnigenhaaGreat
def exT51 : Task := ⟨⟨#[116]⟩,7,0,0,none,0,[]⟩
def ex51 : List Task := [exT51]
theorem e51_edge {i j : Nat} : ¬ edge ex51 i j := by
 rintro ⟨hi,hj,h⟩
 have hi' : i < 1 := hi
 have hj' : j < 1 := hj
 obtain rfl : i = 0 := by omega
 obtain rfl : j = 0 := by omega
 revert h
 simp [ex51,exT51]
theorem e51_chain {z : List Nat} (h : Chain ex51 z) : z = [] ∨ z = [0] := by
 match z,h with
 | [],_ => exact .inl rfl
 | [i],h =>
  have : i < 1 := h.1 i (by simp)
  obtain rfl : i = 0 := by omega
  exact .inr rfl
 | i :: j :: t,h => exact absurd (Chain.cons_iff.1 h).1 e51_edge
theorem e51_covers : Covers ex51 [1] 7 [0] := by
 have s0 : lenAt ex51 0 = 7 := rfl
 refine ⟨Chain.one (show 0 < 1 by omega),.inl (by omega),by simp [sumAt,s0],fun z hz _ => ?_,fun z hz _ hs => ?_⟩
 ·rcases e51_chain hz with rfl | rfl
  ·simp [sumAt]
  ·simp [sumAt,s0]
 ·rcases e51_chain hz with rfl | rfl
  ·simp [sumAt] at hs
  ·exact .inl rfl
theorem e51_work : workN ex51 1 1 = 0 := by
 simp [workN,stepN,needN,ex51,exT51]
theorem e51_heavy : Heavy ex51 1 1 (2 ^ 1) 7 1 := by
 have s0 : lenAt ex51 0 = 7 := rfl
 refine ⟨fun i k hi hk hi' hk' => ?_,show 1 < 2 ^ 1 by decide,by simp [sumAt,memb,ex51,List.range_succ,Nat.testBit,lenAt,lens,exT51],fun z hz hc => ?_,fun z hz h1 hc => ?_,.inr (by decide)⟩
 ·have hi3 : i < 1 := hi
  omega
 ·have hz' : z < 2 := hz
  rcases (show z = 0 ∨ z = 1 by omega) with rfl | rfl <;> simp [sumAt,memb,ex51,List.range_succ,Nat.testBit,lenAt,lens,exT51]
 ·obtain rfl : z = 0 := by omega
  simp [sumAt,memb,ex51,List.range_succ,Nat.testBit,exT51]
theorem e51_right : RightT ex51 := by
 have hn : nameB ⟨#[116]⟩ = true := by decide
 refine { len := show 1 ≤ 8 by omega,field := fun i hi => ?_,dist := by decide,bef := (befOK_iff _).2 fun t ht => ?_,acyc := ⟨id,fun k hk j hj => ?_⟩ }
 ·have hi' : i < 1 := hi
  obtain rfl : i = 0 := by omega
  simp [fieldB,ex51,exT51,hn,betweenB]
 ·simp only [ex51,List.mem_cons,List.not_mem_nil,or_false] at ht
  subst ht
  exact Good.nil _ _
 ·rw [getD_rows hk] at hj
  unfold pls at hj
  rw [List.mem_map] at hj
  obtain ⟨s,hs,rfl⟩ := hj
  have hk' : k < 1 := hk
  obtain rfl : k = 0 := by omega
  simp [ex51,exT51] at hs
theorem e51_given : givenN ex51 1 1 = 0 := by
 have h := (right_iff _).2 e51_right
 unfold givenN validB
 rw [h]
 simp [betweenB,tooMuch,ex51,exT51]
theorem e51_best : bestN ex51 1 1 = 7 := by
 unfold bestN
 rw [e51_work,pathN_eq (l := ex51) e51_covers,cliqueN_eq (l := ex51) e51_heavy]
 rfl
end Go.Proofs.YtfkikpbnigenhaaGreat

namespace Go.Proofs.YtfkikpbnigenhaaGreat
open Go.RowKit Go.Shelf
def b51 : BeamT := ⟨⟨#[98]⟩,1000,[0,1000],[⟨500,10⟩],0⟩
def r51 : List FrT := [⟨5,1⟩,⟨5,1⟩]
def m51 : List FrT := [⟨0,1⟩,⟨0,1⟩]
theorem b51_arg : beamArg b51 r51 m51 = true := by decide +kernel
theorem b51_is : beamIs b51 r51 m51 = true := by decide +kernel
set_option maxHeartbeats 1000000 in
theorem lawWhole (n : Int) (w : World) : Calls Tryz.prog 20 #[.int .i64 n] w fun e w' => e = .returned (.agg #[.int .i64 n,.int .i64 1]) ∧ Below w.heap.size w w' := by
 go_enter Tryz.func20,Tryz.ntmps20
 go_wp2_with fail
 refine bodyPost_ret (v := .agg #[.int .i64 n,.int .i64 1]) (by simp [results,Tryz.results20,go_sem]) rfl ?_
 exact ⟨rfl,(Below.refl _ _).alloc (Nat.le_refl _) _⟩
def gC (v0 : Value) : GPost := ⟨fun v => v = v0,fun _ _ => True,⟨_,rfl⟩,fun _ _ _ _ _ => trivial,false⟩
def gF (l : List FrT) : GPost := ⟨fun v => ∃ g,v = .slice (some ⟨g,0,none⟩) l.length l.length,fun v w => FrsAt w w.heap.size v l,⟨_,0,rfl⟩,fun _ _ _ hb h => (FrsAt.below h hb (Nat.le_refl _)).mono hb.size,false⟩
theorem frs_new (w : World) (T : TypeId) (l : List FrT) (hl : l.length ≤ 100) : FrsAt (w.alloc (.cells (l.flatMap FrT.cells).toArray T)) (w.alloc (.cells (l.flatMap FrT.cells).toArray T)).heap.size (.slice (some ⟨w.heap.size,0,none⟩) l.length l.length) l := by
 refine ⟨some ⟨w.heap.size,0,none⟩,l.length,rfl,Nat.le_refl _,by unfold maxLen;omega,fun _ => ⟨w.heap.size,0,rfl,by simp,fun j u hu => ?_⟩⟩
 rw [Nat.zero_add,(Blk.new w T _).cell]
 simpa using hu
theorem gF_new {P : Program} {o : Oper} {a : Act} {w : World} {T : TypeId} {l : List FrT} (hl : l.length ≤ 100) (h : (execOp a.eval o).run P w = .ok (.value (.slice (some ⟨w.heap.size,0,none⟩) l.length l.length)) (w.alloc (.cells (l.flatMap FrT.cells).toArray T))) : newAt P o a (gF l) w :=
 ⟨_,_,h,(Below.refl _ _).alloc (Nat.le_refl _) _,⟨_,rfl⟩,frs_new w T l hl,fun h => by cases h⟩
theorem whole_g (n : Int) (w : World) : Calls Tryz.prog 20 #[.int .i64 n] w fun e w' => ∃ v,e = .returned v ∧ Below w.heap.size w w' ∧ (gC (.agg #[.int .i64 n,.int .i64 1])).σ v ∧ (gC (.agg #[.int .i64 n,.int .i64 1])).φ v w' :=
 (lawWhole n w).mono fun _ _ ⟨he,hb⟩ => ⟨_,he,hb,rfl,trivial⟩
theorem loads_new (w : World) (T : TypeId) (l : List LoadT) (hl : l.length ≤ 100) : LoadsAt (w.alloc (.cells (l.flatMap LoadT.cells).toArray T)) (w.alloc (.cells (l.flatMap LoadT.cells).toArray T)).heap.size (.slice (some ⟨w.heap.size,0,none⟩) l.length l.length) l := by
 refine ⟨some ⟨w.heap.size,0,none⟩,l.length,rfl,Nat.le_refl _,by unfold maxLen;omega,fun _ => ⟨w.heap.size,0,rfl,by simp,fun j u hu => ?_⟩⟩
 rw [Nat.zero_add,(Blk.new w T _).cell]
 simpa using hu
theorem task51_new (w : World) : TasksAt (w.alloc (.cells #[.string ⟨#[116]⟩,.int .i64 7,.int .i64 0,.int .i64 0,.slice none 0 0] 62)) (w.alloc (.cells #[.string ⟨#[116]⟩,.int .i64 7,.int .i64 0,.int .i64 0,.slice none 0 0] 62)).heap.size (.slice (some ⟨w.heap.size,0,none⟩) 1 1) ex51 := by
 refine ⟨⟨some ⟨w.heap.size,0,none⟩,1,rfl,Nat.le_refl _,by unfold maxLen;omega,fun _ => ⟨w.heap.size,0,rfl,by simp,fun j u hu => ?_⟩⟩,fun t ht => ?_,fun t ht => ?_⟩
 ·rw [Nat.zero_add,(Blk.new w _ _).cell]
  rw [List.getElem?_toArray]
  exact hu
 ·simp only [ex51,List.mem_cons,List.not_mem_nil,or_false] at ht
  subst ht
  exact ⟨none,0,rfl,Nat.le_refl _,Nat.zero_le _,fun h => absurd h (by simp [exT51])⟩
 ·simp only [ex51,List.mem_cons,List.not_mem_nil,or_false] at ht
  subst ht
  exact ⟨by decide,by simp [exT51],by simp only [exT51];omega,by simp only [exT51];omega,by simp only [exT51];omega⟩
theorem is51_yes : schedIs ex51 1 1 [0] 7 = true := by
 unfold schedIs
 rw [e51_best]
 decide +kernel
theorem is51_no : schedIs ex51 1 1 [1] 8 = false := by
 unfold schedIs
 rw [e51_best,show ((7 : Int) == 8) = false from rfl,Bool.and_false,Bool.and_false,Bool.and_false]
theorem wide1 (x : Int) (h : x = 0 ∨ x = 1) : Wide [x] := fun y hy => by
 rw [List.mem_singleton] at hy
 subst hy
 omega
theorem beam51_g (v v1 v2 : Value) (w : World) (hv : BeamAt w w.heap.size v b51) (h1 : FrsAt w w.heap.size v1 r51) (h2 : FrsAt w w.heap.size v2 m51) :
  Calls Tryz.prog 19 #[v,v1,v2] w fun e w' => ∃ u,e = .returned u ∧ Below w.heap.size w w' ∧ (gC (.tuple #[.bool true,.int .i64 0])).σ u ∧ (gC (.tuple #[.bool true,.int .i64 0])).φ u w' :=
 (vrBeam v v1 v2 b51 r51 m51 w hv (by decide) h1 h2).mono fun e w' ⟨hb,h⟩ => by
  rcases h with ⟨h,-⟩ | ⟨-,rfl⟩
  ·rw [b51_arg] at h;cases h
  ·rw [b51_is];exact ⟨_,rfl,hb,rfl,trivial⟩
theorem sched51 (v u : Value) (x n : Int) (r : Bool) (w : World) (hx : x = 0 ∨ x = 1) (hr : schedIs ex51 1 1 [x] n = r) (hv : TasksAt w w.heap.size v ex51) (hu : IntsAt w w.heap.size u [x]) :
  Calls Tryz.prog 16 #[v,.int .i64 1,.int .i64 1,u,.int .i64 n] w fun e w' => e = .returned (.tuple #[.bool r,.int .i64 0]) ∧ Below w.heap.size w w' := by
 have h := vrSchedule v u ex51 1 1 [x] n w hv hu (wide1 x hx)
 rw [e51_given,hr] at h
 exact h
set_option maxRecDepth 100000 in
set_option maxHeartbeats 4000000 in
theorem lawAwake51 (w : World) : Calls Tryz.prog 5 #[] w fun e w' => e = .returned (.bool true) ∧ Below w.heap.size w w' := by
 have hb1 : Below w.heap.size w (w.alloc (.cells #[.int .i64 0,.int .i64 1000] 3)) := (Below.refl _ _).alloc (Nat.le_refl _) _
 have hb2 : Below (w.alloc (.cells #[.int .i64 0,.int .i64 1000] 3)).heap.size (w.alloc (.cells #[.int .i64 0,.int .i64 1000] 3)) ((w.alloc (.cells #[.int .i64 0,.int .i64 1000] 3)).alloc (.cells #[.int .i64 500,.int .i64 10] 51)) := (Below.refl _ _).alloc (Nat.le_refl _) _
 have hb3 : Below ((w.alloc (.cells #[.int .i64 0,.int .i64 1000] 3)).alloc (.cells #[.int .i64 500,.int .i64 10] 51)).heap.size ((w.alloc (.cells #[.int .i64 0,.int .i64 1000] 3)).alloc (.cells #[.int .i64 500,.int .i64 10] 51)) (((w.alloc (.cells #[.int .i64 0,.int .i64 1000] 3)).alloc (.cells #[.int .i64 500,.int .i64 10] 51)).alloc (.cells #[.string ⟨#[98]⟩,.int .i64 1000,.slice (some ⟨w.heap.size,0,none⟩) 2 2,.slice (some ⟨w.heap.size + 1,0,none⟩) 1 1,.int .i64 0] 54)) := (Below.refl _ _).alloc (Nat.le_refl _) _
 have HV : Hid (BeamAt (((w.alloc (.cells #[.int .i64 0,.int .i64 1000] 3)).alloc (.cells #[.int .i64 500,.int .i64 10] 51)).alloc (.cells #[.string ⟨#[98]⟩,.int .i64 1000,.slice (some ⟨w.heap.size,0,none⟩) 2 2,.slice (some ⟨w.heap.size + 1,0,none⟩) 1 1,.int .i64 0] 54)) (((w.alloc (.cells #[.int .i64 0,.int .i64 1000] 3)).alloc (.cells #[.int .i64 500,.int .i64 10] 51)).alloc (.cells #[.string ⟨#[98]⟩,.int .i64 1000,.slice (some ⟨w.heap.size,0,none⟩) 2 2,.slice (some ⟨w.heap.size + 1,0,none⟩) 1 1,.int .i64 0] 54)).heap.size (.agg #[.string ⟨#[98]⟩,.int .i64 1000,.slice (some ⟨w.heap.size,0,none⟩) 2 2,.slice (some ⟨w.heap.size + 1,0,none⟩) 1 1,.int .i64 0]) b51) := by
  have hI := ints_new w 3 [0,1000] (by decide)
  have hL := loads_new (w.alloc (.cells #[.int .i64 0,.int .i64 1000] 3)) 51 [⟨500,10⟩] (by decide)
  rw [show (w.alloc (.cells #[.int .i64 0,.int .i64 1000] 3)).heap.size = w.heap.size + 1 by simp] at hL
  have hI' := ((RowAt.below hI hb2 (Nat.le_refl _)).mono hb2.size)
  exact ⟨_,_,_,_,rfl,((RowAt.below hI' hb3 (Nat.le_refl _)).mono hb3.size),(hL.below hb3 (Nat.le_refl _)).mono hb3.size⟩
 have HB := Lib.hid ((hb1.trans (hb2.mono hb1.size)).trans (hb3.mono (hb1.trans (hb2.mono hb1.size)).size))
 have HD := Lib.hid (Blk.new ((w.alloc (.cells #[.int .i64 0,.int .i64 1000] 3)).alloc (.cells #[.int .i64 500,.int .i64 10] 51)) 54 #[.string ⟨#[98]⟩,.int .i64 1000,.slice (some ⟨w.heap.size,0,none⟩) 2 2,.slice (some ⟨w.heap.size + 1,0,none⟩) 1 1,.int .i64 0])
 have hsz : ((w.alloc (.cells #[.int .i64 0,.int .i64 1000] 3)).alloc (.cells #[.int .i64 500,.int .i64 10] 51)).heap.size = w.heap.size + 1 + 1 := by simp
 rw [hsz] at HD
 clear hb1 hb2 hb3 hsz
 go_enter Tryz.func5,Tryz.ntmps5
 go_wp2_with fail
 generalize (((w.alloc (.cells #[.int .i64 0,.int .i64 1000] 3)).alloc (.cells #[.int .i64 500,.int .i64 10] 51)).alloc (.cells #[.string ⟨#[98]⟩,.int .i64 1000,.slice (some ⟨w.heap.size,0,none⟩) 2 2,.slice (some ⟨w.heap.size + 1,0,none⟩) 1 1,.int .i64 0] 54)) = W3 at *
 have y0 := HD.out.cell 0
 have y1 := HD.out.cell 1
 have y2 := HD.out.cell 2
 have y3 := HD.out.cell 3
 have y4 := HD.out.cell 4
 simp only [List.getElem?_toArray,List.getElem?_cons_succ,List.getElem?_cons_zero] at y0 y1 y2 y3 y4
 have u0 := HeldB.cell y0
 have u1 := HeldB.cell y1
 have u2 := HeldB.cell y2
 have u3 := HeldB.cell y3
 have u4 := HeldB.cell y4
 clear y0 y1 y2 y3 y4
 refine wp_region_grow 12 (fun jx => if jx = 1 then some (gC (.agg #[.int .i64 5,.int .i64 1])) else if jx = 2 then some (gC (.agg #[.int .i64 5,.int .i64 1])) else if jx = 3 then some (gF r51) else if jx = 4 then some (gC (.agg #[.int .i64 0,.int .i64 1])) else if jx = 5 then some (gC (.agg #[.int .i64 0,.int .i64 1])) else if jx = 6 then some (gF m51) else if jx = 7 then some (gC (.tuple #[.bool true,.int .i64 0])) else none) (by kernel_rfl) (by kernel_rfl) ?_
 simp only [List.take_succ_cons,List.take_zero,List.drop_succ_cons,List.drop_zero]
 refine wpG_quiet 1 (by kernel_rfl) (by rfl) (by decide) ?_
 simp only [List.take_succ_cons,List.take_zero,List.drop_succ_cons,List.drop_zero]
 repeat (go_big_quiet_step (fail))
 refine wpQuiet_nil ?_
 refine wpG_call rfl rfl ?_ ?_
 ·intro w1 hb1 hk
  have hC := whole_g 5 w1
  exact ⟨20,#[.int .i64 5],by go_simp,hC⟩
 rintro _ rfl
 simp only [Act.put,List.setIfInBounds_toArray,List.set_cons_zero,List.set_cons_succ]
 refine wpG_call rfl rfl ?_ ?_
 ·intro w1 hb1 hk
  have hC := whole_g 5 w1
  exact ⟨20,#[.int .i64 5],by go_simp,hC⟩
 rintro _ rfl
 simp only [Act.put,List.setIfInBounds_toArray,List.set_cons_zero,List.set_cons_succ]
 refine wpG_new rfl rfl (fun w1 hb1 _ => gF_new (T := 57) (l := r51) (by decide) (by go_simp;exact ⟨rfl,rfl⟩)) ?_
 rintro _ ⟨g17,rfl⟩
 simp only [Act.put,List.setIfInBounds_toArray,List.set_cons_zero,List.set_cons_succ]
 refine wpG_call rfl rfl ?_ ?_
 ·intro w1 hb1 hk
  have hC := whole_g 0 w1
  exact ⟨20,#[.int .i64 0],by go_simp,hC⟩
 rintro _ rfl
 simp only [Act.put,List.setIfInBounds_toArray,List.set_cons_zero,List.set_cons_succ]
 refine wpG_call rfl rfl ?_ ?_
 ·intro w1 hb1 hk
  have hC := whole_g 0 w1
  exact ⟨20,#[.int .i64 0],by go_simp,hC⟩
 rintro _ rfl
 simp only [Act.put,List.setIfInBounds_toArray,List.set_cons_zero,List.set_cons_succ]
 refine wpG_new rfl rfl (fun w1 hb1 _ => gF_new (T := 57) (l := m51) (by decide) (by go_simp;exact ⟨rfl,rfl⟩)) ?_
 rintro _ ⟨g20,rfl⟩
 simp only [Act.put,List.setIfInBounds_toArray,List.set_cons_zero,List.set_cons_succ]
 refine wpG_call rfl rfl ?_ ?_
 ·intro w1 hb1 hk
  have h17 : FrsAt w1 w1.heap.size (.slice (some ⟨g17,0,none⟩) 2 2) r51 := hk 17 (of_decide_eq_true (by kernel_rfl))
  have h20 : FrsAt w1 w1.heap.size (.slice (some ⟨g20,0,none⟩) 2 2) m51 := hk 20 (of_decide_eq_true (by kernel_rfl))
  have hC := beam51_g (.agg #[.string ⟨#[98]⟩,.int .i64 1000,.slice (some ⟨w.heap.size,0,none⟩) 2 2,.slice (some ⟨w.heap.size + 1,0,none⟩) 1 1,.int .i64 0]) _ _ w1 (HV.out.grow hb1) h17 h20
  exact ⟨19,#[.agg #[.string ⟨#[98]⟩,.int .i64 1000,.slice (some ⟨w.heap.size,0,none⟩) 2 2,.slice (some ⟨w.heap.size + 1,0,none⟩) 1 1,.int .i64 0],.slice (some ⟨g17,0,none⟩) 2 2,.slice (some ⟨g20,0,none⟩) 2 2],by go_simp;exact ⟨rfl,rfl⟩,hC⟩
 rintro _ rfl
 simp only [Act.put,List.setIfInBounds_toArray,List.set_cons_zero,List.set_cons_succ]
 refine wpG_quiet 4 (by kernel_rfl) (by rfl) (by decide) ?_
 simp only [List.take_succ_cons,List.take_zero,List.drop_succ_cons,List.drop_zero]
 repeat (go_big_quiet_step (fail))
 refine wpQuiet_nil ?_
 refine wpG_nil ?_
 intro w8 hb8 hF
 have HB8 := Lib.hid (HB.out.trans (hb8.mono HB.out.size))
 clear hF hb8
 have hT := task51_new w8
 have hT1 := fun W (hb : Below (w8.alloc (.cells #[.string ⟨#[116]⟩,.int .i64 7,.int .i64 0,.int .i64 0,.slice none 0 0] 62)).heap.size (w8.alloc (.cells #[.string ⟨#[116]⟩,.int .i64 7,.int .i64 0,.int .i64 0,.slice none 0 0] 62)) W) => (hT.below hb (Nat.le_refl _)).mono hb.size
 have hbT : Below w8.heap.size w8 (w8.alloc (.cells #[.string ⟨#[116]⟩,.int .i64 7,.int .i64 0,.int .i64 0,.slice none 0 0] 62)) := (Below.refl _ _).alloc (Nat.le_refl _) _
 have hI0 := ints_new (w8.alloc (.cells #[.string ⟨#[116]⟩,.int .i64 7,.int .i64 0,.int .i64 0,.slice none 0 0] 62)) 3 [0] (by decide)
 have hbI : Below (w8.alloc (.cells #[.string ⟨#[116]⟩,.int .i64 7,.int .i64 0,.int .i64 0,.slice none 0 0] 62)).heap.size (w8.alloc (.cells #[.string ⟨#[116]⟩,.int .i64 7,.int .i64 0,.int .i64 0,.slice none 0 0] 62)) ((w8.alloc (.cells #[.string ⟨#[116]⟩,.int .i64 7,.int .i64 0,.int .i64 0,.slice none 0 0] 62)).alloc (.cells #[.int .i64 0] 3)) := (Below.refl _ _).alloc (Nat.le_refl _) _
 rw [show (w8.alloc (.cells #[.string ⟨#[116]⟩,.int .i64 7,.int .i64 0,.int .i64 0,.slice none 0 0] 62)).heap.size = w8.heap.size + 1 by simp] at hI0
 have hS := sched51 _ _ 0 7 true _ (.inl rfl) is51_yes (hT1 _ hbI) hI0
 go_wp2_with fail
 refine hS.mono ?_
 rintro e w9 ⟨rfl,hb9⟩
 have hb10 := hbI.trans (hb9.mono hbI.size)
 have hI1 := ints_new w9 3 [1] (by decide)
 have hb11 := hb10.alloc hb10.size (.cells #[.int .i64 1] 3)
 have hS2 := sched51 _ _ 1 8 false _ (.inr rfl) is51_no (hT1 _ hb11) hI1
 clear hS hI0 hI1 hb9 hbI hb10
 go_wp2_with fail
 refine hS2.mono ?_
 rintro e w12 ⟨rfl,hb12⟩
 have hb13 := HB8.out.trans ((hbT.trans ((hb11.trans (hb12.mono hb11.size)).mono hbT.size)).mono HB8.out.size)
 clear hS2 hb12 hb11
 go_wp2_with fail
 go_ret
 exact ⟨rfl,hb13⟩
end Go.Proofs.YtfkikpbnigenhaaGreat

namespace Go.Proofs.YtfkikpbnigenhaaGreat
open Go.RowKit Go.Shelf Go.ChangeShapes Go.WideShapes Go.Deep
theorem add_none (b off k : Nat) : (Addr.mk b off none).add k = ⟨b,off + k,none⟩ := by
 unfold Addr.add
 split
 ·rename_i h;subst h;rfl
 ·rfl
theorem cell_lt {w : World} {a : Addr} {v : Value} (h : w.cell? a = some v) : a.block < w.heap.size := by
 unfold World.cell? at h
 split at h
 ·rename_i c t z hh
  exact (Array.getElem?_eq_some_iff.1 hh).1
 ·cases h
theorem spot_none {w : World} {b off : Nat} {s : Option Nat} {v : Value} (h : w.cell? ((Addr.mk b off s).add 0) = some v) : s = none := by
 simpa [Addr.add] using World.cell?_spot h
theorem list5 {α : Type} : ∀ {cs : List α},cs.length = 5 → ∃ a b c d e,cs = [a,b,c,d,e]
 | [a,b,c,d,e],_ => ⟨a,b,c,d,e,rfl⟩
section
variable {H : Type} {enc : TypeId × Value → H} {w : World} {base : Nat} {spare : Nat → Bool} {held : Bool}
theorem strs_of_trod {fuel : Nat} {v : Value} {x : DataW H × List MemPlace} (h : DataW.trod enc Tryz.prog w base spare held fuel 60 [v] = some x) :
  ∃ l,StrsAt w w.heap.size v l ∧ (∀ s ∈ l,s.size ≤ maxLen) ∧ ∃ A c,v = .slice A l.length c := by
 rcases open_strings Tryz.underlying60 Tryz.underlying9 (by kernel_rfl) h with ⟨hcs,-⟩ | ⟨a,len,cap,ss,hcs,_,hl,hm,hlen,-,hcell,hsz⟩
 ·obtain rfl : v = .slice none 0 0 := by simpa using hcs
  exact ⟨[],⟨none,0,rfl,Nat.le_refl _,Nat.zero_le _,fun h => absurd h (by simp)⟩,by simp,none,0,rfl⟩
 ·obtain rfl : v = .slice (some a) len cap := by simpa using hcs
  have hle : len ≤ ss.length := by rw [hlen];split <;> omega
  have hll : (ss.take len).length = len := by rw [List.length_take];omega
  refine ⟨ss.take len,⟨some a,cap,by rw [hll],by rw [hll];exact hl,hm,fun hn => ?_⟩,fun s hs => hsz s (List.mem_of_mem_take hs),some a,cap,by rw [hll]⟩
  rw [hll] at hn
  obtain ⟨b,off,sp⟩ := a
  have h0 := hcell 0 (by omega)
  obtain rfl := spot_none h0
  have hlt : b < w.heap.size := by simpa [add_none] using cell_lt h0
  refine ⟨b,off,rfl,hlt,fun j u hu => ?_⟩
  rw [List.getElem?_map,Option.map_eq_some_iff] at hu
  obtain ⟨s,hs,rfl⟩ := hu
  rw [List.getElem?_take] at hs
  split at hs
  ·have hj : j < ss.length := (List.getElem?_eq_some_iff.1 hs).1
   have := hcell j hj
   rw [add_none] at this
   rw [this,List.getD_eq_getElem?_getD,hs]
   rfl
  ·cases hs
theorem int_of_trod {fuel : Nat} {v : Value} {x : DataW H × List MemPlace} (h : DataW.trod enc Tryz.prog w base spare held fuel 3 [v] = some x) :
  ∃ n : Int,v = .int .i64 n ∧ -9223372036854775808 ≤ n ∧ n ≤ 9223372036854775807 := by
 obtain ⟨n,hv,-,hw⟩ := DataW.trod_int Tryz.underlying3 h
 simp [Lit.wf,IntKind.min,IntKind.max,IntKind.signed,IntKind.bits] at hw
 exact ⟨n,by simpa using hv,by omega,by omega⟩
theorem str_of_trod {fuel : Nat} {v : Value} {x : DataW H × List MemPlace} (h : DataW.trod enc Tryz.prog w base spare held fuel 9 [v] = some x) :
  ∃ s : ByteArray,v = .string s ∧ s.size ≤ maxLen := by
 obtain ⟨s,hv,-,hw⟩ := DataW.trod_string Tryz.underlying9 h
 exact ⟨s,by simpa using hv,hw⟩
end
instance : Inhabited Task := ⟨⟨⟨#[]⟩,0,0,0,none,0,[]⟩⟩
theorem flat_at (l : List Task) (x : Nat) (u : Value) (hu : (l.flatMap Task.cells)[x]? = some u) : ∃ (hj : x / 5 < l.length),l[x / 5].cells[x % 5]? = some u := by
 have hlen : (l.flatMap Task.cells).length = l.length * 5 := by
  clear hu
  induction l with
  | nil => rfl
  | cons t l ih => rw [List.flatMap_cons,List.length_append,ih];simp [Task.cells];omega
 have hx := (List.getElem?_eq_some_iff.1 hu).1
 rw [hlen] at hx
 have hj : x / 5 < l.length := by omega
 refine ⟨hj,?_⟩
 rw [← flat_get l (x / 5) (x % 5) hj (by omega),show x / 5 * 5 + x % 5 = x by omega]
 exact hu
section
variable {H : Type} {enc : TypeId × Value → H} {w : World} {base : Nat} {spare : Nat → Bool} {held : Bool}
theorem tasks_of_trod {fuel : Nat} {v : Value} {x : DataW H × List MemPlace} (h : DataW.trod enc Tryz.prog w base spare held fuel 37 [v] = some x) :
  ∃ l,TasksAt w w.heap.size v l := by
 rcases open_slice Tryz.underlying37 h with ⟨hcs,-⟩ | ⟨a,len,cap,m,n,D,Pl,hcs,_,hl,hm,hmm,-,hi⟩
 ·obtain rfl : v = .slice none 0 0 := by simpa using hcs
  exact ⟨[],⟨none,0,rfl,Nat.le_refl _,Nat.zero_le _,fun h => absurd h (by simp)⟩,by simp,by simp⟩
 ·obtain rfl : v = .slice (some a) len cap := by simpa using hcs
  have hle : len ≤ m := by rw [hmm];split <;> omega
  have hC : Tryz.prog.cellsOf 62 = 5 := by kernel_rfl
  rw [hC] at hi
  have each : ∀ i,i < len → ∃ t : Task,(∀ k u,t.cells[k]? = some u → w.cell? (a.add (i * 5 + k)) = some u) ∧ StrsAt w w.heap.size t.bv t.bef ∧ t.ok := fun i hil => by
   obtain ⟨cs,hc,ht⟩ := hi i (by omega)
   obtain ⟨ys,n',hn',hy,hlen,hyl,hf⟩ := DataW.trod_struct Tryz.underlying62 ht
   obtain ⟨_,hcl,hat⟩ := World.cells?_some hc
   obtain ⟨c0,c1,c2,c3,c4,rfl⟩ := list5 hcl
   obtain ⟨y0,y1,y2,y3,y4,rfl⟩ := list5 hyl
   have g0 : DataW.trod enc Tryz.prog w base spare held n' 9 (List.take (Tryz.prog.cellsOf 9) (List.drop 0 [c0,c1,c2,c3,c4])) = some y0 := hf 0 _ rfl
   have g1 : DataW.trod enc Tryz.prog w base spare held n' 3 (List.take (Tryz.prog.cellsOf 3) (List.drop 1 [c0,c1,c2,c3,c4])) = some y1 := hf 1 _ rfl
   have g2 : DataW.trod enc Tryz.prog w base spare held n' 3 (List.take (Tryz.prog.cellsOf 3) (List.drop 2 [c0,c1,c2,c3,c4])) = some y2 := hf 2 _ rfl
   have g3 : DataW.trod enc Tryz.prog w base spare held n' 3 (List.take (Tryz.prog.cellsOf 3) (List.drop 3 [c0,c1,c2,c3,c4])) = some y3 := hf 3 _ rfl
   have g4 : DataW.trod enc Tryz.prog w base spare held n' 60 (List.take (Tryz.prog.cellsOf 60) (List.drop 4 [c0,c1,c2,c3,c4])) = some y4 := hf 4 _ rfl
   rw [show Tryz.prog.cellsOf 9 = 1 from by kernel_rfl] at g0
   rw [show Tryz.prog.cellsOf 3 = 1 from by kernel_rfl] at g1 g2 g3
   rw [show Tryz.prog.cellsOf 60 = 1 from by kernel_rfl] at g4
   obtain ⟨nm,rfl,hnm⟩ := str_of_trod (v := c0) g0
   obtain ⟨ln,rfl,hln⟩ := int_of_trod (v := c1) g1
   obtain ⟨cr,rfl,hcr⟩ := int_of_trod (v := c2) g2
   obtain ⟨pw,rfl,hpw⟩ := int_of_trod (v := c3) g3
   obtain ⟨bf,hbf,hbs,A,c,rfl⟩ := strs_of_trod (v := c4) g4
   refine ⟨⟨nm,ln,cr,pw,A,c,bf⟩,fun k u hk => ?_,hbf,⟨hnm,hbs,hln,hcr,hpw⟩⟩
   have hk5 : k < 5 := (List.getElem?_eq_some_iff.1 hk).1
   rw [← add_add,hat k hk5]
   exact hk
  obtain ⟨T,hT⟩ := choose_lt each
  have hL : ((List.range len).map T).length = len := by simp
  refine ⟨(List.range len).map T,⟨some a,cap,by rw [hL],by rw [hL];exact hl,hm,fun hn => ?_⟩,fun t ht => ?_,fun t ht => ?_⟩
  ·rw [hL] at hn
   obtain ⟨b,off,sp⟩ := a
   have h0 := (hT 0 hn).1 0 _ rfl
   obtain rfl := spot_none h0
   have hlt : b < w.heap.size := by simpa [add_none] using cell_lt h0
   refine ⟨b,off,rfl,hlt,fun j u hu => ?_⟩
   obtain ⟨hj,hu'⟩ := flat_at _ _ _ hu
   rw [hL] at hj
   have := (hT _ hj).1 (j % 5) u (by simpa using hu')
   rw [add_none,show j / 5 * 5 + j % 5 = j by omega] at this
   exact this
  ·simp only [List.mem_map,List.mem_range] at ht
   obtain ⟨i,hi,rfl⟩ := ht
   exact (hT i hi).2.1
  ·simp only [List.mem_map,List.mem_range] at ht
   obtain ⟨i,hi,rfl⟩ := ht
   exact (hT i hi).2.2
end
end Go.Proofs.YtfkikpbnigenhaaGreat

namespace Go.Proofs.YtfkikpbnigenhaaGreat
open Go.ChangeShapes Go.WideShapes Go.ChangeAt Go.RowKit
theorem Tryz.own : ownKnob Tryz.prog.godebug = none := by kernel_rfl
theorem Tryz.laidOut : laidOutB Tryz.prog = true := by kernel_rfl
section
variable {H : Type} {enc : TypeId × Value → H} {P : Program}
theorem post_of_below {f : Func} {s : ChangeSpec} {apart fresh handsOn again : Bool} {W W' : World} {args : Array Value} {v : Value} {ds gs : List (DataW H)} {before pa pv : List MemPlace}
  (hW : DataW.Whole enc P f.params.toList s.vars apart W args.toList ds gs before)
  (hres : ∀ (b : Nat) (sp : Nat → Bool) (hd : Bool),DataW.TrodAll enc P W' b sp hd f.resultTypes.toList (v.resultList f.resultTypes.size) (s.fn H (ds ++ gs)).results [])
  (hargs : ∀ sp : Nat → Bool,(∀ p ∈ before,sp p.block = true) → DataW.TrodAll enc P W' 0 sp true f.params.toList args.toList (s.fn H (ds ++ gs)).args pa)
  (hvars : ∀ sp : Nat → Bool,(∀ p ∈ before,sp p.block = true) → DataW.TrodVars enc P W' sp s.vars (s.fn H (ds ++ gs)).vars pv)
  (hps : before = pa ++ pv) (hb : Below W.heap.size W W')
  (hok : ∀ (j : Nat) (t : TypeId) (r : Value),f.resultTypes[j]? = some t → (v.resultList f.resultTypes.size)[j]? = some r → Value.okWide P W' .any 0 t r) :
  s.post enc P f apart fresh handsOn again W args v W' := by
 have hlt : ∀ p ∈ before,p.block < W.heap.size := fun p hp => hW.lt p hp
 have hold : ∀ p ∈ before,(fun b => decide (b < W.heap.size)) p.block = true := fun p hp => by simpa using hlt p hp
 refine ⟨ds,gs,before,[],pa,pv,hW,hres _ _ _,hargs _ hold,hvars _ hold,World.keptBut_mono (fun p hp => ⟨hp,?_⟩) (hb.frame (· ∈ before)),fun _ => ?_⟩
 ·rw [hps,List.mem_append] at hp
  exact Or.inr hp
 ·obtain ⟨_,_,_,_,_,hz,hn⟩ := hW
  refine ⟨hok,_,_,([] ++ pa) ++ pv,⟨[] ++ pa,pv,trodAll_append (hargs _ (fun _ _ => rfl)) (hres _ _ _),hvars _ (fun _ _ => rfl),rfl,?_,?_⟩,?_⟩
  ·intro b off hp
   have hin : MemPlace.cell b off ∈ before := by rw [hps];simpa using hp
   rw [hb.frozen (hlt _ hin)]
   exact hz b off hin
  ·intro ha
   have := hn ha
   rw [hps] at this
   simpa using this
  ·intro p hp _
   rw [hps]
   simpa using hp
theorem trodAll_len {W : World} {base : Nat} {sp : Nat → Bool} {held : Bool} : ∀ {ts : List TypeId} {vs : List Value} {ds : List (DataW H)} {ps : List MemPlace},DataW.TrodAll enc P W base sp held ts vs ds ps → ds.length = ts.length
 | [],[],[],_,_ => rfl
 | _ :: ts,_ :: vs,_ :: ds,_,⟨_,_,_,h2,_⟩ => by rw [List.length_cons,List.length_cons,trodAll_len h2]
theorem stays_all (hl : laidOutB P = true) {W W' : World} {sp : Nat → Bool} (hb : Below W.heap.size W W') : ∀ {ts : List TypeId} {vs : List Value} {ds : List (DataW H)} {ps : List MemPlace},
  (∀ t ∈ ts,P.readableRec t = true ∧ t < P.types.size) → DataW.TrodAll enc P W 0 (fun _ => true) true ts vs ds ps → (∀ p ∈ ps,p.block < W.heap.size) → (∀ p ∈ ps,sp p.block = true) → DataW.TrodAll enc P W' 0 sp true ts vs ds ps
 | [],[],[],_,_,h,_,_ => h
 | t :: _,_ :: _,_ :: _,_,ht,⟨p,q,h1,h2,e⟩,hlt,hs => ⟨p,q,
   WideElems.Trod_stays hl (ht t List.mem_cons_self).1 (ht t List.mem_cons_self).2 h1 (fun x hx => hb.same (hlt x (by rw [e];exact List.mem_append_left _ hx))) (fun x hx => hs x (by rw [e];exact List.mem_append_left _ hx)),
   stays_all hl hb (fun t ht' => ht t (List.mem_cons_of_mem _ ht')) h2 (fun x hx => hlt x (by rw [e];exact List.mem_append_right _ hx)) (fun x hx => hs x (by rw [e];exact List.mem_append_right _ hx)),e⟩
end
set_option maxRecDepth 100000 in
theorem law_lifted {K : FuncId} {fn : Func} {s : ChangeSpec} {conds : List PathCond} {H : Type} {enc : TypeId × Value → H} {os : Os} (started : os.Started) (noInit : Tryz.prog.inits.idxOf? K = none) (hfn : Tryz.prog.funcs[K]? = some fn)
  (hvars : s.vars = []) (hres : fn.resultTypes = #[4]) (hrd : ∀ t ∈ fn.params.toList,Tryz.prog.readableRec t = true ∧ t < Tryz.prog.types.size)
  (hspec : ∀ ds : List (DataW H),ds.length = fn.params.size → (s.fn H ds).results = [.lit (.bool true)] ∧ (s.fn H ds).args = ds ∧ (s.fn H ds).vars = [])
  (witness : ∃ (w : World) (tape : Tape) (i : Input),w.os = os ∧ (w.forCall tape i).Shaped Tryz.prog ∧ i.vars = [] ∧ Input.okWide Tryz.prog (w.forCall tape i) .any w.heap.size K i ∧
   s.pre6 enc Tryz.prog fn conds false (w.forCall tape i).memory i.args ∧ ({} : Assume).holds Tryz.prog (lone (Frame.enter Tryz.prog K i.args .normal) [] (w.forCall tape i)))
  (call : ∀ (W : World) (base : Nat) (args : Array Value) (ds : List (DataW H)) (ps : List MemPlace),(∀ (j : Nat) t v,fn.params[j]? = some t → args[j]? = some v → Value.okWide Tryz.prog W .any base t v) →
   DataW.TrodAll enc Tryz.prog W 0 (fun _ => true) true fn.params.toList args.toList ds ps → Calls Tryz.prog K args W fun e W' => e = .returned (.bool true) ∧ Below W.heap.size W W') :
  ReturnsInHanded {} Tryz.checked os K .any (s.pre6 enc Tryz.prog fn conds false) (s.post enc Tryz.prog fn false true false false) := by
 refine returnsInHanded_of_change (C := Tryz.checked) Tryz.own started noInit hfn witness ?_
 intro W base args ds gs before hval hW hcnd _
 have hW' := hW
 obtain ⟨p,q,hA,hV,rfl,hfz,hnd⟩ := hW
 rw [hvars] at hV
 obtain ⟨rfl,rfl⟩ := trodVars_none hV
 rw [List.append_nil] at hW'
 have hlen : ds.length = fn.params.size := by rw [trodAll_len hA,Array.length_toList]
 obtain ⟨e1,e2,e3⟩ := hspec ds hlen
 refine (call W base args ds p hval hA).mono fun e W' ⟨he,hb⟩ => ?_
 subst he
 have hlt : ∀ x ∈ p,x.block < W.heap.size := fun x hx => hW'.lt x hx
 refine ⟨_,rfl,post_of_below (pa := p) (pv := []) hW' (fun _ _ _ => ?_) (fun sp hsp => ?_) (fun _ _ => ?_) (by simp) hb ?_⟩
 ·rw [List.append_nil,e1,hres]
  exact trodAll_mk1 (shut_bool Tryz.underlying4 _)
 ·rw [List.append_nil,e2]
  exact stays_all Tryz.laidOut hb hrd hA hlt hsp
 ·rw [List.append_nil,e3,hvars]
  rfl
 ·exact ok_one hres rfl (okWide_bool_mk Tryz.underlying4 _)
end Go.Proofs.YtfkikpbnigenhaaGreat

namespace Go.Proofs.YtfkikpbnigenhaaGreat
open Go.RowKit Go.Shelf Go.ChangeShapes Go.WideShapes Go.Deep
section
variable {H : Type} {enc : TypeId × Value → H} {w : World} {base : Nat} {spare : Nat → Bool} {held : Bool}
theorem ints_of_trod {fuel : Nat} {v : Value} {x : DataW H × List MemPlace} (h : DataW.trod enc Tryz.prog w base spare held fuel 22 [v] = some x) :
  ∃ s : List Int,IntsAt w w.heap.size v s ∧ Wide s := by
 rcases open_slice1 Tryz.underlying22 (by kernel_rfl) h with ⟨hcs,-⟩ | ⟨a,len,cap,m,n,V,D,Pl,hcs,_,hl,hm,hmm,-,hi⟩
 ·obtain rfl : v = .slice none 0 0 := by simpa using hcs
  exact ⟨[],⟨none,0,rfl,Nat.le_refl _,Nat.zero_le _,fun h => absurd h (by simp)⟩,by simp [Wide]⟩
 ·obtain rfl : v = .slice (some a) len cap := by simpa using hcs
  have hle : len ≤ m := by rw [hmm];split <;> omega
  have each : ∀ i,i < len → ∃ z : Int,w.cell? (a.add i) = some (.int .i64 z) ∧ -9223372036854775808 ≤ z ∧ z ≤ 9223372036854775807 := fun i hil => by
   obtain ⟨h1,h2⟩ := hi i (by omega)
   obtain ⟨z,hz,hb1,hb2⟩ := int_of_trod h2
   exact ⟨z,by rw [h1,hz],hb1,hb2⟩
  obtain ⟨Z,hZ⟩ := choose_lt each
  have hL : ((List.range len).map Z).length = len := by simp
  refine ⟨(List.range len).map Z,⟨some a,cap,by rw [hL],by rw [hL];exact hl,hm,fun hn => ?_⟩,fun z hz => ?_⟩
  ·rw [hL] at hn
   obtain ⟨b,off,sp⟩ := a
   have h0 := (hZ 0 hn).1
   obtain rfl := spot_none h0
   have hlt : b < w.heap.size := by simpa [add_none] using cell_lt h0
   refine ⟨b,off,rfl,hlt,fun j u hu => ?_⟩
   rw [List.getElem?_map,Option.map_eq_some_iff] at hu
   obtain ⟨z,hz,rfl⟩ := hu
   have hj : j < len := by have := (List.getElem?_eq_some_iff.1 hz).1;simpa using this
   have hz' : Z j = z := by simpa [hj] using hz
   have := (hZ j hj).1
   rw [add_none,hz'] at this
   exact this
  ·simp only [List.mem_map,List.mem_range] at hz
   obtain ⟨i,hi,rfl⟩ := hz
   exact (hZ i hi).2
end
section
variable {H : Type} {enc : TypeId × Value → H} {P : Program} {w : World} {base : Nat} {spare : Nat → Bool} {held : Bool}
end
end Go.Proofs.YtfkikpbnigenhaaGreat

namespace Go.Proofs.YtfkikpbnigenhaaGreat
open Go.RowKit Go.Shelf Go.ChangeShapes Go.WideShapes Go.Deep
theorem list3 {α : Type} : ∀ {cs : List α},cs.length = 3 → ∃ a b c,cs = [a,b,c]
 | [a,b,c],_ => ⟨a,b,c,rfl⟩
theorem list7 {α : Type} : ∀ {cs : List α},cs.length = 7 → ∃ a b c d e f g,cs = [a,b,c,d,e,f,g]
 | [a,b,c,d,e,f,g],_ => ⟨a,b,c,d,e,f,g,rfl⟩
theorem list13 {α : Type} : ∀ {cs : List α},cs.length = 13 → ∃ a0 a1 a2 a3 a4 a5 a6 a7 a8 a9 a10 a11 a12,cs = [a0,a1,a2,a3,a4,a5,a6,a7,a8,a9,a10,a11,a12]
 | [a0,a1,a2,a3,a4,a5,a6,a7,a8,a9,a10,a11,a12],_ => ⟨a0,a1,a2,a3,a4,a5,a6,a7,a8,a9,a10,a11,a12,rfl⟩
theorem flatAtK {α : Type} (f : α → List Value) (k : Nat) (hk : 0 < k) (hf : ∀ x,(f x).length = k) (l : List α) (x : Nat) (u : Value) (hu : (l.flatMap f)[x]? = some u) : ∃ (hj : x / k < l.length),(f l[x / k])[x % k]? = some u := by
 have hlen : (l.flatMap f).length = l.length * k := by
  clear hu
  induction l with
  | nil => simp
  | cons t l ih => rw [List.flatMap_cons,List.length_append,ih,hf,List.length_cons,Nat.succ_mul];omega
 have hx := (List.getElem?_eq_some_iff.1 hu).1
 rw [hlen] at hx
 have hj : x / k < l.length := by rw [Nat.div_lt_iff_lt_mul hk];exact hx
 refine ⟨hj,?_⟩
 rw [← flatGet f k hf l (x / k) (x % k) hj (Nat.mod_lt _ hk),Nat.div_add_mod' x k]
 exact hu
section
variable {H : Type} {enc : TypeId × Value → H} {w : World} {base : Nat} {spare : Nat → Bool} {held : Bool}
theorem intsS_of_trod {fuel : Nat} {v : Value} {x : DataW H × List MemPlace} (h : DataW.trod enc Tryz.prog w base spare held fuel 22 [v] = some x) :
  ∃ (s : List Int) (A : Option Addr) (c : Nat),v = .slice A s.length c ∧ IntsAt w w.heap.size v s := by
 rcases open_slice1 Tryz.underlying22 (by kernel_rfl) h with ⟨hcs,-⟩ | ⟨a,len,cap,m,n,V,D,Pl,hcs,_,hl,hm,hmm,-,hi⟩
 ·obtain rfl : v = .slice none 0 0 := by simpa using hcs
  exact ⟨[],none,0,rfl,none,0,rfl,Nat.le_refl _,Nat.zero_le _,fun h => absurd h (by simp)⟩
 ·obtain rfl : v = .slice (some a) len cap := by simpa using hcs
  have hle : len ≤ m := by rw [hmm];split <;> omega
  have each : ∀ i,i < len → ∃ z : Int,w.cell? (a.add i) = some (.int .i64 z) := fun i hil => by
   obtain ⟨h1,h2⟩ := hi i (by omega)
   obtain ⟨z,hz,-⟩ := int_of_trod h2
   exact ⟨z,by rw [h1,hz]⟩
  obtain ⟨Z,hZ⟩ := choose_lt each
  have hL : ((List.range len).map Z).length = len := by simp
  refine ⟨(List.range len).map Z,some a,cap,by rw [hL],some a,cap,by rw [hL],by rw [hL];exact hl,hm,fun hn => ?_⟩
  rw [hL] at hn
  obtain ⟨b,off,sp⟩ := a
  have h0 := hZ 0 hn
  obtain rfl := spot_none h0
  have hlt : b < w.heap.size := by simpa [add_none] using cell_lt h0
  refine ⟨b,off,rfl,hlt,fun j u hu => ?_⟩
  rw [List.getElem?_map,Option.map_eq_some_iff] at hu
  obtain ⟨z,hz,rfl⟩ := hu
  have hj : j < len := by have := (List.getElem?_eq_some_iff.1 hz).1;simpa using this
  have hz' : Z j = z := by simpa [hj] using hz
  have := hZ j hj
  rw [add_none,hz'] at this
  exact this
instance : Inhabited ItemT := ⟨⟨⟨#[]⟩,0,0,0,0,0,0⟩⟩
theorem items_of_trod {fuel : Nat} {v : Value} {x : DataW H × List MemPlace} (h : DataW.trod enc Tryz.prog w base spare held fuel 23 [v] = some x) :
  ∃ (l : List ItemT) (A : Option Addr) (c : Nat),v = .slice A l.length c ∧ Flat w w.heap.size v l.length (l.flatMap ItemT.cells) ∧ ∀ t ∈ l,t.name.size ≤ maxLen := by
 rcases open_slice Tryz.underlying23 h with ⟨hcs,-⟩ | ⟨a,len,cap,m,n,D,Pl,hcs,_,hl,hm,hmm,-,hi⟩
 ·obtain rfl : v = .slice none 0 0 := by simpa using hcs
  exact ⟨[],none,0,rfl,⟨none,0,rfl,Nat.le_refl _,Nat.zero_le _,fun h => absurd h (by simp)⟩,by simp⟩
 ·obtain rfl : v = .slice (some a) len cap := by simpa using hcs
  have hle : len ≤ m := by rw [hmm];split <;> omega
  have hC : Tryz.prog.cellsOf 64 = 7 := by kernel_rfl
  rw [hC] at hi
  have each : ∀ i,i < len → ∃ t : ItemT,(∀ k u,t.cells[k]? = some u → w.cell? (a.add (i * 7 + k)) = some u) ∧ t.name.size ≤ maxLen := fun i hil => by
   obtain ⟨cs,hc,ht⟩ := hi i (by omega)
   obtain ⟨ys,n',hn',hy,hlen,hyl,hf⟩ := DataW.trod_struct Tryz.underlying64 ht
   obtain ⟨_,hcl,hat⟩ := World.cells?_some hc
   obtain ⟨c0,c1,c2,c3,c4,c5,c6,rfl⟩ := list7 hcl
   obtain ⟨y0,y1,y2,y3,y4,y5,y6,rfl⟩ := list7 hyl
   have g0 : DataW.trod enc Tryz.prog w base spare held n' 9 (List.take (Tryz.prog.cellsOf 9) (List.drop 0 [c0,c1,c2,c3,c4,c5,c6])) = some y0 := hf 0 _ rfl
   have g1 : DataW.trod enc Tryz.prog w base spare held n' 3 (List.take (Tryz.prog.cellsOf 3) (List.drop 1 [c0,c1,c2,c3,c4,c5,c6])) = some y1 := hf 1 _ rfl
   have g2 : DataW.trod enc Tryz.prog w base spare held n' 3 (List.take (Tryz.prog.cellsOf 3) (List.drop 2 [c0,c1,c2,c3,c4,c5,c6])) = some y2 := hf 2 _ rfl
   have g3 : DataW.trod enc Tryz.prog w base spare held n' 3 (List.take (Tryz.prog.cellsOf 3) (List.drop 3 [c0,c1,c2,c3,c4,c5,c6])) = some y3 := hf 3 _ rfl
   have g4 : DataW.trod enc Tryz.prog w base spare held n' 3 (List.take (Tryz.prog.cellsOf 3) (List.drop 4 [c0,c1,c2,c3,c4,c5,c6])) = some y4 := hf 4 _ rfl
   have g5 : DataW.trod enc Tryz.prog w base spare held n' 3 (List.take (Tryz.prog.cellsOf 3) (List.drop 5 [c0,c1,c2,c3,c4,c5,c6])) = some y5 := hf 5 _ rfl
   have g6 : DataW.trod enc Tryz.prog w base spare held n' 3 (List.take (Tryz.prog.cellsOf 3) (List.drop 6 [c0,c1,c2,c3,c4,c5,c6])) = some y6 := hf 6 _ rfl
   rw [show Tryz.prog.cellsOf 9 = 1 from by kernel_rfl] at g0
   rw [show Tryz.prog.cellsOf 3 = 1 from by kernel_rfl] at g1
   rw [show Tryz.prog.cellsOf 3 = 1 from by kernel_rfl] at g2
   rw [show Tryz.prog.cellsOf 3 = 1 from by kernel_rfl] at g3
   rw [show Tryz.prog.cellsOf 3 = 1 from by kernel_rfl] at g4
   rw [show Tryz.prog.cellsOf 3 = 1 from by kernel_rfl] at g5
   rw [show Tryz.prog.cellsOf 3 = 1 from by kernel_rfl] at g6
   obtain ⟨f0,rfl,hnm⟩ := str_of_trod (v := c0) g0
   obtain ⟨f1,rfl,-⟩ := int_of_trod (v := c1) g1
   obtain ⟨f2,rfl,-⟩ := int_of_trod (v := c2) g2
   obtain ⟨f3,rfl,-⟩ := int_of_trod (v := c3) g3
   obtain ⟨f4,rfl,-⟩ := int_of_trod (v := c4) g4
   obtain ⟨f5,rfl,-⟩ := int_of_trod (v := c5) g5
   obtain ⟨f6,rfl,-⟩ := int_of_trod (v := c6) g6
   refine ⟨⟨f0,f1,f2,f3,f4,f5,f6⟩,fun k u hk => ?_,hnm⟩
   have hk5 : k < 7 := (List.getElem?_eq_some_iff.1 hk).1
   rw [← add_add,hat k hk5]
   exact hk
  obtain ⟨T,hT⟩ := choose_lt each
  have hL : ((List.range len).map T).length = len := by simp
  refine ⟨(List.range len).map T,some a,cap,by rw [hL],⟨some a,cap,by rw [hL],by rw [hL];exact hl,hm,fun hn => ?_⟩,fun t ht => ?_⟩
  ·rw [hL] at hn
   obtain ⟨b,off,sp⟩ := a
   have h0 := (hT 0 hn).1 0 _ rfl
   obtain rfl := spot_none h0
   have hlt : b < w.heap.size := by simpa [add_none] using cell_lt h0
   refine ⟨b,off,rfl,hlt,fun j u hu => ?_⟩
   obtain ⟨hj,hu'⟩ := flatAtK ItemT.cells 7 (by decide) (fun _ => rfl) _ _ _ hu
   rw [hL] at hj
   have := (hT _ hj).1 (j % 7) u (by simpa using hu')
   rw [add_none,Nat.div_add_mod' j 7] at this
   exact this
  ·simp only [List.mem_map,List.mem_range] at ht
   obtain ⟨i,hi,rfl⟩ := ht
   exact (hT i hi).2
instance : Inhabited BrickT := ⟨⟨⟨#[]⟩,0,0⟩⟩
theorem bricks_of_trod {fuel : Nat} {v : Value} {x : DataW H × List MemPlace} (h : DataW.trod enc Tryz.prog w base spare held fuel 24 [v] = some x) :
  ∃ (l : List BrickT) (A : Option Addr) (c : Nat),v = .slice A l.length c ∧ Flat w w.heap.size v l.length (l.flatMap BrickT.cells) ∧ ∀ t ∈ l,t.name.size ≤ maxLen := by
 rcases open_slice Tryz.underlying24 h with ⟨hcs,-⟩ | ⟨a,len,cap,m,n,D,Pl,hcs,_,hl,hm,hmm,-,hi⟩
 ·obtain rfl : v = .slice none 0 0 := by simpa using hcs
  exact ⟨[],none,0,rfl,⟨none,0,rfl,Nat.le_refl _,Nat.zero_le _,fun h => absurd h (by simp)⟩,by simp⟩
 ·obtain rfl : v = .slice (some a) len cap := by simpa using hcs
  have hle : len ≤ m := by rw [hmm];split <;> omega
  have hC : Tryz.prog.cellsOf 66 = 3 := by kernel_rfl
  rw [hC] at hi
  have each : ∀ i,i < len → ∃ t : BrickT,(∀ k u,t.cells[k]? = some u → w.cell? (a.add (i * 3 + k)) = some u) ∧ t.name.size ≤ maxLen := fun i hil => by
   obtain ⟨cs,hc,ht⟩ := hi i (by omega)
   obtain ⟨ys,n',hn',hy,hlen,hyl,hf⟩ := DataW.trod_struct Tryz.underlying66 ht
   obtain ⟨_,hcl,hat⟩ := World.cells?_some hc
   obtain ⟨c0,c1,c2,rfl⟩ := list3 hcl
   obtain ⟨y0,y1,y2,rfl⟩ := list3 hyl
   have g0 : DataW.trod enc Tryz.prog w base spare held n' 9 (List.take (Tryz.prog.cellsOf 9) (List.drop 0 [c0,c1,c2])) = some y0 := hf 0 _ rfl
   have g1 : DataW.trod enc Tryz.prog w base spare held n' 3 (List.take (Tryz.prog.cellsOf 3) (List.drop 1 [c0,c1,c2])) = some y1 := hf 1 _ rfl
   have g2 : DataW.trod enc Tryz.prog w base spare held n' 3 (List.take (Tryz.prog.cellsOf 3) (List.drop 2 [c0,c1,c2])) = some y2 := hf 2 _ rfl
   rw [show Tryz.prog.cellsOf 9 = 1 from by kernel_rfl] at g0
   rw [show Tryz.prog.cellsOf 3 = 1 from by kernel_rfl] at g1
   rw [show Tryz.prog.cellsOf 3 = 1 from by kernel_rfl] at g2
   obtain ⟨f0,rfl,hnm⟩ := str_of_trod (v := c0) g0
   obtain ⟨f1,rfl,-⟩ := int_of_trod (v := c1) g1
   obtain ⟨f2,rfl,-⟩ := int_of_trod (v := c2) g2
   refine ⟨⟨f0,f1,f2⟩,fun k u hk => ?_,hnm⟩
   have hk5 : k < 3 := (List.getElem?_eq_some_iff.1 hk).1
   rw [← add_add,hat k hk5]
   exact hk
  obtain ⟨T,hT⟩ := choose_lt each
  have hL : ((List.range len).map T).length = len := by simp
  refine ⟨(List.range len).map T,some a,cap,by rw [hL],⟨some a,cap,by rw [hL],by rw [hL];exact hl,hm,fun hn => ?_⟩,fun t ht => ?_⟩
  ·rw [hL] at hn
   obtain ⟨b,off,sp⟩ := a
   have h0 := (hT 0 hn).1 0 _ rfl
   obtain rfl := spot_none h0
   have hlt : b < w.heap.size := by simpa [add_none] using cell_lt h0
   refine ⟨b,off,rfl,hlt,fun j u hu => ?_⟩
   obtain ⟨hj,hu'⟩ := flatAtK BrickT.cells 3 (by decide) (fun _ => rfl) _ _ _ hu
   rw [hL] at hj
   have := (hT _ hj).1 (j % 3) u (by simpa using hu')
   rw [add_none,Nat.div_add_mod' j 3] at this
   exact this
  ·simp only [List.mem_map,List.mem_range] at ht
   obtain ⟨i,hi,rfl⟩ := ht
   exact (hT i hi).2
theorem set_of_trod {fuel : Nat} {cs : List Value} {x : DataW H × List MemPlace} (hlen : cs.length = 13) (h : DataW.trod enc Tryz.prog w base spare held fuel 26 cs = some x) :
  ∃ s,SetAt w w.heap.size (.agg cs.toArray) s ∧ SetNames s := by
 obtain ⟨ys,n',hn',hy,hlen',hyl,hf⟩ := DataW.trod_struct Tryz.underlying26 h
 obtain ⟨c0,c1,c2,c3,c4,c5,c6,c7,c8,c9,c10,c11,c12,rfl⟩ := list13 hlen
 obtain ⟨y0,y1,y2,y3,y4,y5,y6,y7,y8,y9,y10,y11,y12,rfl⟩ := list13 hyl
 have g0 : DataW.trod enc Tryz.prog w base spare held n' 9 (List.take (Tryz.prog.cellsOf 9) (List.drop 0 [c0,c1,c2,c3,c4,c5,c6,c7,c8,c9,c10,c11,c12])) = some y0 := hf 0 _ rfl
 have g1 : DataW.trod enc Tryz.prog w base spare held n' 3 (List.take (Tryz.prog.cellsOf 3) (List.drop 1 [c0,c1,c2,c3,c4,c5,c6,c7,c8,c9,c10,c11,c12])) = some y1 := hf 1 _ rfl
 have g2 : DataW.trod enc Tryz.prog w base spare held n' 3 (List.take (Tryz.prog.cellsOf 3) (List.drop 2 [c0,c1,c2,c3,c4,c5,c6,c7,c8,c9,c10,c11,c12])) = some y2 := hf 2 _ rfl
 have g3 : DataW.trod enc Tryz.prog w base spare held n' 3 (List.take (Tryz.prog.cellsOf 3) (List.drop 3 [c0,c1,c2,c3,c4,c5,c6,c7,c8,c9,c10,c11,c12])) = some y3 := hf 3 _ rfl
 have g4 : DataW.trod enc Tryz.prog w base spare held n' 3 (List.take (Tryz.prog.cellsOf 3) (List.drop 4 [c0,c1,c2,c3,c4,c5,c6,c7,c8,c9,c10,c11,c12])) = some y4 := hf 4 _ rfl
 have g5 : DataW.trod enc Tryz.prog w base spare held n' 22 (List.take (Tryz.prog.cellsOf 22) (List.drop 5 [c0,c1,c2,c3,c4,c5,c6,c7,c8,c9,c10,c11,c12])) = some y5 := hf 5 _ rfl
 have g6 : DataW.trod enc Tryz.prog w base spare held n' 3 (List.take (Tryz.prog.cellsOf 3) (List.drop 6 [c0,c1,c2,c3,c4,c5,c6,c7,c8,c9,c10,c11,c12])) = some y6 := hf 6 _ rfl
 have g7 : DataW.trod enc Tryz.prog w base spare held n' 3 (List.take (Tryz.prog.cellsOf 3) (List.drop 7 [c0,c1,c2,c3,c4,c5,c6,c7,c8,c9,c10,c11,c12])) = some y7 := hf 7 _ rfl
 have g8 : DataW.trod enc Tryz.prog w base spare held n' 3 (List.take (Tryz.prog.cellsOf 3) (List.drop 8 [c0,c1,c2,c3,c4,c5,c6,c7,c8,c9,c10,c11,c12])) = some y8 := hf 8 _ rfl
 have g9 : DataW.trod enc Tryz.prog w base spare held n' 3 (List.take (Tryz.prog.cellsOf 3) (List.drop 9 [c0,c1,c2,c3,c4,c5,c6,c7,c8,c9,c10,c11,c12])) = some y9 := hf 9 _ rfl
 have g10 : DataW.trod enc Tryz.prog w base spare held n' 3 (List.take (Tryz.prog.cellsOf 3) (List.drop 10 [c0,c1,c2,c3,c4,c5,c6,c7,c8,c9,c10,c11,c12])) = some y10 := hf 10 _ rfl
 have g11 : DataW.trod enc Tryz.prog w base spare held n' 23 (List.take (Tryz.prog.cellsOf 23) (List.drop 11 [c0,c1,c2,c3,c4,c5,c6,c7,c8,c9,c10,c11,c12])) = some y11 := hf 11 _ rfl
 have g12 : DataW.trod enc Tryz.prog w base spare held n' 24 (List.take (Tryz.prog.cellsOf 24) (List.drop 12 [c0,c1,c2,c3,c4,c5,c6,c7,c8,c9,c10,c11,c12])) = some y12 := hf 12 _ rfl
 rw [show Tryz.prog.cellsOf 9 = 1 from by kernel_rfl] at g0
 rw [show Tryz.prog.cellsOf 3 = 1 from by kernel_rfl] at g1
 rw [show Tryz.prog.cellsOf 3 = 1 from by kernel_rfl] at g2
 rw [show Tryz.prog.cellsOf 3 = 1 from by kernel_rfl] at g3
 rw [show Tryz.prog.cellsOf 3 = 1 from by kernel_rfl] at g4
 rw [show Tryz.prog.cellsOf 22 = 1 from by kernel_rfl] at g5
 rw [show Tryz.prog.cellsOf 3 = 1 from by kernel_rfl] at g6
 rw [show Tryz.prog.cellsOf 3 = 1 from by kernel_rfl] at g7
 rw [show Tryz.prog.cellsOf 3 = 1 from by kernel_rfl] at g8
 rw [show Tryz.prog.cellsOf 3 = 1 from by kernel_rfl] at g9
 rw [show Tryz.prog.cellsOf 3 = 1 from by kernel_rfl] at g10
 rw [show Tryz.prog.cellsOf 23 = 1 from by kernel_rfl] at g11
 rw [show Tryz.prog.cellsOf 24 = 1 from by kernel_rfl] at g12
 obtain ⟨f0,rfl,hnm⟩ := str_of_trod (v := c0) g0
 obtain ⟨f1,rfl,-⟩ := int_of_trod (v := c1) g1
 obtain ⟨f2,rfl,-⟩ := int_of_trod (v := c2) g2
 obtain ⟨f3,rfl,-⟩ := int_of_trod (v := c3) g3
 obtain ⟨f4,rfl,-⟩ := int_of_trod (v := c4) g4
 obtain ⟨f5,Al,cl,rfl,hL⟩ := intsS_of_trod (v := c5) g5
 obtain ⟨f6,rfl,-⟩ := int_of_trod (v := c6) g6
 obtain ⟨f7,rfl,-⟩ := int_of_trod (v := c7) g7
 obtain ⟨f8,rfl,-⟩ := int_of_trod (v := c8) g8
 obtain ⟨f9,rfl,-⟩ := int_of_trod (v := c9) g9
 obtain ⟨f10,rfl,-⟩ := int_of_trod (v := c10) g10
 obtain ⟨f11,Ai,ci,rfl,hI,hIn⟩ := items_of_trod (v := c11) g11
 obtain ⟨f12,Ab,cb,rfl,hB,hBn⟩ := bricks_of_trod (v := c12) g12
 exact ⟨⟨f0,f1,f2,f3,f4,f5,f6,f7,f8,f9,f10,f11,f12⟩,⟨Al,cl,Ai,ci,Ab,cb,rfl,hL,hI,hB⟩,⟨hnm,hIn,hBn⟩⟩
end
end Go.Proofs.YtfkikpbnigenhaaGreat

namespace Go.Proofs.YtfkikpbnigenhaaGreat
open Go.RowKit Go.Shelf Go.ChangeShapes Go.WideShapes Go.Deep
section
variable {H : Type} {enc : TypeId × Value → H} {w : World} {base : Nat} {spare : Nat → Bool} {held : Bool}
theorem bool_of_trod {fuel : Nat} {v : Value} {x : DataW H × List MemPlace} (h : DataW.trod enc Tryz.prog w base spare held fuel 4 [v] = some x) : ∃ b : Bool,v = .bool b := by
 obtain ⟨b,hv,-⟩ := DataW.trod_bool Tryz.underlying4 h
 exact ⟨b,by simpa using hv⟩
theorem jobs_of_trod {fuel : Nat} {v : Value} {x : DataW H × List MemPlace} (h : DataW.trod enc Tryz.prog w base spare held fuel 27 [v] = some x) :
  ∃ l : List JobT,JobsAt w w.heap.size v l ∧ ∀ t ∈ l,t.name.size ≤ maxLen := by
 rcases open_slice Tryz.underlying27 h with ⟨hcs,-⟩ | ⟨a,len,cap,m,n,D,Pl,hcs,_,hl,hm,hmm,-,hi⟩
 ·obtain rfl : v = .slice none 0 0 := by simpa using hcs
  exact ⟨[],⟨none,0,rfl,Nat.le_refl _,Nat.zero_le _,fun h => absurd h (by simp)⟩,by simp⟩
 ·obtain rfl : v = .slice (some a) len cap := by simpa using hcs
  have hle : len ≤ m := by rw [hmm];split <;> omega
  have hC : Tryz.prog.cellsOf 43 = 3 := by kernel_rfl
  rw [hC] at hi
  have each : ∀ i,i < len → ∃ t : JobT,(∀ k u,t.cells[k]? = some u → w.cell? (a.add (i * 3 + k)) = some u) ∧ t.name.size ≤ maxLen := fun i hil => by
   obtain ⟨cs,hc,ht⟩ := hi i (by omega)
   obtain ⟨ys,n',hn',hy,hlen,hyl,hf⟩ := DataW.trod_struct Tryz.underlying43 ht
   obtain ⟨_,hcl,hat⟩ := World.cells?_some hc
   obtain ⟨c0,c1,c2,rfl⟩ := list3 hcl
   obtain ⟨y0,y1,y2,rfl⟩ := list3 hyl
   have g0 : DataW.trod enc Tryz.prog w base spare held n' 9 (List.take (Tryz.prog.cellsOf 9) (List.drop 0 [c0,c1,c2])) = some y0 := hf 0 _ rfl
   have g1 : DataW.trod enc Tryz.prog w base spare held n' 4 (List.take (Tryz.prog.cellsOf 4) (List.drop 1 [c0,c1,c2])) = some y1 := hf 1 _ rfl
   have g2 : DataW.trod enc Tryz.prog w base spare held n' 3 (List.take (Tryz.prog.cellsOf 3) (List.drop 2 [c0,c1,c2])) = some y2 := hf 2 _ rfl
   rw [show Tryz.prog.cellsOf 9 = 1 from by kernel_rfl] at g0
   rw [show Tryz.prog.cellsOf 4 = 1 from by kernel_rfl] at g1
   rw [show Tryz.prog.cellsOf 3 = 1 from by kernel_rfl] at g2
   obtain ⟨f0,rfl,hnm⟩ := str_of_trod (v := c0) g0
   obtain ⟨f1,rfl⟩ := bool_of_trod (v := c1) g1
   obtain ⟨f2,rfl,-⟩ := int_of_trod (v := c2) g2
   refine ⟨⟨f0,f1,f2⟩,fun k u hk => ?_,hnm⟩
   have hk5 : k < 3 := (List.getElem?_eq_some_iff.1 hk).1
   rw [← add_add,hat k hk5]
   exact hk
  obtain ⟨T,hT⟩ := choose_lt each
  have hL : ((List.range len).map T).length = len := by simp
  refine ⟨(List.range len).map T,⟨some a,cap,by rw [hL],by rw [hL];exact hl,hm,fun hn => ?_⟩,fun t ht => ?_⟩
  ·rw [hL] at hn
   obtain ⟨b,off,sp⟩ := a
   have h0 := (hT 0 hn).1 0 _ rfl
   obtain rfl := spot_none h0
   have hlt : b < w.heap.size := by simpa [add_none] using cell_lt h0
   refine ⟨b,off,rfl,hlt,fun j u hu => ?_⟩
   obtain ⟨hj,hu'⟩ := flatAtK JobT.cells 3 (by decide) (fun _ => rfl) _ _ _ hu
   rw [hL] at hj
   have := (hT _ hj).1 (j % 3) u (by simpa using hu')
   rw [add_none,Nat.div_add_mod' j 3] at this
   exact this
  ·simp only [List.mem_map,List.mem_range] at ht
   obtain ⟨i,hi,rfl⟩ := ht
   exact (hT i hi).2
end
end Go.Proofs.YtfkikpbnigenhaaGreat
