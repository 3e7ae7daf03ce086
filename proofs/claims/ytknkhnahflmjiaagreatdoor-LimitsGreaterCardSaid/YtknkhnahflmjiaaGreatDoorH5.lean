/- Parts of the proof, laid into one text: LimA, LimF, RegF, RegJ, RegP, LimO. -/
import Derived.BigQuiet
import Derived.Deep.AppendLies
import Derived.Deep.DeepCutAuto
import Derived.Deep.Draws
import Derived.Deep.LoopGhost
import Derived.Deep.QuietTactic
import Derived.IntWalk
import Derived.Laws.Bits64b
import Derived.Lib.Hide
import Derived.LoopIn
import Derived.LoopNIn
import Derived.Maps.AppendAt
import Derived.Outline
import Derived.OwnWalkIn
import Derived.RangeFuncBox
import Derived.RangeFuncLeaves
import Derived.Shelf.Abstract
import Derived.Shelf.Bits.Mul64
import Derived.Shelf.Strconv.Itoa3
import Derived.StillTail
import Derived.StillTailTactics
import Derived.TacticsInMore
import Derived.Test.YtknkhnahflmjiaaGreatDoorB1
import Derived.Test.YtknkhnahflmjiaaGreatDoorE1
import Derived.Test.YtknkhnahflmjiaaGreatDoorE2
import Derived.Test.YtknkhnahflmjiaaGreatDoorE3
import Derived.Test.YtknkhnahflmjiaaGreatDoorE4
import Derived.Test.YtknkhnahflmjiaaGreatDoorE6
import Derived.Test.YtknkhnahflmjiaaGreatDoorE7
import Derived.Test.YtknkhnahflmjiaaGreatDoorH1
import Derived.Test.YtknkhnahflmjiaaGreatDoorH3
import Derived.Test.YtknkhnahflmjiaaGreatDoorProg
import Derived.WalkKit
import Derived.WalkLawsBesides
import Derived.WalkSpells

namespace Go.Proofs.YtknkhnahflmjiaaGreatDoor
open Go.RowKit Go.Shelf
theorem lmOf (n : Int) (w : World) : Calls Tryz.prog 51 #[.int .i64 n] w fun e w' => e = .returned (.agg #[.int .i64 n,.int .i64 1]) ∧ Below w.heap.size w w' := by
 have z0 := (Blk.new w 23 #[.int .i64 n,.int .i64 1]).cell 0
 have z1 := (Blk.new w 23 #[.int .i64 n,.int .i64 1]).cell 1
 simp only [List.getElem?_toArray,List.getElem?_cons_succ,List.getElem?_cons_zero] at z0 z1
 go_enter Tryz.func51,Tryz.ntmps51
 go_wp2_with fail
 refine bodyPost_ret (v := .agg #[.int .i64 n,.int .i64 1]) (by simp [results,Tryz.results51,go_sem,z0,z1]) rfl ?_
 exact ⟨rfl,(Below.refl _ _).alloc (Nat.le_refl _) _⟩
set_option maxHeartbeats 1000000 in
theorem lmCmp (a b : FrT) (w : World) (ha : frGood a = true) (hb : frGood b = true) (hb0 : 0 ≤ b.num) : Calls Tryz.prog 103 #[a.val,b.val] w fun e w' => e = .returned (.int .i64 (cmpF a b)) ∧ Below w.heap.size w w' := by
 have hC := fun W => raCmp a b W ha hb hb0
 have HB := Lib.hid (((Below.refl _ w).alloc (Nat.le_refl _) (.cells #[.int .i64 a.num,.int .i64 a.den] 23)).alloc (by simp) (.cells #[.int .i64 b.num,.int .i64 b.den] 23))
 clear ha hb hb0
 generalize cmpF a b = c at *
 obtain ⟨an,ad⟩ := a
 obtain ⟨bn,bd⟩ := b
 simp only at *
 go_enter Tryz.func103,Tryz.ntmps103
 go_wp2_with (go_at_call 31;refine (hC _).mono ?_;rintro e w2 ⟨rfl,hb2⟩)
 go_ret
 exact ⟨rfl,HB.out.trans (hb2.mono HB.out.size)⟩
def facE (f : FrT) : Int := if frGood f = true then (if f.den ≤ f.num ∧ f.num ≤ 100 ∧ f.den ≤ 100 then 0 else 2) else 1
set_option maxHeartbeats 1000000 in
theorem lmIsFactor (f : FrT) (w : World) : Calls Tryz.prog 79 #[f.val] w fun e w' => e = .returned (.int .i64 (facE f)) ∧ Below w.heap.size w w' := by
 have hV := fun W => raValid f W
 have HD := Lib.hid (Blk.new w 23 #[.int .i64 f.num,.int .i64 f.den])
 have HB := Lib.hid ((Below.refl _ w).alloc (Nat.le_refl _) (.cells #[.int .i64 f.num,.int .i64 f.den] 23))
 rcases Bool.eq_false_or_eq_true (frGood f) with h0 | h0
 rotate_left
 ·have HE : Hid (facE f = 1) := by unfold Hid facE;rw [if_neg (by rw [h0];simp)]
  rw [h0] at hV
  clear h0 HD
  generalize facE f = fe at *
  obtain ⟨num,den⟩ := f
  simp only at *
  go_enter Tryz.func79,Tryz.ntmps79
  go_wp2_with (go_at_call 49;refine (hV _).mono ?_;rintro e w2 ⟨rfl,hb2⟩)
  go_ret
  exact ⟨ret_int HE.out.symm,HB.out.trans (hb2.mono HB.out.size)⟩
 have HE : Hid (facE f = if f.den ≤ f.num ∧ f.num ≤ 100 ∧ f.den ≤ 100 then 0 else 2) := by unfold Hid facE;rw [if_pos h0]
 rw [h0] at hV
 clear h0
 generalize facE f = fe at *
 obtain ⟨num,den⟩ := f
 simp only at *
 by_cases c1 : num < den
 ·have e1 : decide (num < den) = true := decide_eq_true c1
  have HE2 : Hid (fe = 2) := by unfold Hid;rw [HE.out,if_neg (by omega)]
  clear c1 HE
  go_enter Tryz.func79,Tryz.ntmps79
  go_wp2_with (go_at_call 49;refine (hV _).mono ?_;rintro e w2 ⟨rfl,hb2⟩;have HD2 := HD.out.below hb2 HD.out.lt;have z0 := HD2.cell 0;have z1 := HD2.cell 1;simp only [List.getElem?_toArray,List.getElem?_cons_succ,List.getElem?_cons_zero] at z0 z1)
  go_ret
  exact ⟨ret_int HE2.out.symm,HB.out.trans (hb2.mono HB.out.size)⟩
 have e1 : decide (num < den) = false := decide_eq_false c1
 by_cases c2 : 100 < num
 ·have e2 : decide (100 < num) = true := decide_eq_true c2
  have HE2 : Hid (fe = 2) := by unfold Hid;rw [HE.out,if_neg (by omega)]
  clear c1 c2 HE
  go_enter Tryz.func79,Tryz.ntmps79
  go_wp2_with (go_at_call 49;refine (hV _).mono ?_;rintro e w2 ⟨rfl,hb2⟩;have HD2 := HD.out.below hb2 HD.out.lt;have z0 := HD2.cell 0;have z1 := HD2.cell 1;simp only [List.getElem?_toArray,List.getElem?_cons_succ,List.getElem?_cons_zero] at z0 z1)
  go_ret
  exact ⟨ret_int HE2.out.symm,HB.out.trans (hb2.mono HB.out.size)⟩
 have e2 : decide (100 < num) = false := decide_eq_false c2
 by_cases c3 : 100 < den
 ·exact absurd c3 (by omega)
 have e3 : decide (100 < den) = false := decide_eq_false c3
 have HE2 : Hid (fe = 0) := by unfold Hid;rw [HE.out,if_pos (by omega)]
 clear c1 c2 c3 HE
 go_enter Tryz.func79,Tryz.ntmps79
 go_wp2_with (go_at_call 49;refine (hV _).mono ?_;rintro e w2 ⟨rfl,hb2⟩;have HD2 := HD.out.below hb2 HD.out.lt;have z0 := HD2.cell 0;have z1 := HD2.cell 1;simp only [List.getElem?_toArray,List.getElem?_cons_succ,List.getElem?_cons_zero] at z0 z1)
 go_ret
 exact ⟨ret_int HE2.out.symm,HB.out.trans (hb2.mono HB.out.size)⟩
end Go.Proofs.YtknkhnahflmjiaaGreatDoor

namespace Go.Proofs.YtknkhnahflmjiaaGreatDoor
open Go.RowKit Go.Shelf
theorem good_whole {m : Int} (h1 : -1152921504606846976 ≤ m) (h2 : m ≤ 1152921504606846976) : frGood ⟨m,1⟩ = true := by
 unfold frGood
 simp only [Bool.and_eq_true,decide_eq_true_eq,beq_iff_eq]
 refine ⟨⟨⟨⟨by omega,by omega⟩,h1⟩,h2⟩,?_⟩
 show ((Nat.gcd m.natAbs 1 : Nat) : Int) = 1
 rw [Nat.gcd_one_right]
 rfl
set_option maxRecDepth 100000 in
set_option maxHeartbeats 4000000 in
theorem lmFactor (a : FrT) (m : Int) (w : World) (ha : frGood a = true) (h0 : 0 < a.num) (hm : 1 ≤ m ∧ m ≤ 67108864) :
  Calls Tryz.prog 12 #[a.val,.int .i64 m] w fun e w' => e = .returned (fracV (qOf ⟨m,1⟩ / qOf a)) ∧ Below w.heap.size w w' := by
 have hva := fun W => raValid a W
 rw [ha] at hva
 have hM := fun W => raDiv ⟨m,1⟩ a W (good_whole (by omega) (by omega)) ha (by omega)
 obtain ⟨fx,fy,fz,hf⟩ := fracV_form (qOf ⟨m,1⟩ / qOf a)
 rw [hf] at hM ⊢
 have HM := Lib.hid hM
 have HO := Lib.hid fun W => lmOf m W
 have d1 : decide (m < 1) = false := decide_eq_false (by omega)
 have d2 : decide (67108864 < m) = false := decide_eq_false (by omega)
 have d3 : decide (a.num < 0) = false := decide_eq_false (by omega)
 have d4 : (a.num == 0) = false := beq_eq_false_iff_ne.2 (by omega)
 clear ha h0 hm hf hM
 obtain ⟨an,ad⟩ := a
 simp only at *
 have D0 := (Blk.new w 23 #[.int .i64 an,.int .i64 ad]).alloc (.cells #[.int .i64 0,.int .i64 0] 23)
 have D1 := Blk.new (w.alloc (.cells #[.int .i64 an,.int .i64 ad] 23)) 23 #[.int .i64 0,.int .i64 0]
 have hB := ((Below.refl _ w).alloc (Nat.le_refl _) (.cells #[.int .i64 an,.int .i64 ad] 23)).alloc (by simp) (.cells #[.int .i64 0,.int .i64 0] 23)
 rw [World.size_alloc] at D1
 go_enter Tryz.func12,Tryz.ntmps12
 go_wp2_with fail
 generalize (w.alloc (.cells #[.int .i64 an,.int .i64 ad] 23)).alloc (.cells #[.int .i64 0,.int .i64 0] 23) = W1 at *
 refine (hva W1).mono ?_
 rintro e w2 ⟨rfl,hb2⟩
 have D0 := Lib.hid (D0.below hb2 D0.lt)
 have D1 := Lib.hid (D1.below hb2 D1.lt)
 have HB := Lib.hid (hB.trans (hb2.mono hB.size))
 clear hb2 hB hva
 have y0 := D0.out.cell 0
 have y1 := D0.out.cell 1
 simp only [List.getElem?_toArray,List.getElem?_cons_succ,List.getElem?_cons_zero] at y0 y1
 go_wp2_with (exact Go.WalkKit.wp_stop)
 have u0 := HeldB.cell y0
 have u1 := HeldB.cell y1
 clear y0 y1
 refine wp_region_grow 6 (fun jx => if jx = 1 then some (gV (.agg #[.int .i64 m,.int .i64 1])) else if jx = 3 then some (gV (.tuple #[.agg #[.int .i64 fx,.int .i64 fy],.int .i64 fz])) else none) (by kernel_rfl) (by kernel_rfl) ?_
 simp only [List.take_succ_cons,List.take_zero,List.drop_succ_cons,List.drop_zero]
 refine wpG_quiet 1 (by kernel_rfl) (by rfl) (by decide) ?_
 simp only [List.take_succ_cons,List.take_zero,List.drop_succ_cons,List.drop_zero]
 repeat (go_big_quiet_step (fail))
 refine wpQuiet_nil ?_
 refine wpG_call rfl rfl (fun w1 _ _ => ⟨51,#[.int .i64 m],by go_simp,(HO.out w1).mono fun _ _ ⟨he,hb⟩ => ⟨_,he,hb,rfl,trivial⟩⟩) ?_
 rintro _ rfl
 simp only [Act.put,List.setIfInBounds_toArray,List.set_cons_zero,List.set_cons_succ]
 refine wpG_quiet 1 (by kernel_rfl) (by rfl) (by decide) ?_
 simp only [List.take_succ_cons,List.take_zero,List.drop_succ_cons,List.drop_zero]
 repeat (go_big_quiet_step (fail))
 refine wpQuiet_nil ?_
 refine wpG_call rfl rfl (fun w1 _ _ => ⟨50,#[.agg #[.int .i64 m,.int .i64 1],.agg #[.int .i64 an,.int .i64 ad]],by go_simp,(HM.out w1).mono fun _ _ ⟨he,hb⟩ => ⟨_,he,hb,rfl,trivial⟩⟩) ?_
 rintro _ rfl
 simp only [Act.put,List.setIfInBounds_toArray,List.set_cons_zero,List.set_cons_succ]
 refine wpG_quiet 2 (by kernel_rfl) (by rfl) (by decide) ?_
 simp only [List.take_succ_cons,List.take_zero,List.drop_succ_cons,List.drop_zero]
 repeat (go_big_quiet_step (fail))
 refine wpQuiet_nil ?_
 refine wpG_nil ?_
 intro w4 hb4 hF
 have D24 := D1.out.below hb4 D1.out.lt
 have HB4 := HB.out.trans (hb4.mono HB.out.size)
 have q0 := D24.cell 0
 have f0 := D24.frozen 0
 have E1 := (D24.set_ 0 (.int .i64 fx))
 have f1 := E1.frozen 1
 have E2 := E1.set_ 1 (.int .i64 fy)
 have p0 := E2.cell 0
 have p1 := E2.cell 1
 have r1 := E1.cell 1
 simp only [List.setIfInBounds_toArray,List.set_cons_zero,List.set_cons_succ] at p0 p1 r1
 simp only [List.getElem?_toArray,List.getElem?_cons_succ,List.getElem?_cons_zero] at q0 p0 p1 r1
 have HBz := Lib.hid ((HB4.setCell (p := ⟨w.heap.size + 1,0,none⟩) (by show w.heap.size ≤ w.heap.size + 1;omega) (.int .i64 fx)).setCell (p := ⟨w.heap.size + 1,1,none⟩) (by show w.heap.size ≤ w.heap.size + 1;omega) (.int .i64 fy))
 clear D24 HB4 E1 E2 HM HO hF u0 u1
 go_wp2_with fail
 refine bodyPost_ret (v := .tuple #[.agg #[.int .i64 fx,.int .i64 fy],.int .i64 fz]) (by simp [results,Tryz.results12,go_sem,p0,p1]) rfl ?_
 exact ⟨rfl,HBz.out⟩
end Go.Proofs.YtknkhnahflmjiaaGreatDoor

namespace Go.Proofs.YtknkhnahflmjiaaGreatDoor
open Go.RowKit Go.Shelf
def waitsB (md : Region.Mode) (ops : Array Oper) (i j : Nat) : Bool :=
 match ops[i]? with
 | some o => o.after.any fun e => Region.binds md e && e.on == j
 | none => false
def freeRegB (md : Region.Mode) (ops : Array Oper) (_S : List Nat) : Bool :=
 Region.noSelect ops && ops.all (fun o => o.guard.isNone) &&
 (List.range ops.size).all fun i => match ops[i]? with
  | none => false
  | some o => (o.after.all fun e => !Region.binds md e || decide (e.on < i)) &&
   (List.range ops.size).all fun j => match ops[j]? with
    | none => false
    | some p => match p.dst with
     | none => true
     | some d => (!(o.looksAt ops).contains d || waitsB md ops i j) && (decide (i = j) || !(o.dst == some d))
section
variable {P : Program} {ops : Array Oper} {md : Region.Mode} {V : Nat → Value} {Wd : Nat → World} {S : List Nat}
theorem waits_iff {i j : Nat} {o : Oper} (ho : ops[i]? = some o) : waitsB md ops i j = true ↔ ∃ e ∈ o.after,Region.binds md e = true ∧ e.on = j := by
 unfold waitsB
 rw [ho]
 dsimp only
 rw [← Array.any_toList,List.any_eq_true]
 simp only [Bool.and_eq_true,beq_iff_eq,Array.mem_toList_iff]
def dstOf (ops : Array Oper) (i : Nat) : Option Tmp := (ops[i]?).bind (·.dst)
def pend (ops : Array Oper) (V : Nat → Value) (done : Array Bool) : List Nat → Act → Act
 | [],a => a
 | i :: r,a => pend ops V done r (if done.getD i true = false then a.put (dstOf ops i) (V i) else a)
theorem pend_set_out {done : Array Bool} {i : Nat} : ∀ (L : List Nat) (a : Act),i ∉ L → pend ops V (done.setIfInBounds i true) L a = pend ops V done L a
 | [],_,_ => rfl
 | j :: r,a,h => by
  have hji : i ≠ j := fun e => h (by rw [e];simp)
  unfold pend
  rw [getD_set_ne true hji,pend_set_out r _ (fun hh => h (by simp [hh]))]
theorem pend_step {done : Array Bool} {i : Nat} (hi : done.getD i true = false) (hlt : i < done.size) (hd : ∀ j,j ≠ i → ∀ d,dstOf ops i = some d → dstOf ops j ≠ some d) : ∀ (L : List Nat) (a : Act),L.Nodup → i ∈ L →
  pend ops V (done.setIfInBounds i true) L (a.put (dstOf ops i) (V i)) = pend ops V done L a
 | [],_,_,h => by cases h
 | j :: r,a,hn,hm => by
  rw [List.nodup_cons] at hn
  unfold pend
  by_cases e : j = i
  ·subst e
   have h1 : (done.setIfInBounds j true).getD j true = true := by
    simp [Array.getD,hlt]
   rw [if_neg (by rw [h1];simp),if_pos hi,pend_set_out r _ hn.1]
  ·rw [getD_set_ne true (Ne.symm e)]
   have hm' : i ∈ r := by
    rcases List.mem_cons.1 hm with h | h
    ·exact absurd h.symm e
    ·exact h
   by_cases hj : done.getD j true = false
   ·rw [if_pos hj,if_pos hj,Act.put_comm a (V i) (V j) (hd j e),pend_step hi hlt hd r _ hn.2 hm']
   ·rw [if_neg hj,if_neg hj,pend_step hi hlt hd r _ hn.2 hm']
theorem exec_pend {done : Array Bool} {o : Oper} (hs : ∀ cs b,o.op ≠ .select cs b) : ∀ (L : List Nat) (a : Act),(∀ j ∈ L,done.getD j true = false → ∀ d,dstOf ops j = some d → d ∉ o.looksAt ops) → execOp (pend ops V done L a).eval o = execOp a.eval o
 | [],_,_ => rfl
 | j :: r,a,h => by
  unfold pend
  by_cases hj : done.getD j true = false
  ·rw [if_pos hj,exec_pend hs r _ (fun j hj => h j (by simp [hj])),execOp_put (ops := ops) o hs a _ _ (h j (by simp) hj)]
  ·rw [if_neg hj,exec_pend hs r _ (fun j hj => h j (by simp [hj]))]
def left (done : Array Bool) (n : Nat) : Nat := ((List.range n).filter fun i => !done.getD i true).length
theorem left_set {done : Array Bool} {i : Nat} (hi : done.getD i true = false) (hlt : i < done.size) : ∀ L : List Nat,L.Nodup → i ∈ L → (L.filter fun i => !done.getD i true).length = (L.filter fun j => !(done.setIfInBounds i true).getD j true).length + 1
 | [],_,h => by cases h
 | j :: r,hn,hm => by
  rw [List.nodup_cons] at hn
  have hout : ∀ r : List Nat,i ∉ r → (r.filter fun j => !(done.setIfInBounds i true).getD j true) = r.filter fun j => !done.getD j true := fun r hr =>
   List.filter_congr fun x hx => by rw [getD_set_ne true (fun e => hr (by rw [e];exact hx))]
  by_cases e : j = i
  ·subst e
   have h1 : (done.setIfInBounds j true).getD j true = true := by
    simp [Array.getD,hlt]
   rw [List.filter_cons_of_pos (by rw [hi];rfl),List.filter_cons_of_neg (by rw [h1];simp),hout r hn.1]
   rfl
  ·have hm' : i ∈ r := by
    rcases List.mem_cons.1 hm with h | h
    ·exact absurd h.symm e
    ·exact h
   have ih := left_set hi hlt r hn.2 hm'
   have h2 := getD_set_ne (listed := done) true (Ne.symm e)
   cases hj : done.getD j true with
   | false =>
    rw [List.filter_cons_of_pos (by rw [hj];rfl),List.filter_cons_of_pos (by rw [h2,hj];rfl),List.length_cons,List.length_cons,ih]
   | true =>
    rw [List.filter_cons_of_neg (by rw [hj];simp),List.filter_cons_of_neg (by rw [h2,hj];simp),ih]
theorem getD_two {done : Array Bool} {i : Nat} (h : i < done.size) : done.getD i true = done.getD i false := by
 simp [Array.getD,h]
def putAll : List Oper → List Value → Act → Act
 | o :: r,v :: vs,a => putAll r vs (a.put o.dst v)
 | _,_,a => a
theorem pend_all {l : List Oper} {Vs : List Value} : ∀ (r : List Oper) (vs : List Value) (k : Nat) (a : Act),r.length = vs.length → (∀ j,r[j]? = l[k + j]?) → (∀ j,vs[j]? = Vs[k + j]?) → k + r.length = l.length →
  pend l.toArray (fun i => Vs.getD i undef) (Array.replicate l.toArray.size false) (List.range' k r.length) a = putAll r vs a
 | [],[],_,_,_,_,_,_ => rfl
 | [],_ :: _,_,_,h,_,_,_ => by cases h
 | _ :: _,[],_,_,h,_,_,_ => by cases h
 | o :: r,v :: vs,k,a,h,h1,h2,h3 => by
  have ho : l[k]? = some o := by simpa using (h1 0).symm
  have hv : Vs[k]? = some v := by simpa using (h2 0).symm
  have hkl : k < l.length := (List.getElem?_eq_some_iff.1 ho).1
  rw [List.length_cons,List.range'_succ]
  unfold pend putAll
  rw [if_pos (getD_in (by simpa using hkl) (getD_replicate_false _ _))]
  have hd : dstOf l.toArray k = o.dst := by unfold dstOf;rw [List.getElem?_toArray,ho];rfl
  have hV : Vs.getD k undef = v := by rw [List.getD_eq_getElem?_getD,hv];rfl
  rw [hd,hV]
  refine pend_all r vs (k + 1) _ (by simpa using h) (fun j => ?_) (fun j => ?_) (by rw [List.length_cons] at h3;omega)
  ·have := h1 (j + 1)
   rw [List.getElem?_cons_succ] at this
   rw [this,show k + (j + 1) = k + 1 + j by omega]
  ·have := h2 (j + 1)
   rw [List.getElem?_cons_succ] at this
   rw [this,show k + (j + 1) = k + 1 + j by omega]
end
end Go.Proofs.YtknkhnahflmjiaaGreatDoor

namespace Go.Proofs.YtknkhnahflmjiaaGreatDoor
open Go.RowKit Go.Shelf
section
variable {P : Program} {ops : Array Oper} {md : Region.Mode} {S : List Nat}
def finJ (ops : Array Oper) (a0 : Act) (V : Nat → Value) : Act := pend ops V (Array.replicate ops.size false) (List.range ops.size) a0
theorem finJ_list {l : List Oper} {Vs : List Value} {a : Act} (hl : l.length = Vs.length) : finJ l.toArray a (fun i => Vs.getD i undef) = putAll l Vs a := by
 unfold finJ
 rw [List.size_toArray,List.range_eq_range']
 exact pend_all l Vs 0 a hl (fun j => by rw [Nat.zero_add]) (fun j => by rw [Nat.zero_add]) (by omega)
end
end Go.Proofs.YtknkhnahflmjiaaGreatDoor

namespace Go.Proofs.YtknkhnahflmjiaaGreatDoor
open Go.RowKit Go.Shelf
section
variable {P : Program} {ops : Array Oper} {md : Region.Mode} {S : List Nat}
def reachPo (md : Region.Mode) (ops : Array Oper) (i : Nat) : Nat → List Nat
 | 0 => []
 | k + 1 => if waitsB md ops k i || (reachPo md ops i k).any (fun r => waitsB md ops k r) then k :: reachPo md ops i k else reachPo md ops i k
def waitsT (md : Region.Mode) (ops : Array Oper) (j i : Nat) : Bool := (reachPo md ops i ops.size).contains j
theorem reach_done {done : Array Bool} (hc : ∀ j,done.getD j false = true → ∀ i,waitsB md ops j i = true → done.getD i false = true) {i : Nat} : ∀ k j,j ∈ reachPo md ops i k → done.getD j false = true → done.getD i false = true
 | 0,_,h,_ => by simp [reachPo] at h
 | k + 1,j,h,hd => by
  unfold reachPo at h
  split at h
  ·rename_i hw
   rcases List.mem_cons.1 h with rfl | h
   ·rcases Bool.or_eq_true _ _ |>.mp hw with hw | hw
    ·exact hc _ hd _ hw
    ·obtain ⟨r,hr,h2⟩ := List.any_eq_true.1 hw
     exact reach_done hc _ r hr (hc _ hd _ h2)
   ·exact reach_done hc _ j h hd
  ·exact reach_done hc _ j h hd
theorem reach_ready {done : Array Bool} (hc : ∀ j,done.getD j false = true → ∀ i,waitsB md ops j i = true → done.getD i false = true) {i j : Nat} (hj : ∀ r,waitsB md ops j r = true → done.getD r false = true) : ∀ k,j ∈ reachPo md ops i k → done.getD i false = true
 | 0,h => by simp [reachPo] at h
 | k + 1,h => by
  unfold reachPo at h
  split at h
  ·rename_i hw
   rcases List.mem_cons.1 h with rfl | h
   ·rcases Bool.or_eq_true _ _ |>.mp hw with hw | hw
    ·exact hj _ hw
    ·obtain ⟨r,hr,h2⟩ := List.any_eq_true.1 hw
     exact reach_done hc _ r hr (hj _ h2)
   ·exact reach_ready hc hj _ h
  ·exact reach_ready hc hj _ h
theorem waitsT_done {done : Array Bool} (hc : ∀ j,done.getD j false = true → ∀ i,waitsB md ops j i = true → done.getD i false = true) {i j : Nat} (h : waitsT md ops j i = true) (hd : done.getD j false = true) : done.getD i false = true :=
 reach_done hc _ j (by unfold waitsT at h;simpa using h) hd
theorem waitsT_ready {done : Array Bool} (hc : ∀ j,done.getD j false = true → ∀ i,waitsB md ops j i = true → done.getD i false = true) {i j : Nat} (hj : ∀ r,waitsB md ops j r = true → done.getD r false = true) (h : waitsT md ops j i = true) : done.getD i false = true :=
 reach_ready hc hj _ (by unfold waitsT at h;simpa using h)
def okP (md : Region.Mode) (ops : Array Oper) (S L : List Nat) (i : Nat) : Bool :=
 S.all fun s => if L.contains s then !waitsT md ops i s else !waitsT md ops s i
def rdP (md : Region.Mode) (ops : Array Oper) (L : List Nat) (i : Nat) : Bool :=
 L.all fun s => !waitsT md ops i s
def readsP (P : Program) (md : Region.Mode) (ops : Array Oper) (S : List Nat) (a0 : Act) (L : List Nat) (V : Nat → Value) (w : World) : Prop :=
 ∀ i o,ops[i]? = some o → i ∉ S → okP md ops S L i = true → (execOp (finJ ops a0 V).eval o).run P w = .ok (.value (V i)) w
def poJ (P : Program) (md : Region.Mode) (ops : Array Oper) (S : List Nat) (a0 : Act) (Q : Exit → Act → World → Prop) : Nat → List Nat → (Nat → Value) → World → Prop
 | 0,L,V,w => readsP P md ops S a0 L V w ∧ (L = [] → Q .normal (finJ ops a0 V) w)
 | n + 1,L,V,w => readsP P md ops S a0 L V w ∧ (L = [] → Q .normal (finJ ops a0 V) w) ∧ ∀ i o,i ∈ L → rdP md ops L i = true → ops[i]? = some o →
  (o.dst = none ∧ ∃ w' V',(execOp (finJ ops a0 V).eval o).run P w = .ok .skip w' ∧ (∀ j,j ≠ i → waitsT md ops j i = false → V' j = V j) ∧ poJ P md ops S a0 Q n (L.erase i) V' w') ∨
  (∃ v w' V',(execOp (finJ ops a0 V).eval o).run P w = .ok (.value v) w' ∧ (∀ j,j ≠ i → waitsT md ops j i = false → V' j = V j) ∧ V' i = v ∧ poJ P md ops S a0 Q n (L.erase i) V' w') ∨
  ∃ f args,(execOp (finJ ops a0 V).eval o).run P w = .ok (.enter f args) w ∧ Calls P f args w fun e w' => ∃ v V',e = .returned v ∧ (∀ j,j ≠ i → waitsT md ops j i = false → V' j = V j) ∧ V' i = v ∧ poJ P md ops S a0 Q n (L.erase i) V' w'
theorem poJ_reads {a0 : Act} {Q : Exit → Act → World → Prop} {n : Nat} {L : List Nat} {V : Nat → Value} {w : World} (h : poJ P md ops S a0 Q n L V w) : readsP P md ops S a0 L V w ∧ (L = [] → Q .normal (finJ ops a0 V) w) := by
 cases n with
 | zero => exact h
 | succ n => exact ⟨h.1,h.2.1⟩
structure PInv (P : Program) (md : Region.Mode) (ops : Array Oper) (S : List Nat) (a0 : Act) (Q : Exit → Act → World → Prop) (V : Nat → Value) (done : Array Bool) (a : Act) (w : World) : Prop where
 size : done.size = ops.size
 act : ∀ V2 : Nat → Value,(∀ j,done.getD j false = true → V2 j = V j) → pend ops V2 done (List.range ops.size) a = finJ ops a0 V2
 closed : ∀ j,done.getD j false = true → ∀ i,waitsB md ops j i = true → done.getD i false = true
 world : ∃ L : List Nat,L.Nodup ∧ (∀ s,s ∈ L → s ∈ S) ∧ poJ P md ops S a0 Q L.length L V w ∧ ∀ s,s ∈ S → done.getD s false = decide (s ∉ L)
theorem poJ_any {Q : Exit → Act → World → Prop} {a0 : Act} (hF : freeRegB md ops S = true) (hS : S.all (fun s => decide (s < ops.size)) = true) :
  ∀ (f : Nat) (V : Nat → Value) (done : Array Bool) (a : Act) (w : World),PInv P md ops S a0 Q V done a w → left done ops.size = f → wpAny P md ops Q f done a w := by
 unfold freeRegB at hF
 simp only [Bool.and_eq_true,List.all_eq_true,List.mem_range] at hF
 obtain ⟨⟨hsel,hgd⟩,hF⟩ := hF
 have hS := fun s hs => of_decide_eq_true (List.all_eq_true.1 hS s hs)
 have hlow : ∀ i j,waitsB md ops i j = true → j < i := fun i j h => by
  unfold waitsB at h
  cases ho : ops[i]? with
  | none => rw [ho] at h;cases h
  | some o =>
   obtain ⟨e,he,h1,h2⟩ := (waits_iff ho).1 (by unfold waitsB;exact h)
   have hi := hF i (Array.getElem?_eq_some_iff.1 ho).1
   rw [ho] at hi
   simp only [Bool.and_eq_true] at hi
   have h3 := Array.all_eq_true_iff_forall_mem.1 hi.1 e he
   simp only [Bool.or_eq_true,Bool.not_eq_true',decide_eq_true_eq] at h3
   rcases h3 with h3 | h3
   ·rw [h1] at h3;cases h3
   ·omega
 have hready : ∀ done : Array Bool,done.size = ops.size → ∀ i,i ∈ Region.ready md ops done ↔ (i < ops.size ∧ done.getD i false = false ∧ ∀ j,waitsB md ops i j = true → done.getD j false = true) := fun done hsz i => by
  rw [mem_ready]
  constructor
  ·rintro ⟨h1,o,ho,h2⟩
   have hi := (Array.getElem?_eq_some_iff.1 ho).1
   refine ⟨hi,by rw [← getD_two (by omega)];exact h1,fun j hj => ?_⟩
   obtain ⟨e,he,h3,rfl⟩ := (waits_iff ho).1 hj
   exact h2 e he h3
  ·rintro ⟨hi,h1,h2⟩
   refine ⟨by rw [getD_two (by omega)];exact h1,ops[i],Array.getElem?_eq_getElem hi,fun e he hb => h2 _ ((waits_iff (Array.getElem?_eq_getElem hi)).2 ⟨e,he,hb,rfl⟩)⟩
 have hend : ∀ (V : Nat → Value) (done : Array Bool) (a : Act) (w : World),PInv P md ops S a0 Q V done a w → Region.ready md ops done = [] → Q .normal a w := fun V done a w inv hr => by
  have hall : ∀ i,i < ops.size → done.getD i false = true := fun i => by
   induction i using Nat.strongRecOn with
   | _ i ih =>
    intro hi
    cases h : done.getD i false with
    | true => rfl
    | false =>
     have : i ∈ Region.ready md ops done := (hready done inv.size i).2 ⟨hi,h,fun j hj => ih j (hlow i j hj) (by have := hlow i j hj;omega)⟩
     rw [hr] at this
     cases this
  have hp : ∀ L : List Nat,(∀ i ∈ L,i < ops.size) → ∀ b,pend ops V done L b = b := fun L => by
   induction L with
   | nil => intro _ _;rfl
   | cons i r ih =>
    intro h b
    unfold pend
    have h1 : done.getD i true = true := by rw [getD_two (by rw [inv.size];exact h i (by simp))];exact hall i (h i (by simp))
    rw [if_neg (by rw [h1];simp)]
    exact ih (fun j hj => h j (by simp [hj])) b
  have ha := inv.act V (fun _ _ => rfl)
  rw [hp _ (fun i hi => List.mem_range.1 hi)] at ha
  obtain ⟨L,hN,hLS,hI,hd⟩ := inv.world
  have hL : L = [] := by
   rw [List.eq_nil_iff_forall_not_mem]
   intro s hs
   have h1 := hd s (hLS s hs)
   rw [hall _ (hS s (hLS s hs))] at h1
   exact of_decide_eq_true h1.symm hs
  rw [ha]
  exact (poJ_reads hI).2 hL
 intro f
 induction f with
 | zero =>
  intro V done a w inv hl
  have hr : Region.ready md ops done = [] := by
   rw [List.eq_nil_iff_forall_not_mem]
   intro i hi
   obtain ⟨h1,h2,-⟩ := (hready done inv.size i).1 hi
   have h3 : i ∈ (List.range ops.size).filter fun i => !done.getD i true := List.mem_filter.2 ⟨List.mem_range.2 h1,by rw [getD_two (by rw [inv.size];exact h1),h2];rfl⟩
   unfold left at hl
   rw [List.length_eq_zero_iff] at hl
   rw [hl] at h3
   cases h3
  exact ⟨hr,hend V done a w inv hr⟩
 | succ f ih =>
  intro V done a w inv hl
  refine ⟨hend V done a w inv,fun i hi => ?_⟩
  obtain ⟨hilt,hiu,hiw⟩ := (hready done inv.size i).1 hi
  have hit : done.getD i true = false := by rw [getD_two (by rw [inv.size];exact hilt)];exact hiu
  have ho := Array.getElem?_eq_getElem hilt
  generalize hoo : ops[i] = o at ho
  unfold wpOp
  rw [ho]
  dsimp only
  have hg := Array.all_eq_true_iff_forall_mem.1 hgd o (by rw [← hoo];exact Array.getElem_mem hilt)
  have hw : Region.wanted o (yielded ops a.tmps) = true := by
   unfold Region.wanted
   rw [Option.isNone_iff_eq_none.1 hg]
  rw [if_pos hw]
  refine .inl ?_
  have hFi := hF i hilt
  rw [ho] at hFi
  simp only [Bool.and_eq_true] at hFi
  have hSel := Region.noSelect_spec hsel
  have hex : execOp (finJ ops a0 V).eval o = execOp a.eval o := by
   rw [← inv.act V (fun _ _ => rfl)]
   refine exec_pend (ops := ops) (fun cs b => hSel i o cs b ho) _ _ fun j hj hju d hd hmem => ?_
   have hjl := List.mem_range.1 hj
   have h1 := List.all_eq_true.1 hFi.2 j (List.mem_range.2 hjl)
   rw [Array.getElem?_eq_getElem hjl] at h1
   unfold dstOf at hd
   rw [Array.getElem?_eq_getElem hjl] at hd
   simp only [Option.bind_some] at hd
   dsimp only at h1
   rw [hd] at h1
   simp only [Bool.and_eq_true,Bool.or_eq_true,Bool.not_eq_true',List.contains_eq_mem,decide_eq_false_iff_not] at h1
   rcases h1.1 with h2 | h2
   ·exact h2 hmem
   ·have h3 := hiw j h2
    rw [getD_two (by rw [inv.size];exact hjl),h3] at hju
    cases hju
  have hdist : ∀ j,j ≠ i → ∀ d,dstOf ops i = some d → dstOf ops j ≠ some d := fun j hji d hd hdj => by
   unfold dstOf at hdj
   cases hjo : ops[j]? with
   | none => rw [hjo] at hdj;cases hdj
   | some p =>
    have hjl := (Array.getElem?_eq_some_iff.1 hjo).1
    rw [hjo] at hdj
    simp only [Option.bind_some] at hdj
    have h1 := List.all_eq_true.1 hFi.2 j (List.mem_range.2 hjl)
    rw [hjo] at h1
    dsimp only at h1
    rw [hdj] at h1
    unfold dstOf at hd
    rw [ho] at hd
    simp only [Option.bind_some] at hd
    simp only [Bool.and_eq_true,Bool.or_eq_true,Bool.not_eq_true',decide_eq_true_eq,beq_eq_false_iff_ne] at h1
    rcases h1.2 with h2 | h2
    ·exact hji h2.symm
    ·exact h2 hd
  have hself : (done.setIfInBounds i true).getD i false = true := by
   have h9 : i < done.size := by rw [inv.size];exact hilt
   simp [Array.getD,h9]
  have hnext : ∀ (V' : Nat → Value) u w',(∀ j,done.getD j false = true → V' j = V j) → (∃ L : List Nat,L.Nodup ∧ (∀ s,s ∈ L → s ∈ S) ∧ poJ P md ops S a0 Q L.length L V' w' ∧ ∀ s,s ∈ S → (done.setIfInBounds i true).getD s false = decide (s ∉ L)) → (dstOf ops i = none ∨ u = V' i) → wpAny P md ops Q f (done.setIfInBounds i true) (a.put o.dst u) w' := fun V' u w' hV hw' hu => by
   refine ih V' _ _ _ ⟨by rw [Array.size_setIfInBounds];exact inv.size,fun V2 hV2 => ?_,fun j hj k hk => ?_,hw'⟩ ?_
   ·have hVi : V2 i = V' i := hV2 i hself
    have hVd : ∀ j,done.getD j false = true → V2 j = V j := fun j hj => (hV2 j (getD_set_true hj)).trans (hV j hj)
    have hdo : o.dst = dstOf ops i := by unfold dstOf;rw [ho];rfl
    have h2 := pend_step (V := V2) hit (by rw [inv.size];exact hilt) hdist (List.range ops.size) a List.nodup_range (List.mem_range.2 hilt)
    rw [hdo]
    rcases hu with hu | hu
    ·rw [hu] at h2 ⊢
     exact h2.trans (inv.act V2 hVd)
    ·rw [hu,← hVi]
     exact h2.trans (inv.act V2 hVd)
   ·by_cases e : i = j
    ·subst e
     exact getD_set_true (hiw k hk)
    ·rw [getD_set_ne false e] at hj
     exact getD_set_true (inv.closed j hj k hk)
   ·unfold left at hl ⊢
    have := left_set hit (by rw [inv.size];exact hilt) (List.range ops.size) List.nodup_range (List.mem_range.2 hilt)
    omega
  obtain ⟨L,hN,hLS,hI,hd⟩ := inv.world
  unfold Oper.wp
  by_cases hns : i ∈ S
  rotate_left
  ·have hrun := (poJ_reads hI).1 i o ho hns (by
    unfold okP
    rw [List.all_eq_true]
    intro s hs
    by_cases hsL : s ∈ L
    ·rw [if_pos (by simpa using hsL)]
     cases hwt : waitsT md ops i s with
     | false => rfl
     | true =>
      have h2 := hd s hs
      rw [waitsT_ready inv.closed hiw hwt] at h2
      exact absurd hsL (of_decide_eq_true h2.symm)
    ·rw [if_neg (by simpa using hsL)]
     cases hwt : waitsT md ops s i with
     | false => rfl
     | true =>
      have h2 := hd s hs
      rw [decide_eq_true hsL] at h2
      have h3 := waitsT_done inv.closed hwt h2
      rw [hiu] at h3
      cases h3)
   rw [← hex,hrun]
   exact hnext V _ _ (fun _ _ => rfl) ⟨L,hN,hLS,hI,fun s hs => by
    have hne : i ≠ s := fun e => hns (e ▸ hs)
    rw [getD_set_ne false hne]
    exact hd s hs⟩ (.inr rfl)
  ·have hiL : i ∈ L := by
    have h2 := hd i hns
    rw [hiu] at h2
    have h3 := of_decide_eq_false h2.symm
    exact Classical.not_not.1 h3
   have hrd : rdP md ops L i = true := by
    unfold rdP
    rw [List.all_eq_true]
    intro s hs
    have hsd : done.getD s false = false := by rw [hd s (hLS s hs)];exact decide_eq_false (fun h => h hs)
    cases hwt : waitsT md ops i s with
    | false => rfl
    | true => rw [waitsT_ready inv.closed hiw hwt] at hsd;cases hsd
   obtain ⟨n,hn⟩ : ∃ n,L.length = n + 1 := ⟨L.length - 1,by have := List.length_pos_of_mem hiL;omega⟩
   rw [hn] at hI
   have h1 := hI.2.2 i o hiL hrd ho
   have hag : ∀ V' : Nat → Value,(∀ j,j ≠ i → waitsT md ops j i = false → V' j = V j) → ∀ j,done.getD j false = true → V' j = V j := fun V' h j hj => h j (fun e => by rw [e,hiu] at hj;cases hj) (by
    cases hwt : waitsT md ops j i with
    | false => rfl
    | true =>
     have := waitsT_done inv.closed hwt hj
     rw [hiu] at this
     cases this)
   have hW2 : ∀ (V' : Nat → Value) w',poJ P md ops S a0 Q n (L.erase i) V' w' → ∃ L' : List Nat,L'.Nodup ∧ (∀ s,s ∈ L' → s ∈ S) ∧ poJ P md ops S a0 Q L'.length L' V' w' ∧ ∀ s,s ∈ S → (done.setIfInBounds i true).getD s false = decide (s ∉ L') := fun V' w' hw' => by
    refine ⟨L.erase i,hN.erase i,fun s hs => hLS s (List.mem_of_mem_erase hs),by rw [List.length_erase_of_mem hiL,hn];exact hw',fun s hs => ?_⟩
    by_cases e : i = s
    ·subst e
     rw [hself]
     have hni : ¬ i ∈ L.erase i := fun h => ((List.Nodup.mem_erase_iff hN).1 h).1 rfl
     exact (decide_eq_true hni).symm
    ·rw [getD_set_ne false e,hd s hs,decide_eq_decide]
     exact not_congr ((List.mem_erase_of_ne (Ne.symm e)).symm)
   rcases h1 with ⟨hdn,w',V',h1,h2,h3⟩ | ⟨v,w',V',h1,h2,h3,h4⟩ | ⟨f',args,h1,hC⟩
   ·rw [← hex,h1]
    exact hnext V' _ _ (hag V' h2) (hW2 V' w' h3) (.inl (by unfold dstOf;rw [ho];exact hdn))
   ·rw [← hex,h1]
    exact hnext V' _ _ (hag V' h2) (hW2 V' w' h4) (.inr h3.symm)
   ·rw [← hex,h1]
    refine hC.mono ?_
    rintro e w' ⟨v,V',rfl,h2,h3,h4⟩
    exact hnext V' _ _ (hag V' h2) (hW2 V' w' h4) (.inr h3.symm)
theorem wp_region_po {id : Nat} {Q : Exit → Act → World → Prop} {a : Act} {w : World} {l : List Oper} (V : Nat → Value) (S : List Nat) (hm : P.follows .mixedOrders = true)
  (hF : freeRegB .any l.toArray S = true) (hS : S.all (fun s => decide (s < l.toArray.size)) = true) (hN : S.Nodup) (h : poJ P .any l.toArray S a Q S.length S V w.drew) : (Code.region id l.toArray true).wp P Q a w := by
 refine wp_region_any hm ?_
 refine poJ_any hF hS _ V _ _ _ ⟨by simp,fun V2 _ => rfl,fun j hj => ?_,S,hN,fun _ h => h,h,fun s hs => ?_⟩ ?_
 ·rw [getD_replicate_false] at hj
  cases hj
 ·rw [getD_replicate_false]
  exact (decide_eq_false (fun h => h hs)).symm
 ·unfold left
  rw [List.filter_eq_self.2 (fun i hi => by rw [getD_in (by simpa using List.mem_range.1 hi) (getD_replicate_false _ _)];rfl),List.length_range]
def readsQ (P : Program) (ops : Array Oper) (S : List Nat) (aF : Act) (L : List Nat) (w : World) : Nat → List Oper → List Value → Prop
 | i,o :: r,v :: vs => (S.contains i = true ∨ okP .any ops S L i = false ∨ (execOp aF.eval o).run P w = .ok (.value v) w) ∧ readsQ P ops S aF L w (i + 1) r vs
 | _,_,_ => True
theorem readsQ_get {aF : Act} {L : List Nat} {w : World} {Vs : List Value} : ∀ (r : List Oper) (vs : List Value) (k : Nat),r.length = vs.length → (∀ j,vs[j]? = Vs[k + j]?) → readsQ P ops S aF L w k r vs →
  ∀ j o,r[j]? = some o → S.contains (k + j) = true ∨ okP .any ops S L (k + j) = false ∨ (execOp aF.eval o).run P w = .ok (.value (Vs.getD (k + j) undef)) w
 | [],_,_,_,_,_,j,o,ho => by simp at ho
 | _ :: _,[],_,hl,_,_,_,_,_ => by simp at hl
 | o :: r,v :: vs,k,hl,hv,h,j,o',ho => by
  cases j with
  | zero =>
   obtain rfl : o = o' := by simpa using ho
   have h0 := hv 0
   rw [List.getElem?_cons_zero] at h0
   have e : Vs.getD (k + 0) undef = v := by rw [List.getD_eq_getElem?_getD,← h0];rfl
   rw [e]
   exact h.1
  | succ j =>
   rw [List.getElem?_cons_succ] at ho
   have h1 := readsQ_get r vs (k + 1) (by simpa using hl) (fun j => by
    have := hv (j + 1)
    rw [List.getElem?_cons_succ] at this
    rw [this,show k + (j + 1) = k + 1 + j by omega]) h.2 j o' ho
   rwa [show k + 1 + j = k + (j + 1) by omega] at h1
theorem readsQ_list {l : List Oper} {Vs : List Value} {a : Act} {L : List Nat} {w : World} (hl : l.length = Vs.length) (h : readsQ P l.toArray S (putAll l Vs a) L w 0 l Vs) : readsP P .any l.toArray S a L (fun i => Vs.getD i undef) w := by
 intro i o ho hns hok
 rw [List.getElem?_toArray] at ho
 rw [finJ_list hl]
 have := readsQ_get (Vs := Vs) l Vs 0 hl (fun j => by rw [Nat.zero_add]) h i o ho
 rw [Nat.zero_add] at this
 rcases this with h1 | h1 | h1
 ·exact absurd (by simpa using h1) hns
 ·rw [hok] at h1;cases h1
 ·exact h1
theorem poJ_end {l : List Oper} {Vs : List Value} {a : Act} {Q : Exit → Act → World → Prop} {w : World} (hl : l.length = Vs.length) (h : readsQ P l.toArray S (putAll l Vs a) [] w 0 l Vs) (hQ : Q .normal (putAll l Vs a) w) :
  poJ P .any l.toArray S a Q 0 [] (fun i => Vs.getD i undef) w := ⟨readsQ_list hl h,fun _ => by rw [finJ_list hl];exact hQ⟩
theorem poJ_step {l : List Oper} {Vs : List Value} {a : Act} {Q : Exit → Act → World → Prop} {w : World} {n : Nat} {L : List Nat} (hl : l.length = Vs.length) (hne : L ≠ []) (h : readsQ P l.toArray S (putAll l Vs a) L w 0 l Vs)
  (hop : ∀ i o,i ∈ L → rdP .any l.toArray L i = true → l[i]? = some o → (o.dst = none ∧ ∃ w' V',(execOp (putAll l Vs a).eval o).run P w = .ok .skip w' ∧ (∀ j,j ≠ i → waitsT .any l.toArray j i = false → V' j = Vs.getD j undef) ∧ poJ P .any l.toArray S a Q n (L.erase i) V' w') ∨
   (∃ v w' V',(execOp (putAll l Vs a).eval o).run P w = .ok (.value v) w' ∧ (∀ j,j ≠ i → waitsT .any l.toArray j i = false → V' j = Vs.getD j undef) ∧ V' i = v ∧ poJ P .any l.toArray S a Q n (L.erase i) V' w') ∨
   ∃ f args,(execOp (putAll l Vs a).eval o).run P w = .ok (.enter f args) w ∧ Calls P f args w fun e w' => ∃ v V',e = .returned v ∧ (∀ j,j ≠ i → waitsT .any l.toArray j i = false → V' j = Vs.getD j undef) ∧ V' i = v ∧ poJ P .any l.toArray S a Q n (L.erase i) V' w') :
  poJ P .any l.toArray S a Q (n + 1) L (fun i => Vs.getD i undef) w := by
 refine ⟨readsQ_list hl h,fun e => absurd e hne,fun i o hi hr ho => ?_⟩
 rw [List.getElem?_toArray] at ho
 rw [finJ_list hl]
 exact hop i o hi hr ho
def agreeL (l : Array Oper) (i : Nat) : Nat → List Value → List Value → Prop
 | k,v :: vs,u :: us => (k = i ∨ waitsT .any l k i = true ∨ u = v) ∧ agreeL l i (k + 1) vs us
 | _,[],[] => True
 | _,_,_ => False
theorem agreeL_get {l : Array Oper} {i : Nat} : ∀ (k : Nat) (vs us : List Value),agreeL l i k vs us → ∀ j,k + j ≠ i → waitsT .any l (k + j) i = false → us.getD j undef = vs.getD j undef
 | k,v :: vs,u :: us,h,0,h1,h2 => by
  rcases h.1 with h3 | h3 | h3
  ·exact absurd h3 h1
  ·rw [Nat.add_zero,h3] at h2;cases h2
  ·exact h3
 | k,v :: vs,u :: us,h,j + 1,h1,h2 => agreeL_get (k + 1) vs us h.2 j (by omega) (by rwa [show k + 1 + j = k + (j + 1) by omega])
 | _,[],[],_,_,_,_ => rfl
 | _,[],_ :: _,h,_,_,_ => h.elim
 | _,_ :: _,[],h,_,_,_ => h.elim
theorem agreeL_all {l : Array Oper} {i : Nat} {Vs Us : List Value} (h : agreeL l i 0 Vs Us) : ∀ j,j ≠ i → waitsT .any l j i = false → Us.getD j undef = Vs.getD j undef := fun j h1 h2 => agreeL_get 0 Vs Us h j (by omega) (by rwa [Nat.zero_add])
end
end Go.Proofs.YtknkhnahflmjiaaGreatDoor

namespace Go.Proofs.YtknkhnahflmjiaaGreatDoor
open Go.RowKit Go.Shelf
def errW (ok : Bool) (g : Nat) (w : World) : World := match ok with
 | true => w
 | false => w.setCell ⟨g,2,none⟩ (.int .i64 5)
set_option maxRecDepth 100000 in
set_option maxHeartbeats 1000000 in
theorem lmOver (a f : FrT) (m : Int) (g : Nat) (er : Int) (w : World) (ha : frGood a = true) (hf : frGood f = true) (hm : 0 ≤ m ∧ m ≤ 67108864) (hC : Blk w g 98 #[.int .i64 f.num,.int .i64 f.den,.int .i64 er]) :
  Calls Tryz.prog 63 #[.pointer (some ⟨g,0,none⟩),a.val,.int .i64 m] w fun e w' => e = .returned (.bool (over23 m f a)) ∧ ∃ w2,Below w.heap.size w w2 ∧ w' = errW (fracOk (qOf a * qOf f)) g w2 := by
 have hM := fun W => raMul a f W ha hf
 have HV : Hid (over23 m f a = (fracOk (qOf a * qOf f) && decide (0 < cmpF (frOf (qOf a * qOf f)) ⟨m,1⟩))) := rfl
 obtain ⟨fx,fy,fz,hv⟩ := fracV_form (qOf a * qOf f)
 have HX : Hid (fracOk (qOf a * qOf f) = true → frGood ⟨fx,fy⟩ = true ∧ frOf (qOf a * qOf f) = ⟨fx,fy⟩ ∧ fz = 0) := fun h => by
  have h2 := fracV_ok h
  rw [hv] at h2
  injection h2 with h2
  injection h2 with h2
  injection h2 with h3 h4
  injection h3 with h3
  injection h3 with h3
  injection h3 with h5 h6
  injection h5 with _ h5
  injection h6 with h6 _
  injection h6 with _ h6
  injection h4 with h4 _
  injection h4 with _ h4
  have e : frOf (qOf a * qOf f) = ⟨fx,fy⟩ := by unfold frOf;rw [h5,h6]
  exact ⟨by rw [← e];exact good_q h,e,h4⟩
 have HN : Hid (fracOk (qOf a * qOf f) = false → fz = 5) := fun h => by
  have h2 := fracV_no h
  rw [hv] at h2
  injection h2 with h2
  injection h2 with h2
  injection h2 with h3 h4
  injection h4 with h4 _
  injection h4 with _ h4
 rw [hv] at hM
 have HCm := Lib.hid fun W (h : frGood ⟨fx,fy⟩ = true) => lmCmp ⟨fx,fy⟩ ⟨m,1⟩ W h (good_one (by omega) (by omega)) (by show (0 : Int) ≤ m;omega)
 have HO := Lib.hid fun W => lmOf m W
 have HM := Lib.hid hM
 generalize over23 m f a = ob at *
 generalize frOf (qOf a * qOf f) = fo at *
 generalize fracOk (qOf a * qOf f) = ok at *
 clear ha hf hm hM hv
 obtain ⟨an,ad⟩ := a
 obtain ⟨fn,fd⟩ := f
 try simp only at *
 have D0 := Blk.new w 23 #[.int .i64 an,.int .i64 ad]
 have hCk := hC.below ((Below.refl w.heap.size w).alloc (Nat.le_refl _) (.cells #[.int .i64 an,.int .i64 ad] 23)) hC.lt
 have HB := Lib.hid ((Below.refl _ w).alloc (Nat.le_refl _) (.cells #[.int .i64 an,.int .i64 ad] 23))
 have HG : Hid (g < w.heap.size) := hC.lt
 go_enter Tryz.func63,Tryz.ntmps63
 go_upto_region 1 with fail
 generalize w.alloc (.cells #[.int .i64 an,.int .i64 ad] 23) = W1 at *
 have D0 := Lib.hid D0
 have HC := Lib.hid hCk
 clear hC hCk
 have D0 : Hid (Blk W1.drew w.heap.size 23 #[.int .i64 an,.int .i64 ad]) := D0.out.drewN 1
 have HC : Hid (Blk W1.drew g 98 #[.int .i64 fn,.int .i64 fd,.int .i64 er]) := HC.out.drewN 1
 have HB := Lib.hid HB.out.drew
 have ya := D0.out.alloc (.cells #[.int .i64 0,.int .i64 0] 23)
 have yb := HC.out.alloc (.cells #[.int .i64 0,.int .i64 0] 23)
 have ya0 := ya.cell 0
 have ya1 := ya.cell 1
 have yb0 := yb.cell 0
 have yb1 := yb.cell 1
 have y0 := D0.out.cell 0
 have y1 := D0.out.cell 1
 have y2 := HC.out.cell 0
 have y3 := HC.out.cell 1
 simp only [List.getElem?_toArray,List.getElem?_cons_succ,List.getElem?_cons_zero] at y0 y1 y2 y3 ya0 ya1 yb0 yb1
 refine wp_region_po (fun i => ([.agg #[.int .i64 an,.int .i64 ad],.pointer (some ⟨g,0,none⟩),.pointer (some ⟨g,0,none⟩),.pointer (some ⟨g,0,none⟩),.agg #[.int .i64 fn,.int .i64 fd],undef,undef,undef,undef,undef,undef,undef] : List Value).getD i undef) [5,9,10] (by kernel_rfl) (by kernel_rfl) (by kernel_rfl) (by decide) ?_
 generalize W1.drew = W2 at *
 refine poJ_step (L := [5,9,10]) rfl (by decide) ?_ ?_
 ·simp only [putAll,Act.put,List.setIfInBounds_toArray,List.set_cons_zero,List.set_cons_succ,readsQ]
  refine ⟨?_,?_,?_,?_,?_,?_,?_,?_,?_,?_,?_,?_,trivial⟩
  all_goals first
   | exact .inl rfl
   | exact .inr (.inl (by decide +kernel))
   | (refine .inr (.inr ?_);go_simp;done)
 intro i o hi hr ho
 simp only [List.mem_cons,List.not_mem_nil,or_false] at hi
 rcases hi with rfl | rfl | rfl
 ·obtain rfl := Option.some.inj ho
  clear hr ho
  refine .inr (.inr ⟨14,#[.agg #[.int .i64 an,.int .i64 ad],.agg #[.int .i64 fn,.int .i64 fd]],by simp only [putAll,Act.put,List.setIfInBounds_toArray,List.set_cons_zero,List.set_cons_succ,];go_simp,?_⟩)
  refine (HM.out _).mono ?_
  rintro e w3 ⟨rfl,hb_w3⟩
  refine ⟨_,fun i => ([.agg #[.int .i64 an,.int .i64 ad],.pointer (some ⟨g,0,none⟩),.pointer (some ⟨g,0,none⟩),.pointer (some ⟨g,0,none⟩),.agg #[.int .i64 fn,.int .i64 fd],.tuple #[.agg #[.int .i64 fx,.int .i64 fy],.int .i64 fz],.tuple #[.agg #[.int .i64 fx,.int .i64 fy],.int .i64 fz],.agg #[.int .i64 fx,.int .i64 fy],.int .i64 fz,undef,undef,.int .i64 fz] : List Value).getD i undef,rfl,agreeL_all (by refine ⟨?_,?_,?_,?_,?_,?_,?_,?_,?_,?_,?_,?_,trivial⟩ <;> first | exact .inl rfl | exact .inr (.inr rfl) | exact .inr (.inl (by decide +kernel))),rfl,?_⟩
  refine poJ_step (L := [9,10]) rfl (by decide) ?_ ?_
  ·simp only [putAll,Act.put,List.setIfInBounds_toArray,List.set_cons_zero,List.set_cons_succ,readsQ]
   refine ⟨?_,?_,?_,?_,?_,?_,?_,?_,?_,?_,?_,?_,trivial⟩
   all_goals first
    | exact .inl rfl
    | exact .inr (.inl (by decide +kernel))
    | (refine .inr (.inr ?_);go_simp;done)
  intro i o hi hr ho
  simp only [List.mem_cons,List.not_mem_nil,or_false] at hi
  rcases hi with rfl | rfl
  ·obtain rfl := Option.some.inj ho
   clear hr ho
   refine .inr (.inl ⟨_,(w3.alloc (.cells #[.int .i64 0,.int .i64 0] 23)),fun i => ([.agg #[.int .i64 an,.int .i64 ad],.pointer (some ⟨g,0,none⟩),.pointer (some ⟨g,0,none⟩),.pointer (some ⟨g,0,none⟩),.agg #[.int .i64 fn,.int .i64 fd],.tuple #[.agg #[.int .i64 fx,.int .i64 fy],.int .i64 fz],.tuple #[.agg #[.int .i64 fx,.int .i64 fy],.int .i64 fz],.agg #[.int .i64 fx,.int .i64 fy],.int .i64 fz,.pointer (some ⟨w3.heap.size,0,none⟩),undef,.int .i64 fz] : List Value).getD i undef,by simp only [putAll,Act.put,List.setIfInBounds_toArray,List.set_cons_zero,List.set_cons_succ,];go_simp,agreeL_all (by refine ⟨?_,?_,?_,?_,?_,?_,?_,?_,?_,?_,?_,?_,trivial⟩ <;> first | exact .inl rfl | exact .inr (.inr rfl) | exact .inr (.inl (by decide +kernel))),rfl,?_⟩)
   refine poJ_step (L := [10]) rfl (by decide) ?_ ?_
   ·simp only [putAll,Act.put,List.setIfInBounds_toArray,List.set_cons_zero,List.set_cons_succ,readsQ]
    refine ⟨?_,?_,?_,?_,?_,?_,?_,?_,?_,?_,?_,?_,trivial⟩
    all_goals first
     | exact .inl rfl
     | exact .inr (.inl (by decide +kernel))
     | (refine .inr (.inr ?_);go_simp;done)
   intro i o hi hr ho
   simp only [List.mem_cons,List.not_mem_nil,or_false] at hi
   subst hi
   obtain rfl := Option.some.inj ho
   clear hr ho
   have HN2 := Lib.hid (Blk.new w3 23 #[.int .i64 0,.int .i64 0])
   have r0 := HN2.out.cell 0
   have f0 := HN2.out.frozen 0
   have r1 := (HN2.out.set_ 0 (.int .i64 fx)).cell 1
   have f1 := (HN2.out.set_ 0 (.int .i64 fx)).frozen 1
   simp only [List.setIfInBounds_toArray,List.set_cons_zero,List.getElem?_toArray,List.getElem?_cons_succ,List.getElem?_cons_zero] at r0 r1
   refine .inl ⟨rfl,(w3.alloc (.cells #[.int .i64 fx,.int .i64 fy] 23)),fun i => ([.agg #[.int .i64 an,.int .i64 ad],.pointer (some ⟨g,0,none⟩),.pointer (some ⟨g,0,none⟩),.pointer (some ⟨g,0,none⟩),.agg #[.int .i64 fn,.int .i64 fd],.tuple #[.agg #[.int .i64 fx,.int .i64 fy],.int .i64 fz],.tuple #[.agg #[.int .i64 fx,.int .i64 fy],.int .i64 fz],.agg #[.int .i64 fx,.int .i64 fy],.int .i64 fz,.pointer (some ⟨w3.heap.size,0,none⟩),undef,.int .i64 fz] : List Value).getD i undef,by simp only [putAll,Act.put,List.setIfInBounds_toArray,List.set_cons_zero,List.set_cons_succ,];go_simp,agreeL_all (by refine ⟨?_,?_,?_,?_,?_,?_,?_,?_,?_,?_,?_,?_,trivial⟩ <;> first | exact .inl rfl | exact .inr (.inr rfl) | exact .inr (.inl (by decide +kernel))),?_⟩
   refine poJ_end rfl ?_ ?_
   ·simp only [putAll,Act.put,List.setIfInBounds_toArray,List.set_cons_zero,List.set_cons_succ,readsQ]
    refine ⟨?_,?_,?_,?_,?_,?_,?_,?_,?_,?_,?_,?_,trivial⟩
    all_goals first
     | exact .inl rfl
     | exact .inr (.inl (by decide +kernel))
     | (refine .inr (.inr ?_);go_simp;done)
   simp only [putAll,Act.put,List.setIfInBounds_toArray,List.set_cons_zero,List.set_cons_succ,]
   have HBz := Lib.hid ((HB.out.trans (hb_w3.mono HB.out.size)).alloc (Nat.le_trans HB.out.size hb_w3.size) (.cells #[.int .i64 fx,.int .i64 fy] 23))
   have HCz := Lib.hid ((HC.out.below hb_w3 HC.out.lt).alloc (.cells #[.int .i64 fx,.int .i64 fy] 23))
   have HFz := Lib.hid (Blk.new w3 23 #[.int .i64 fx,.int .i64 fy])
   clear HB HC D0 ya yb ya0 ya1 yb0 yb1 y0 y1 y2 y3 HN2 r0 r1 f0 f1 hb_w3 HG
   generalize w3.alloc (.cells #[.int .i64 fx,.int .i64 fy] 23) = w9 at *
   generalize w3.heap.size = n9 at *
   have q0 := HFz.out.cell 0
   have q1 := HFz.out.cell 1
   simp only [List.getElem?_toArray,List.getElem?_cons_succ,List.getElem?_cons_zero] at q0 q1
   cases hok : ok with
   | true =>
    obtain ⟨hgd,hfo,hfz⟩ := HX.out hok
    have hcm := fun W => HCm.out W hgd
    have HV2 : Hid (ob = decide (0 < cmpF ⟨fx,fy⟩ ⟨m,1⟩)) := by unfold Hid;rw [HV.out,hok,hfo,Bool.true_and]
    generalize cmpF ⟨fx,fy⟩ ⟨m,1⟩ = c at *
    have Hok := Lib.hid hok
    subst hfz
    have u0 := HeldB.cell q0
    have u1 := HeldB.cell q1
    have cO := HeldB.call (W := w9) fun w' _ => HO.out w'
    have cC := HeldB.call (W := w9) fun w' _ => hcm w'
    clear HX HN HV HM HO HCm hgd hfo hok hcm HCz
    go_wp2_with (exact Go.WalkKit.wp_stop)
    refine wp_region_heldb (by kernel_rfl) (by kernel_rfl) ?_
    repeat (go_big_quiet_step (first | (go_at_call 51;with_reducible exact cO _) | (go_at_call 103;with_reducible exact cC _)))
    refine wpQuiet_nil ?_
    rintro w10 ⟨⟨w10',hb10⟩,rfl⟩
    clear u0 u1 cO cC q0 q1
    go_wp2_with fail
    go_ret
    exact ⟨ret_bool HV2.out.symm,w10,HBz.out.trans (hb10.mono HBz.out.size),by rw [Hok.out];rfl⟩
   | false =>
    have hfz := HN.out hok
    have HV2 : Hid (ob = false) := by unfold Hid;rw [HV.out,hok,Bool.false_and]
    have Hok := Lib.hid hok
    subst hfz
    have e2 := HCz.out.cell 2
    have f2 := HCz.out.frozen 2
    simp only [List.getElem?_toArray,List.getElem?_cons_succ,List.getElem?_cons_zero] at e2
    clear HX HN HV HM HO HCm HCz HFz hok q0 q1
    go_wp2_with fail
    go_ret
    exact ⟨ret_bool HV2.out.symm,w9,HBz.out,by rw [Hok.out];rfl⟩
  ·exact absurd hr (by rw [show rdP .any _ [9,10] 10 = false by kernel_rfl];decide)
 ·obtain rfl := Option.some.inj ho
  clear hr ho
  refine .inr (.inl ⟨_,(W2.alloc (.cells #[.int .i64 0,.int .i64 0] 23)),fun i => ([.agg #[.int .i64 an,.int .i64 ad],.pointer (some ⟨g,0,none⟩),.pointer (some ⟨g,0,none⟩),.pointer (some ⟨g,0,none⟩),.agg #[.int .i64 fn,.int .i64 fd],undef,undef,undef,undef,.pointer (some ⟨W2.heap.size,0,none⟩),undef,undef] : List Value).getD i undef,by simp only [putAll,Act.put,List.setIfInBounds_toArray,List.set_cons_zero,List.set_cons_succ,];go_simp,agreeL_all (by refine ⟨?_,?_,?_,?_,?_,?_,?_,?_,?_,?_,?_,?_,trivial⟩ <;> first | exact .inl rfl | exact .inr (.inr rfl) | exact .inr (.inl (by decide +kernel))),rfl,?_⟩)
  refine poJ_step (L := [5,10]) rfl (by decide) ?_ ?_
  ·simp only [putAll,Act.put,List.setIfInBounds_toArray,List.set_cons_zero,List.set_cons_succ,readsQ]
   refine ⟨?_,?_,?_,?_,?_,?_,?_,?_,?_,?_,?_,?_,trivial⟩
   all_goals first
    | exact .inl rfl
    | exact .inr (.inl (by decide +kernel))
    | (refine .inr (.inr ?_);go_simp;done)
  intro i o hi hr ho
  simp only [List.mem_cons,List.not_mem_nil,or_false] at hi
  rcases hi with rfl | rfl
  ·obtain rfl := Option.some.inj ho
   clear hr ho
   refine .inr (.inr ⟨14,#[.agg #[.int .i64 an,.int .i64 ad],.agg #[.int .i64 fn,.int .i64 fd]],by simp only [putAll,Act.put,List.setIfInBounds_toArray,List.set_cons_zero,List.set_cons_succ,];go_simp,?_⟩)
   refine (HM.out _).mono ?_
   rintro e w3 ⟨rfl,hb_w3⟩
   refine ⟨_,fun i => ([.agg #[.int .i64 an,.int .i64 ad],.pointer (some ⟨g,0,none⟩),.pointer (some ⟨g,0,none⟩),.pointer (some ⟨g,0,none⟩),.agg #[.int .i64 fn,.int .i64 fd],.tuple #[.agg #[.int .i64 fx,.int .i64 fy],.int .i64 fz],.tuple #[.agg #[.int .i64 fx,.int .i64 fy],.int .i64 fz],.agg #[.int .i64 fx,.int .i64 fy],.int .i64 fz,.pointer (some ⟨W2.heap.size,0,none⟩),undef,.int .i64 fz] : List Value).getD i undef,rfl,agreeL_all (by refine ⟨?_,?_,?_,?_,?_,?_,?_,?_,?_,?_,?_,?_,trivial⟩ <;> first | exact .inl rfl | exact .inr (.inr rfl) | exact .inr (.inl (by decide +kernel))),rfl,?_⟩
   refine poJ_step (L := [10]) rfl (by decide) ?_ ?_
   ·simp only [putAll,Act.put,List.setIfInBounds_toArray,List.set_cons_zero,List.set_cons_succ,readsQ]
    refine ⟨?_,?_,?_,?_,?_,?_,?_,?_,?_,?_,?_,?_,trivial⟩
    all_goals first
     | exact .inl rfl
     | exact .inr (.inl (by decide +kernel))
     | (refine .inr (.inr ?_);go_simp;done)
   intro i o hi hr ho
   simp only [List.mem_cons,List.not_mem_nil,or_false] at hi
   subst hi
   obtain rfl := Option.some.inj ho
   clear hr ho
   have HN2 := Lib.hid ((Blk.new W2 23 #[.int .i64 0,.int .i64 0]).below hb_w3 (Blk.new _ _ _).lt)
   have r0 := HN2.out.cell 0
   have f0 := HN2.out.frozen 0
   have r1 := (HN2.out.set_ 0 (.int .i64 fx)).cell 1
   have f1 := (HN2.out.set_ 0 (.int .i64 fx)).frozen 1
   simp only [List.setIfInBounds_toArray,List.set_cons_zero,List.getElem?_toArray,List.getElem?_cons_succ,List.getElem?_cons_zero] at r0 r1
   refine .inl ⟨rfl,((w3.setCell ⟨W2.heap.size,0,none⟩ (.int .i64 fx)).setCell ⟨W2.heap.size,1,none⟩ (.int .i64 fy)),fun i => ([.agg #[.int .i64 an,.int .i64 ad],.pointer (some ⟨g,0,none⟩),.pointer (some ⟨g,0,none⟩),.pointer (some ⟨g,0,none⟩),.agg #[.int .i64 fn,.int .i64 fd],.tuple #[.agg #[.int .i64 fx,.int .i64 fy],.int .i64 fz],.tuple #[.agg #[.int .i64 fx,.int .i64 fy],.int .i64 fz],.agg #[.int .i64 fx,.int .i64 fy],.int .i64 fz,.pointer (some ⟨W2.heap.size,0,none⟩),undef,.int .i64 fz] : List Value).getD i undef,by simp only [putAll,Act.put,List.setIfInBounds_toArray,List.set_cons_zero,List.set_cons_succ,];go_simp,agreeL_all (by refine ⟨?_,?_,?_,?_,?_,?_,?_,?_,?_,?_,?_,?_,trivial⟩ <;> first | exact .inl rfl | exact .inr (.inr rfl) | exact .inr (.inl (by decide +kernel))),?_⟩
   refine poJ_end rfl ?_ ?_
   ·simp only [putAll,Act.put,List.setIfInBounds_toArray,List.set_cons_zero,List.set_cons_succ,readsQ]
    refine ⟨?_,?_,?_,?_,?_,?_,?_,?_,?_,?_,?_,?_,trivial⟩
    all_goals first
     | exact .inl rfl
     | exact .inr (.inl (by decide +kernel))
     | (refine .inr (.inr ?_);go_simp;done)
   simp only [putAll,Act.put,List.setIfInBounds_toArray,List.set_cons_zero,List.set_cons_succ,]
   have hW := HB.out.size
   have hG := HG.out
   have HBz := Lib.hid ((((HB.out.alloc hW (.cells #[.int .i64 0,.int .i64 0] 23)).trans (hb_w3.mono (HB.out.alloc hW (.cells #[.int .i64 0,.int .i64 0] 23)).size)).setCell (p := ⟨W2.heap.size,0,none⟩) hW (.int .i64 fx)).setCell (p := ⟨W2.heap.size,1,none⟩) hW (.int .i64 fy))
   have HCz := Lib.hid (((yb.below hb_w3 yb.lt).far (p := ⟨W2.heap.size,0,none⟩) (by show g ≠ W2.heap.size;omega) (.int .i64 fx)).far (p := ⟨W2.heap.size,1,none⟩) (by show g ≠ W2.heap.size;omega) (.int .i64 fy))
   have HFz := Lib.hid ((HN2.out.set_ 0 (.int .i64 fx)).set_ 1 (.int .i64 fy))
   simp only [List.setIfInBounds_toArray,List.set_cons_zero,List.set_cons_succ,] at HFz
   clear HB HC D0 ya yb ya0 ya1 yb0 yb1 y0 y1 y2 y3 HN2 r0 r1 f0 f1 hb_w3 HG hW hG
   generalize (w3.setCell ⟨W2.heap.size,0,none⟩ (.int .i64 fx)).setCell ⟨W2.heap.size,1,none⟩ (.int .i64 fy) = w9 at *
   generalize W2.heap.size = n9 at *
   have q0 := HFz.out.cell 0
   have q1 := HFz.out.cell 1
   simp only [List.getElem?_toArray,List.getElem?_cons_succ,List.getElem?_cons_zero] at q0 q1
   cases hok : ok with
   | true =>
    obtain ⟨hgd,hfo,hfz⟩ := HX.out hok
    have hcm := fun W => HCm.out W hgd
    have HV2 : Hid (ob = decide (0 < cmpF ⟨fx,fy⟩ ⟨m,1⟩)) := by unfold Hid;rw [HV.out,hok,hfo,Bool.true_and]
    generalize cmpF ⟨fx,fy⟩ ⟨m,1⟩ = c at *
    have Hok := Lib.hid hok
    subst hfz
    have u0 := HeldB.cell q0
    have u1 := HeldB.cell q1
    have cO := HeldB.call (W := w9) fun w' _ => HO.out w'
    have cC := HeldB.call (W := w9) fun w' _ => hcm w'
    clear HX HN HV HM HO HCm hgd hfo hok hcm HCz
    go_wp2_with (exact Go.WalkKit.wp_stop)
    refine wp_region_heldb (by kernel_rfl) (by kernel_rfl) ?_
    repeat (go_big_quiet_step (first | (go_at_call 51;with_reducible exact cO _) | (go_at_call 103;with_reducible exact cC _)))
    refine wpQuiet_nil ?_
    rintro w10 ⟨⟨w10',hb10⟩,rfl⟩
    clear u0 u1 cO cC q0 q1
    go_wp2_with fail
    go_ret
    exact ⟨ret_bool HV2.out.symm,w10,HBz.out.trans (hb10.mono HBz.out.size),by rw [Hok.out];rfl⟩
   | false =>
    have hfz := HN.out hok
    have HV2 : Hid (ob = false) := by unfold Hid;rw [HV.out,hok,Bool.false_and]
    have Hok := Lib.hid hok
    subst hfz
    have e2 := HCz.out.cell 2
    have f2 := HCz.out.frozen 2
    simp only [List.getElem?_toArray,List.getElem?_cons_succ,List.getElem?_cons_zero] at e2
    clear HX HN HV HM HO HCm HCz HFz hok q0 q1
    go_wp2_with fail
    go_ret
    exact ⟨ret_bool HV2.out.symm,w9,HBz.out,by rw [Hok.out];rfl⟩
  ·exact absurd hr (by rw [show rdP .any _ [5,10] 10 = false by kernel_rfl];decide)
 ·exact absurd hr (by rw [show rdP .any _ [5,9,10] 10 = false by kernel_rfl];decide)
end Go.Proofs.YtknkhnahflmjiaaGreatDoor
