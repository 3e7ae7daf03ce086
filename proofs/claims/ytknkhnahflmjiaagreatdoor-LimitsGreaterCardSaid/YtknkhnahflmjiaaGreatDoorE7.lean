/- Parts of the proof, laid into one text: SlB, Ratio, BmValid, BmTop. -/
import Derived.BigQuiet
import Derived.Deep.AppendLies
import Derived.Deep.Draws
import Derived.Deep.LoopGhost
import Derived.Deep.QuietTactic
import Derived.Deep.RegionHeld3
import Derived.IntWalk
import Derived.Laws.Bits64b
import Derived.Lib.Hide
import Derived.LoopIn
import Derived.LoopNIn
import Derived.Maps.AppendAt
import Derived.Outline
import Derived.OwnWalkIn
import Derived.PlainAid
import Derived.RangeFuncBox
import Derived.RangeFuncLeaves
import Derived.Shelf.Abstract
import Derived.StillTail
import Derived.StillTailTactics
import Derived.TacticsInMore
import Derived.Test.YtknkhnahflmjiaaGreatDoorB1
import Derived.Test.YtknkhnahflmjiaaGreatDoorE1
import Derived.Test.YtknkhnahflmjiaaGreatDoorE2
import Derived.Test.YtknkhnahflmjiaaGreatDoorE3
import Derived.Test.YtknkhnahflmjiaaGreatDoorE4
import Derived.Test.YtknkhnahflmjiaaGreatDoorE5
import Derived.Test.YtknkhnahflmjiaaGreatDoorE6
import Derived.Test.YtknkhnahflmjiaaGreatDoorProg
import Derived.WalkKit
import Derived.WalkLawsBesides
import Derived.WalkSpells

namespace Go.Proofs.YtknkhnahflmjiaaGreatDoor
open Go.RowKit Go.Shelf
abbrev LoadT.val (x : LoadT) : Value := .agg #[.int .i64 x.pos,.int .i64 x.wt]
set_option maxRecDepth 100000 in
set_option maxHeartbeats 400000 in
theorem indexFuncLoad (v : Value) (l : List LoadT) (K : Nat) (C : Array Value) (p : LoadT → Bool) (eg : ∀ args w,(callFunc K args).run Tryz.prog w = .ok (.enter K args) w) (w : World) (hl : LoadsAt w w.heap.size v l)
  (hf : ∀ t ∈ l,∀ w',Below w.heap.size w w' → Calls Tryz.prog K (#[t.val] ++ C) w' fun e w'' => e = .returned (.bool (p t)) ∧ Below w'.heap.size w' w'') :
  Calls Tryz.prog 216 #[v,.func (.func K) #[] C] w fun e w' => e = .returned (.int .i64 (idxOf (l.findIdx? p))) ∧ Below w.heap.size w w' := by
 obtain ⟨A,c,rfl,hc1,hc2,hcell⟩ := hl.open_
 unfold maxLen at hc2
 have HF := Lib.hid hf
 clear hf
 go_enter Tryz.func216,Tryz.ntmps216
 go_wp2
 go_loopw [8] (fun x wr => ∃ j : Nat,j ≤ l.length ∧ x = .int .i64 j ∧ (l.take j).findIdx? p = none ∧ Below w.heap.size w wr) (fun x _ => l.length - (intOf x).toNat)
 case atStart => exact ⟨0,Nat.zero_le _,rfl,by simp,Below.refl _ _⟩
 case round =>
  obtain ⟨j,hj,rfl,hnm,hbel⟩ := hrel
  have Hnm := Lib.hid hnm
  clear hnm
  by_cases hlt : j < l.length
  ·obtain ⟨b,off,rfl,hb,hcell⟩ := hcell j hlt
   have h0 := (hbel.cell (p := ⟨b,off + j * 2,none⟩) hb).trans (hcell j hlt).1
   have h1 := (hbel.cell (p := ⟨b,off + j * 2 + 1,none⟩) hb).trans (hcell j hlt).2
   clear hcell
   have hcall := HF.out l[j] (List.getElem_mem hlt)
   cases hq : p l[j] with
   | true =>
    rw [hq] at hcall
    go_wp2_with (go_at_fn K;refine (hcall _ hbel).mono ?_;rintro e w' ⟨rfl,hb'⟩)
    go_ret
    exact ⟨by rw [find_hit Hnm.out hlt hq];rfl,hbel.trans (hb'.mono hbel.size)⟩
   | false =>
    rw [hq] at hcall
    go_wp2_with (go_at_fn K;refine (hcall _ hbel).mono ?_;rintro e w' ⟨rfl,hb'⟩)
    go_roundw
    case rel => exact ⟨j + 1,by omega,by go_num,find_miss Hnm.out hlt hq,hbel.trans (hb'.mono hbel.size)⟩
    case measure => simp [intOf];omega
  ·have hje : j = l.length := by omega
   subst hje
   go_wp2
   go_ret
   exact ⟨by rw [← List.take_length (l := l),Hnm.out];rfl,hbel⟩
set_option maxHeartbeats 400000 in
theorem containsFuncLoad (v : Value) (l : List LoadT) (K : Nat) (C : Array Value) (p : LoadT → Bool) (eg : ∀ args w,(callFunc K args).run Tryz.prog w = .ok (.enter K args) w) (w : World) (hl : LoadsAt w w.heap.size v l)
  (hf : ∀ t ∈ l,∀ w',Below w.heap.size w w' → Calls Tryz.prog K (#[t.val] ++ C) w' fun e w'' => e = .returned (.bool (p t)) ∧ Below w'.heap.size w' w'') :
  Calls Tryz.prog 157 #[v,.func (.func K) #[] C] w fun e w' => e = .returned (.bool (l.any p)) ∧ Below w.heap.size w w' := by
 have hc := indexFuncLoad v l K C p eg w hl hf
 have hbd := idx_bd p l
 have HA := Lib.hid (idx_any p l)
 generalize idxOf (l.findIdx? p) = x at *
 clear hf hl
 go_enter Tryz.func157,Tryz.ntmps157
 go_wp2_with (go_at_call 216;refine hc.mono ?_;rintro e w' ⟨rfl,hb'⟩)
 go_ret
 exact ⟨ret_bool HA.out,hb'⟩
end Go.Proofs.YtknkhnahflmjiaaGreatDoor

namespace Go.Proofs.YtknkhnahflmjiaaGreatDoor
open Go.RowKit Go.Shelf
set_option maxHeartbeats 1000000 in
theorem raGcd (a b : Nat) (w : World) (_ha : a < 18446744073709551616) (hb : b < 18446744073709551616) :
  Calls Tryz.prog 54 #[.int .u64 a,.int .u64 b] w fun e w' => e = .returned (.int .u64 (Nat.gcd a b : Nat)) ∧ ∃ n,w.drewN n = w' := by
 go_enter Tryz.func54,Tryz.ntmps54
 go_wp2
 go_loopw [0,1] (fun x y wr => ∃ i j n : Nat,x = .int .u64 i ∧ y = .int .u64 j ∧ j < 18446744073709551616 ∧ Hid (Nat.gcd i j = Nat.gcd a b) ∧ wr = w.drewN n) (fun _ y _ => (intOf y).toNat)
 case atStart => exact ⟨a,b,0,rfl,rfl,hb,rfl,rfl⟩
 case round =>
  obtain ⟨i,j,n,rfl,rfl,hj,HG,rfl⟩ := hrel
  by_cases h0 : j = 0
  ·subst h0
   go_wp2
   go_ret
   refine ⟨?_,n,rfl⟩
   rw [← HG.out,Nat.gcd_zero_right]
   rfl
  ·have e0 : ((j : Int) != 0) = true := bne_iff_ne.2 (by omega)
   have e1 : ((j : Int) == 0) = false := beq_eq_false_iff_ne.2 (by omega)
   have e2 : (i : Int).tmod (j : Int) = ((i % j : Nat) : Int) := (Int.ofNat_tmod i j).symm
   have e3 : IntKind.u64.wrap ((i % j : Nat) : Int) = ((i % j : Nat) : Int) := by
    have := Nat.mod_lt i (Nat.pos_of_ne_zero h0)
    show ((i % j : Nat) : Int) % 18446744073709551616 = _
    omega
   have e4 : ¬ (j : Int) = 0 := by omega
   have hlt : i % j < j := Nat.mod_lt i (Nat.pos_of_ne_zero h0)
   have HG' : Hid (Nat.gcd j (i % j) = Nat.gcd a b) := by
    unfold Hid
    rw [← HG.out,Nat.gcd_comm i j,Nat.gcd_rec j i,Nat.gcd_comm]
   have HL := Lib.hid hlt
   generalize i % j = m at *
   clear hlt h0
   go_wp2
   go_quiet (fail)
   go_wp2
   go_roundw
   case rel => exact ⟨j,m,_,rfl,rfl,by have := HL.out;omega,HG',World.drewN_drewN ..⟩
   case measure => have := HL.out;simp [intOf];omega
set_option maxHeartbeats 1000000 in
theorem raSize (n : Int) (w : World) (h1 : -1152921504606846976 ≤ n) (h2 : n ≤ 1152921504606846976) :
  Calls Tryz.prog 55 #[.int .i64 n] w fun e w' => e = .returned (.int .u64 (n.natAbs : Nat)) ∧ w = w' := by
 by_cases h0 : n < 0
 ·have e1 : IntKind.u64.wrap n = n + 18446744073709551616 := by
   show n % 18446744073709551616 = _
   omega
  have e2 : Hid (IntKind.u64.wrap (-(n + 18446744073709551616)) = ((n.natAbs : Nat) : Int)) := by
   show (-(n + 18446744073709551616)) % 18446744073709551616 = _
   omega
  clear h1 h2
  go_enter Tryz.func55,Tryz.ntmps55
  go_wp2
  go_ret
  refine ⟨?_,rfl⟩
  rw [← e2.out]
  rfl
 ·have e1 : Hid (IntKind.u64.wrap n = ((n.natAbs : Nat) : Int)) := by
   show n % 18446744073709551616 = _
   omega
  clear h1 h2
  go_enter Tryz.func55,Tryz.ntmps55
  go_wp2
  go_ret
  refine ⟨?_,rfl⟩
  rw [← e1.out]
  rfl
def frGood (x : FrT) : Bool := decide (1 ≤ x.den) && decide (x.den ≤ 1152921504606846976) && decide (-1152921504606846976 ≤ x.num) && decide (x.num ≤ 1152921504606846976) && (((Nat.gcd x.num.natAbs x.den.natAbs : Nat) : Int) == 1)
set_option maxHeartbeats 2000000 in
theorem raValid (x : FrT) (w : World) : Calls Tryz.prog 49 #[x.val] w fun e w' => e = .returned (.bool (frGood x)) ∧ Below w.heap.size w w' := by
 have HD := Lib.hid (Blk.new w 23 #[.int .i64 x.num,.int .i64 x.den])
 have HB := Lib.hid ((Below.refl _ w).alloc (Nat.le_refl _) (.cells #[.int .i64 x.num,.int .i64 x.den] 23))
 obtain ⟨num,den⟩ := x
 simp only at *
 have z0 := HD.out.cell 0
 have z1 := HD.out.cell 1
 simp only [List.getElem?_toArray,List.getElem?_cons_succ,List.getElem?_cons_zero] at z0 z1
 clear HD
 go_enter Tryz.func49,Tryz.ntmps49
 go_wp2
 generalize w.alloc (.cells #[.int .i64 num,.int .i64 den] 23) = W1 at *
 by_cases c1 : 1 ≤ den
 rotate_left
 ·have d1 : decide (1 ≤ den) = false := decide_eq_false c1
  have HV : Hid (frGood ⟨num,den⟩ = false) := by unfold Hid frGood;simp only [d1];rfl
  clear c1
  go_quiet (fail)
  go_wp2
  go_ret
  exact ⟨ret_bool HV.out.symm,below_drewN HB.out _⟩
 have d1 : decide (1 ≤ den) = true := decide_eq_true c1
 by_cases c2 : den ≤ 1152921504606846976
 rotate_left
 ·have d2 : decide (den ≤ 1152921504606846976) = false := decide_eq_false c2
  have HV : Hid (frGood ⟨num,den⟩ = false) := by unfold Hid frGood;simp only [d1,d2];rfl
  clear c1 c2
  go_quiet (fail)
  go_wp2
  go_ret
  exact ⟨ret_bool HV.out.symm,below_drewN HB.out _⟩
 have d2 : decide (den ≤ 1152921504606846976) = true := decide_eq_true c2
 by_cases c3 : -1152921504606846976 ≤ num
 rotate_left
 ·have d3 : decide (-1152921504606846976 ≤ num) = false := decide_eq_false c3
  have HV : Hid (frGood ⟨num,den⟩ = false) := by unfold Hid frGood;simp only [d1,d2,d3];rfl
  clear c1 c2 c3
  go_quiet (fail)
  go_wp2
  go_ret
  exact ⟨ret_bool HV.out.symm,below_drewN HB.out _⟩
 have d3 : decide (-1152921504606846976 ≤ num) = true := decide_eq_true c3
 by_cases c4 : num ≤ 1152921504606846976
 rotate_left
 ·have d4 : decide (num ≤ 1152921504606846976) = false := decide_eq_false c4
  have HV : Hid (frGood ⟨num,den⟩ = false) := by unfold Hid frGood;simp only [d1,d2,d3,d4];rfl
  clear c1 c2 c3 c4
  go_quiet (fail)
  go_wp2
  go_ret
  exact ⟨ret_bool HV.out.symm,below_drewN HB.out _⟩
 have d4 : decide (num ≤ 1152921504606846976) = true := decide_eq_true c4
 have HV : Hid (frGood ⟨num,den⟩ = (((Nat.gcd num.natAbs den.natAbs : Nat) : Int) == 1)) := by unfold Hid frGood;simp only [d1,d2,d3,d4];rfl
 have hS := fun n => quiet_left (raSize num (W1.drewN n) c3 c4)
 have hw : IntKind.u64.wrap den = ((den.natAbs : Nat) : Int) := by
  show den % 18446744073709551616 = _
  omega
 have hG := fun n => quiet_left' (raGcd num.natAbs den.natAbs (W1.drewN n) (by omega) (by omega))
 clear c1 c2 c3 c4
 generalize Nat.gcd num.natAbs den.natAbs = g at *
 go_quiet (first | (go_at_call 55;exact hS _) | (go_at_call 54;exact hG _))
 go_wp2
 go_ret
 exact ⟨ret_bool HV.out.symm,below_drewN HB.out _⟩
end Go.Proofs.YtknkhnahflmjiaaGreatDoor

namespace Go.Proofs.YtknkhnahflmjiaaGreatDoor
open Go.RowKit Go.Shelf
def loadOk (bl : Int) (x : LoadT) : Bool := !decide (x.pos < 0) && !decide (bl < x.pos) && !decide (x.wt < 0) && !decide (67108864 < x.wt)
def supGood (b : BeamT) (i : Nat) : Bool := !decide (supAt b i < 0) && !decide (b.len < supAt b i) && (decide (i = 0) || !decide (supAt b i ≤ supAt b (i - 1)))
def supsGood (b : BeamT) (k : Nat) : Bool := decide (∀ i,i < k → supGood b i = true)
def okHead (b : BeamT) : Bool := nameB b.name && !decide (b.len < 1) && !decide (1048576 < b.len) && !decide (b.even < 0) && !decide (1048576 < b.even) && !decide ((b.sup.length : Int) < 1) && !decide (10 < (b.sup.length : Int)) && !decide (40 < (b.loads.length : Int))
def okBm (b : BeamT) : Bool := okHead b && supsGood b b.sup.length && b.loads.all (loadOk b.len)
theorem not_any_not {α : Type} (l : List α) (p : α → Bool) : (!l.any fun x => !p x) = l.all p := by
 induction l with
 | nil => rfl
 | cons x l ih => rw [List.any_cons,List.all_cons,Bool.not_or,Bool.not_not,ih]
theorem okBm_head {b : BeamT} (h : okHead b = false) : okBm b = false := by unfold okBm;rw [h];rfl
theorem okBm_sup {b : BeamT} {k : Nat} (hk : k < b.sup.length) (h : supGood b k = false) : okBm b = false := by
 have : supsGood b b.sup.length = false := by
  unfold supsGood
  rw [decide_eq_false_iff_not]
  intro hh
  rw [hh k hk] at h
  cases h
 unfold okBm
 rw [this,Bool.and_false,Bool.false_and]
theorem supsGood_zero (b : BeamT) : supsGood b 0 = true := by unfold supsGood;simp
theorem supsGood_succ {b : BeamT} {k : Nat} (h : supsGood b k = true) (h1 : supGood b k = true) : supsGood b (k + 1) = true := by
 unfold supsGood at *
 rw [decide_eq_true_iff] at *
 intro i hi
 rcases Nat.lt_succ_iff_lt_or_eq.1 hi with h2 | rfl
 ·exact h i h2
 ·exact h1
theorem okBm_all {b : BeamT} (h : okHead b = true) (h1 : supsGood b b.sup.length = true) : okBm b = b.loads.all (loadOk b.len) := by unfold okBm;rw [h,h1];rfl
theorem okBm_ok {b : BeamT} (h : okBm b = true) : BeamOk b := by
 unfold okBm okHead supsGood at h
 simp only [Bool.and_eq_true,Bool.not_eq_true',decide_eq_false_iff_not,decide_eq_true_eq,List.all_eq_true] at h
 obtain ⟨⟨⟨⟨⟨⟨⟨⟨⟨h0,h1⟩,h2⟩,h3⟩,h4⟩,h5⟩,h6⟩,h7⟩,h8⟩,h9⟩ := h
 have h8' : ∀ i,i < b.sup.length → ¬ supAt b i < 0 ∧ ¬ b.len < supAt b i ∧ (i = 0 ∨ ¬ supAt b i ≤ supAt b (i - 1)) := fun i hi => by
  have := h8 i hi
  unfold supGood at this
  simpa [and_assoc] using this
 refine ⟨by omega,by omega,by omega,fun i hi => ?_,fun i hi => ?_,by omega,fun x hx => ?_⟩
 ·have := h8' i hi;omega
 ·have := (h8' (i + 1) hi).2.2;simp at this;omega
 ·have := h9 x hx
  unfold loadOk at this
  simp only [Bool.and_eq_true,Bool.not_eq_true',decide_eq_false_iff_not] at this
  omega
theorem entersBV : ∀ args w,(callFunc 164 args).run Tryz.prog w = .ok (.enter 164 args) w := enters_of Tryz.func164 (by kernel_rfl) rfl
set_option maxHeartbeats 1000000 in
theorem bmValid1 (D : Nat) (x : LoadT) (bl : Int) (w : World) (n : ByteArray) (u2 u3 u4 : Value) (h1 : Blk w D 117 #[.string n,.int .i64 bl,u2,u3,u4]) :
  Calls Tryz.prog 164 #[x.val,.pointer (some ⟨D,0,none⟩)] w fun e w' => e = .returned (.bool (!loadOk bl x)) ∧ Below w.heap.size w w' := by
 have HB := Lib.hid ((Below.refl _ w).alloc (Nat.le_refl _) (.cells #[.int .i64 x.pos,.int .i64 x.wt] 115))
 have HD := Lib.hid (Blk.new w 115 #[.int .i64 x.pos,.int .i64 x.wt])
 have y := (h1.below HB.out h1.lt).cell 1
 have y0 := HD.out.cell 0
 have y1 := HD.out.cell 1
 simp only [List.getElem?_toArray,List.getElem?_cons_succ,List.getElem?_cons_zero] at y y0 y1
 obtain ⟨pos,wt⟩ := x
 simp only at *
 by_cases c0 : pos < 0
 ·have d0 : decide (pos < 0) = true := decide_eq_true c0
  have HV : Hid ((!loadOk bl ⟨pos,wt⟩) = true) := by unfold Hid loadOk;simp only [d0];rfl
  clear h1
  go_enter Tryz.func164,Tryz.ntmps164
  go_wp2_with fail
  go_ret
  exact ⟨ret_bool HV.out.symm,HB.out⟩
 have d0 : decide (pos < 0) = false := decide_eq_false c0
 by_cases c1 : bl < pos
 ·have d1 : decide (bl < pos) = true := decide_eq_true c1
  have HV : Hid ((!loadOk bl ⟨pos,wt⟩) = true) := by unfold Hid loadOk;simp only [d0,d1];rfl
  clear h1
  go_enter Tryz.func164,Tryz.ntmps164
  go_wp2_with fail
  go_ret
  exact ⟨ret_bool HV.out.symm,HB.out⟩
 have d1 : decide (bl < pos) = false := decide_eq_false c1
 by_cases c2 : wt < 0
 ·have d2 : decide (wt < 0) = true := decide_eq_true c2
  have HV : Hid ((!loadOk bl ⟨pos,wt⟩) = true) := by unfold Hid loadOk;simp only [d0,d1,d2];rfl
  clear h1
  go_enter Tryz.func164,Tryz.ntmps164
  go_wp2_with fail
  go_ret
  exact ⟨ret_bool HV.out.symm,HB.out⟩
 have d2 : decide (wt < 0) = false := decide_eq_false c2
 by_cases c3 : 67108864 < wt
 ·have d3 : decide (67108864 < wt) = true := decide_eq_true c3
  have HV : Hid ((!loadOk bl ⟨pos,wt⟩) = true) := by unfold Hid loadOk;simp only [d0,d1,d2,d3];rfl
  clear h1
  go_enter Tryz.func164,Tryz.ntmps164
  go_wp2_with fail
  go_ret
  exact ⟨ret_bool HV.out.symm,HB.out⟩
 have d3 : decide (67108864 < wt) = false := decide_eq_false c3
 have HV : Hid ((!loadOk bl ⟨pos,wt⟩) = false) := by unfold Hid loadOk;simp only [d0,d1,d2,d3];rfl
 clear h1
 go_enter Tryz.func164,Tryz.ntmps164
 go_wp2_with fail
 go_ret
 exact ⟨ret_bool HV.out.symm,HB.out⟩
set_option maxRecDepth 100000 in
set_option maxHeartbeats 4000000 in
theorem bmValid (v : Value) (b : BeamT) (w : World) (hv : BeamAt w w.heap.size v b) (hn : b.name.size ≤ maxLen) : Calls Tryz.prog 121 #[v] w fun e w' => e = .returned (.bool (okBm b)) ∧ Below w.heap.size w w' := by
 obtain ⟨As,cs,Al,cl,rfl,hS,hL⟩ := hv
 have HN := fun W => decIsName b.name hn W
 obtain ⟨_,_,e,hs1,hs2,hSc⟩ := hS.open_
 injection e with e1 _ e2
 subst e1 e2
 unfold maxLen at hs2
 have HL := Lib.hid hL
 have HSc := Lib.hid hSc
 have HD := Lib.hid (Blk.new w 117 #[.string b.name,.int .i64 b.len,.slice As b.sup.length cs,.slice Al b.loads.length cl,.int .i64 b.even])
 have HB := Lib.hid ((Below.refl _ w).alloc (Nat.le_refl _) (.cells #[.string b.name,.int .i64 b.len,.slice As b.sup.length cs,.slice Al b.loads.length cl,.int .i64 b.even] 117))
 clear hS hSc hn hL
 go_enter Tryz.func121,Tryz.ntmps121
 go_wp2_with (exact Go.WalkKit.wp_stop)
 generalize w.alloc (.cells #[.string b.name,.int .i64 b.len,.slice As b.sup.length cs,.slice Al b.loads.length cl,.int .i64 b.even] 117) = W1 at *
 have y0 := HD.out.cell 0
 have y1 := HD.out.cell 1
 have y2 := HD.out.cell 2
 have y3 := HD.out.cell 3
 have y4 := HD.out.cell 4
 simp only [List.getElem?_toArray,List.getElem?_cons_succ,List.getElem?_cons_zero] at y0 y1 y2 y3 y4
 have hn0 := HN W1
 cases d0 : nameB b.name with
 | false =>
  rw [d0] at hn0
  have HV : Hid (okBm b = false) := by unfold Hid;refine okBm_head ?_;unfold okHead;simp only [d0];rfl
  go_wp2_with (go_at_call 126;refine hn0.mono ?_;rintro e w' ⟨rfl,rfl⟩)
  go_ret
  exact ⟨ret_bool HV.out.symm,HB.out⟩
 | true =>
  rw [d0] at hn0
  by_cases c1 : b.len < 1
  ·have d1 : decide (b.len < 1) = true := decide_eq_true c1
   have HV : Hid (okBm b = false) := by unfold Hid;refine okBm_head ?_;unfold okHead;simp only [d0,d1];rfl
   go_wp2_with (go_at_call 126;refine hn0.mono ?_;rintro e w' ⟨rfl,rfl⟩)
   go_ret
   exact ⟨ret_bool HV.out.symm,HB.out⟩
  have d1 : decide (b.len < 1) = false := decide_eq_false c1
  by_cases c2 : 1048576 < b.len
  ·have d2 : decide (1048576 < b.len) = true := decide_eq_true c2
   have HV : Hid (okBm b = false) := by unfold Hid;refine okBm_head ?_;unfold okHead;simp only [d0,d1,d2];rfl
   go_wp2_with (go_at_call 126;refine hn0.mono ?_;rintro e w' ⟨rfl,rfl⟩)
   go_ret
   exact ⟨ret_bool HV.out.symm,HB.out⟩
  have d2 : decide (1048576 < b.len) = false := decide_eq_false c2
  by_cases c3 : b.even < 0
  ·have d3 : decide (b.even < 0) = true := decide_eq_true c3
   have HV : Hid (okBm b = false) := by unfold Hid;refine okBm_head ?_;unfold okHead;simp only [d0,d1,d2,d3];rfl
   go_wp2_with (go_at_call 126;refine hn0.mono ?_;rintro e w' ⟨rfl,rfl⟩)
   go_ret
   exact ⟨ret_bool HV.out.symm,HB.out⟩
  have d3 : decide (b.even < 0) = false := decide_eq_false c3
  by_cases c4 : 1048576 < b.even
  ·have d4 : decide (1048576 < b.even) = true := decide_eq_true c4
   have HV : Hid (okBm b = false) := by unfold Hid;refine okBm_head ?_;unfold okHead;simp only [d0,d1,d2,d3,d4];rfl
   go_wp2_with (go_at_call 126;refine hn0.mono ?_;rintro e w' ⟨rfl,rfl⟩)
   go_ret
   exact ⟨ret_bool HV.out.symm,HB.out⟩
  have d4 : decide (1048576 < b.even) = false := decide_eq_false c4
  by_cases c5 : (b.sup.length : Int) < 1
  ·have d5 : decide ((b.sup.length : Int) < 1) = true := decide_eq_true c5
   have HV : Hid (okBm b = false) := by unfold Hid;refine okBm_head ?_;unfold okHead;simp only [d0,d1,d2,d3,d4,d5];rfl
   go_wp2_with (go_at_call 126;refine hn0.mono ?_;rintro e w' ⟨rfl,rfl⟩)
   go_ret
   exact ⟨ret_bool HV.out.symm,HB.out⟩
  have d5 : decide ((b.sup.length : Int) < 1) = false := decide_eq_false c5
  by_cases c6 : 10 < (b.sup.length : Int)
  ·have d6 : decide (10 < (b.sup.length : Int)) = true := decide_eq_true c6
   have HV : Hid (okBm b = false) := by unfold Hid;refine okBm_head ?_;unfold okHead;simp only [d0,d1,d2,d3,d4,d5,d6];rfl
   go_wp2_with (go_at_call 126;refine hn0.mono ?_;rintro e w' ⟨rfl,rfl⟩)
   go_ret
   exact ⟨ret_bool HV.out.symm,HB.out⟩
  have d6 : decide (10 < (b.sup.length : Int)) = false := decide_eq_false c6
  by_cases c7 : 40 < (b.loads.length : Int)
  ·have d7 : decide (40 < (b.loads.length : Int)) = true := decide_eq_true c7
   have HV : Hid (okBm b = false) := by unfold Hid;refine okBm_head ?_;unfold okHead;simp only [d0,d1,d2,d3,d4,d5,d6,d7];rfl
   go_wp2_with (go_at_call 126;refine hn0.mono ?_;rintro e w' ⟨rfl,rfl⟩)
   go_ret
   exact ⟨ret_bool HV.out.symm,HB.out⟩
  have d7 : decide (40 < (b.loads.length : Int)) = false := decide_eq_false c7
  have HH : Hid (okHead b = true) := by unfold Hid okHead;simp only [d0,d1,d2,d3,d4,d5,d6,d7];rfl
  obtain ⟨bs,os,rfl,hbs,hSx⟩ := HSc.out 0 (by omega)
  have HSx : Hid (∀ j,j < b.sup.length → W1.cell? ⟨bs,os + j,none⟩ = some (.int .i64 (supAt b j))) := fun j hj => by
   have h := (HB.out.cell (p := ⟨bs,os + j,none⟩) hbs).trans (hSx j hj)
   unfold supAt
   rw [List.getD_eq_getElem?_getD,List.getElem?_eq_getElem hj]
   exact h
  clear hSx HSc
  go_wp2_with (go_at_call 126;refine hn0.mono ?_;rintro e w' ⟨rfl,rfl⟩)
  go_loopw [50] (fun x wr => ∃ k : Nat,k ≤ b.sup.length ∧ x = .int .i64 k ∧ Hid (supsGood b k = true) ∧ W1 = wr) (fun x _ => b.sup.length - (intOf x).toNat)
  case atStart => exact ⟨0,Nat.zero_le _,rfl,supsGood_zero b,rfl⟩
  case round =>
   obtain ⟨k,hk,rfl,HG,rfl⟩ := hrel
   by_cases hlt : k < b.sup.length
   ·have z := HSx.out k hlt
    have i1 : (0 : Int) ≤ (k : Int) := Int.natCast_nonneg _
    have i2 : (k : Int) < (b.sup.length : Int) := by omega
    by_cases e1 : supAt b k < 0
    ·have f1 : decide (supAt b k < 0) = true := decide_eq_true e1
     have HV : Hid (okBm b = false) := okBm_sup hlt (by unfold supGood;rw [f1];rfl)
     go_wp2
     go_ret
     exact ⟨ret_bool HV.out.symm,HB.out⟩
    have f1 : decide (supAt b k < 0) = false := decide_eq_false e1
    by_cases e2 : b.len < supAt b k
    ·have f2 : decide (b.len < supAt b k) = true := decide_eq_true e2
     have HV : Hid (okBm b = false) := okBm_sup hlt (by unfold supGood;rw [f1,f2];rfl)
     go_wp2
     go_ret
     exact ⟨ret_bool HV.out.symm,HB.out⟩
    have f2 : decide (b.len < supAt b k) = false := decide_eq_false e2
    by_cases e3 : k = 0
    ·have f3' : ¬ (0 : Int) < (k : Int) := by omega
     have f3 : decide ((0 : Int) < (k : Int)) = false := decide_eq_false f3'
     have HV : Hid (supsGood b (k + 1) = true) := supsGood_succ HG.out (by unfold supGood;rw [f1,f2,decide_eq_true e3];rfl)
     clear e3
     go_wp2
     go_roundw
     case rel => exact ⟨k + 1,hlt,by go_num,HV,by trivial⟩
     case measure => simp [intOf];omega
    have f3 : decide ((0 : Int) < (k : Int)) = true := decide_eq_true (by omega)
    have z0 := HSx.out (k - 1) (by omega)
    have i4 : ((k : Int) - 1).toNat = k - 1 := by omega
    have i5 : (0 : Int) ≤ (k : Int) - 1 := by omega
    have i6 : (k : Int) - 1 < (b.sup.length : Int) := by omega
    have v1 : IntKind.i64.wrap ((k : Int) - 1) = (k : Int) - 1 := IntWalk.i64_in _ (by omega)
    have E3 : Hid (¬ k = 0) := e3
    by_cases e4 : supAt b k ≤ supAt b (k - 1)
    ·have f4 : decide (supAt b k ≤ supAt b (k - 1)) = true := decide_eq_true e4
     have HV : Hid (okBm b = false) := okBm_sup hlt (by unfold supGood;rw [f1,f2,f4,decide_eq_false E3.out];rfl)
     go_wp2
     go_ret
     exact ⟨ret_bool HV.out.symm,HB.out⟩
    have f4 : decide (supAt b k ≤ supAt b (k - 1)) = false := decide_eq_false e4
    have HV : Hid (supsGood b (k + 1) = true) := supsGood_succ HG.out (by unfold supGood;rw [f1,f2,f4,decide_eq_false E3.out];rfl)
    go_wp2
    go_roundw
    case rel => exact ⟨k + 1,hlt,by go_num,HV,by trivial⟩
    case measure => simp [intOf];omega
   ·have hje : k = b.sup.length := by omega
    subst hje
    have HV : Hid (okBm b = b.loads.all (loadOk b.len)) := okBm_all HH.out HG.out
    have hc := containsFuncLoad (.slice Al b.loads.length cl) b.loads 164 #[.pointer (some ⟨w.heap.size,0,none⟩)] (fun x => !loadOk b.len x) entersBV W1 ((HL.out.below HB.out (Nat.le_refl _)).mono HB.out.size)
     (fun t _ w' hb' => bmValid1 _ t _ w' _ _ _ _ (HD.out.below hb' HD.out.lt))
    go_wp2_with (go_at_call 157;refine hc.mono ?_;rintro e w' ⟨rfl,hb'⟩)
    go_ret
    refine ⟨ret_bool ?_,HB.out.trans (hb'.mono HB.out.size)⟩
    rw [HV.out]
    exact not_any_not _ _
end Go.Proofs.YtknkhnahflmjiaaGreatDoor

namespace Go.Proofs.YtknkhnahflmjiaaGreatDoor
open Go.RowKit Go.Shelf
def beamErr (b : BeamT) : Int := if okBm b then (if tiltOk b then 0 else 22) else 1
def GivenPost (b : BeamT) (w : World) (e : Ending) (w' : World) : Prop :=
 Below w.heap.size w w' ∧ ((okBm b = true ∧ tiltOk b = true ∧ ∃ v,e = .returned (.tuple #[v,.int .i64 0]) ∧ ExsAt w' v (momL b)) ∨ (beamErr b ≠ 0 ∧ e = .returned (.tuple #[.slice none 0 0,.int .i64 (beamErr b)])))
def TellPost (b : BeamT) (l : List Rat) (w : World) (e : Ending) (w' : World) : Prop :=
 Below w.heap.size w w' ∧ ((okBm b = true ∧ tiltOk b = true ∧ allOk l = true ∧ ∃ v,e = .returned (.tuple #[v,.int .i64 0]) ∧ FrsAt w' w'.heap.size v (l.map frOf)) ∨ (∃ k,k ≠ 0 ∧ (beamErr b ≠ 0 ∨ allOk l = false) ∧ e = .returned (.tuple #[.slice none 0 0,.int .i64 k]) ∧ (beamErr b = 0 → k = 5)))
theorem FracsPost.tell {b : BeamT} {l : List Rat} {w w1 w' : World} {e : Ending} (h : FracsPost l w1 e w') (hb : Below w.heap.size w w1) (h1 : okBm b = true) (h2 : tiltOk b = true) : TellPost b l w e w' := by
 obtain ⟨hb',⟨h3,v,rfl,h4⟩ | ⟨h3,rfl⟩⟩ := h
 ·refine ⟨hb.trans (hb'.mono hb.size),.inl ⟨h1,h2,h3,v,rfl,?_⟩⟩
  have := Flat.of_own h4
  unfold FrsAt
  rw [List.length_map]
  exact this
 ·exact ⟨hb.trans (hb'.mono hb.size),.inr ⟨5,by decide,.inr h3,rfl,fun _ => rfl⟩⟩
set_option maxRecDepth 100000 in
set_option maxHeartbeats 4000000 in
theorem bmGiven (v : Value) (b : BeamT) (w : World) (hv : BeamAt w w.heap.size v b) (hn : b.name.size ≤ maxLen) : Calls Tryz.prog 143 #[v] w (GivenPost b w) := by
 have HVa := fun W h => bmValid v b W h hn
 have HMo := fun h W h1 => bmMoments v b W h1 h
 obtain ⟨As,cs,Al,cl,rfl,hS,hL⟩ := hv
 have HV : Hid (BeamAt w w.heap.size (.agg #[.string b.name,.int .i64 b.len,.slice As b.sup.length cs,.slice Al b.loads.length cl,.int .i64 b.even]) b) := ⟨As,cs,Al,cl,rfl,hS,hL⟩
 have HD := Lib.hid (Blk.new w 117 #[.string b.name,.int .i64 b.len,.slice As b.sup.length cs,.slice Al b.loads.length cl,.int .i64 b.even])
 have HB := Lib.hid ((Below.refl _ w).alloc (Nat.le_refl _) (.cells #[.string b.name,.int .i64 b.len,.slice As b.sup.length cs,.slice Al b.loads.length cl,.int .i64 b.even] 117))
 clear hS hL
 go_enter Tryz.func143,Tryz.ntmps143
 go_wp2_with (exact Go.WalkKit.wp_stop)
 generalize w.alloc (.cells #[.string b.name,.int .i64 b.len,.slice As b.sup.length cs,.slice Al b.loads.length cl,.int .i64 b.even] 117) = W1 at *
 have hva := HVa W1 (HV.out.grow HB.out)
 have HMo := Lib.hid HMo
 have y0 := HD.out.cell 0
 have y1 := HD.out.cell 1
 have y2 := HD.out.cell 2
 have y3 := HD.out.cell 3
 have y4 := HD.out.cell 4
 simp only [List.getElem?_toArray,List.getElem?_cons_succ,List.getElem?_cons_zero] at y0 y1 y2 y3 y4
 clear HVa
 cases hok : okBm b with
 | false =>
  rw [hok] at hva
  have HE : Hid (beamErr b = 1) := by unfold Hid beamErr;rw [hok];rfl
  go_wp2_with (go_at_call 121;refine hva.mono ?_;rintro e w2 ⟨rfl,hb2⟩)
  go_ret2
  exact ⟨HB.out.trans (hb2.mono HB.out.size),.inr ⟨by rw [HE.out];decide,by rw [HE.out];rfl⟩⟩
 | true =>
  rw [hok] at hva
  have Hok := Lib.hid hok
  clear hok
  cases ht : tiltOk b with
  | false =>
   have HT := Lib.hid ht
   clear ht
   have HE : Hid (beamErr b = 22) := by unfold Hid beamErr;rw [Hok.out,HT.out];rfl
   go_wp2_with (first | (go_at_call 121;refine hva.mono ?_;rintro e w2 ⟨rfl,hb2⟩;have HB2 := Lib.hid (HB.out.trans (hb2.mono HB.out.size));have HD2 := Lib.hid (HD.out.below hb2 HD.out.lt);clear hb2;have z0 := HD2.out.cell 0;have z1 := HD2.out.cell 1;have z2 := HD2.out.cell 2;have z3 := HD2.out.cell 3;have z4 := HD2.out.cell 4;simp only [List.getElem?_toArray,List.getElem?_cons_succ,List.getElem?_cons_zero] at z0 z1 z2 z3 z4;have hmo := HMo.out (okBm_ok Hok.out) w2 (HV.out.grow HB2.out);unfold MomPost at hmo;rw [HT.out] at hmo) | (go_at_call 190;refine hmo.mono ?_;rintro e w3 ⟨hb3,v3,rfl,h3⟩))
   go_ret2
   exact ⟨HB2.out.trans (hb3.mono HB2.out.size),.inr ⟨by rw [HE.out];decide,by rw [HE.out];rfl⟩⟩
  | true =>
   have HT := Lib.hid ht
   clear ht
   go_wp2_with (first | (go_at_call 121;refine hva.mono ?_;rintro e w2 ⟨rfl,hb2⟩;have HB2 := Lib.hid (HB.out.trans (hb2.mono HB.out.size));have HD2 := Lib.hid (HD.out.below hb2 HD.out.lt);clear hb2;have z0 := HD2.out.cell 0;have z1 := HD2.out.cell 1;have z2 := HD2.out.cell 2;have z3 := HD2.out.cell 3;have z4 := HD2.out.cell 4;simp only [List.getElem?_toArray,List.getElem?_cons_succ,List.getElem?_cons_zero] at z0 z1 z2 z3 z4;have hmo := HMo.out (okBm_ok Hok.out) w2 (HV.out.grow HB2.out);unfold MomPost at hmo;rw [HT.out] at hmo) | (go_at_call 190;refine hmo.mono ?_;rintro e w3 ⟨hb3,v3,rfl,h3⟩))
   go_ret2
   exact ⟨HB2.out.trans (hb3.mono HB2.out.size),.inl ⟨Hok.out,HT.out,v3,rfl,h3⟩⟩
set_option maxRecDepth 100000 in
set_option maxHeartbeats 4000000 in
theorem bmReactions (v : Value) (b : BeamT) (w : World) (hv : BeamAt w w.heap.size v b) (hn : b.name.size ≤ maxLen) : Calls Tryz.prog 105 #[v] w (TellPost b (reactL b) w) := by
 have HGi := fun W h => bmGiven v b W h hn
 have HRe := fun h W u h1 hu => bmReacts v u b W h1 hu h
 have HV := Lib.hid hv
 obtain ⟨As,cs,Al,cl,rfl,hS,hL⟩ := hv
 have HD := Lib.hid (Blk.new w 117 #[.string b.name,.int .i64 b.len,.slice As b.sup.length cs,.slice Al b.loads.length cl,.int .i64 b.even])
 have HB := Lib.hid ((Below.refl _ w).alloc (Nat.le_refl _) (.cells #[.string b.name,.int .i64 b.len,.slice As b.sup.length cs,.slice Al b.loads.length cl,.int .i64 b.even] 117))
 clear hS hL
 go_enter Tryz.func105,Tryz.ntmps105
 go_wp2_with (exact Go.WalkKit.wp_stop)
 generalize w.alloc (.cells #[.string b.name,.int .i64 b.len,.slice As b.sup.length cs,.slice Al b.loads.length cl,.int .i64 b.even] 117) = W1 at *
 have hgi := HGi W1 (HV.out.grow HB.out)
 have HRe := Lib.hid HRe
 have y0 := HD.out.cell 0
 have y1 := HD.out.cell 1
 have y2 := HD.out.cell 2
 have y3 := HD.out.cell 3
 have y4 := HD.out.cell 4
 simp only [List.getElem?_toArray,List.getElem?_cons_succ,List.getElem?_cons_zero] at y0 y1 y2 y3 y4
 clear HGi
 by_cases hc : okBm b = true ∧ tiltOk b = true
 ·obtain ⟨hok,htl⟩ := hc
  have HE : Hid (¬ beamErr b ≠ 0) := by unfold Hid beamErr;rw [hok,htl];simp
  have Hok := Lib.hid hok
  have Htl := Lib.hid htl
  clear hok htl
  have hgi' : Calls Tryz.prog 143 #[.agg #[.string b.name,.int .i64 b.len,.slice As b.sup.length cs,.slice Al b.loads.length cl,.int .i64 b.even]] W1 fun e w' => ∃ u,e = .returned (.tuple #[u,.int .i64 0]) ∧ Hid (Below W1.heap.size W1 w') ∧ Hid (ExsAt w' u (momL b)) := by
   refine hgi.mono ?_
   rintro e w' ⟨h1,⟨-,-,u,rfl,h2⟩ | ⟨h2,-⟩⟩
   ·exact ⟨u,rfl,h1,h2⟩
   ·exact absurd h2 HE.out
  clear hgi
  go_wp2_with (first | (go_at_call 143;refine hgi'.mono ?_;rintro e w2 ⟨u,rfl,hb2,hE2⟩;have HB2 := Lib.hid (HB.out.trans (hb2.out.mono HB.out.size));have HD2 := Lib.hid (HD.out.below hb2.out HD.out.lt);clear hb2;have z0 := HD2.out.cell 0;have z1 := HD2.out.cell 1;have z2 := HD2.out.cell 2;have z3 := HD2.out.cell 3;have z4 := HD2.out.cell 4;simp only [List.getElem?_toArray,List.getElem?_cons_succ,List.getElem?_cons_zero] at z0 z1 z2 z3 z4;have hre := HRe.out (okBm_ok Hok.out) w2 u (HV.out.grow HB2.out) hE2.out) | (go_at_call 145;refine hre.mono ?_;rintro e w3 ⟨hb3,v3,rfl,hE3⟩;have HB3 := Lib.hid (HB2.out.trans (hb3.mono HB2.out.size));have hfr := bmFracs v3 (reactL b) w3 hE3 (by have := (okBm_ok Hok.out).sup1;unfold reactL;simp;omega);clear hb3 hE3) | (go_at_call 144;refine hfr.mono ?_;intro e w4 h4;have hT := FracsPost.tell h4 HB3.out Hok.out Htl.out;obtain ⟨-,⟨-,v4,rfl,-⟩ | ⟨-,rfl⟩⟩ := h4))
  all_goals
   go_ret2
   exact hT
 ·have HE : Hid (¬ (okBm b = true ∧ tiltOk b = true)) := hc
  clear hc
  have hgi' : Calls Tryz.prog 143 #[.agg #[.string b.name,.int .i64 b.len,.slice As b.sup.length cs,.slice Al b.loads.length cl,.int .i64 b.even]] W1 fun e w' => beamErr b ≠ 0 ∧ e = .returned (.tuple #[.slice none 0 0,.int .i64 (beamErr b)]) ∧ Hid (Below W1.heap.size W1 w') := by
   refine hgi.mono ?_
   rintro e w' ⟨h1,⟨h3,h4,-⟩ | ⟨h2,rfl⟩⟩
   ·exact absurd ⟨h3,h4⟩ HE.out
   ·exact ⟨h2,rfl,h1⟩
  clear hgi
  generalize hk : beamErr b = k at *
  have HK := Lib.hid hk
  clear hk
  go_wp2_with (go_at_call 143;refine hgi'.mono ?_;rintro e w2 ⟨hk,rfl,hb2⟩;have hk1 : (k == 0) = false := beq_eq_false_iff_ne.2 hk;have hk2 : (k != 0) = true := bne_iff_ne.2 hk)
  go_ret2
  exact ⟨HB.out.trans (hb2.out.mono HB.out.size),.inr ⟨k,hk,.inl (by rw [HK.out];exact hk),rfl,fun h => absurd h (by rw [HK.out];exact hk)⟩⟩
end Go.Proofs.YtknkhnahflmjiaaGreatDoor
