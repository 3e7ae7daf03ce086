/- Parts of the proof, laid into one text: SetF, RegF, LsE, Small. -/
import Derived.BigQuiet
import Derived.Deep.AppendLies
import Derived.Deep.Draws
import Derived.Deep.LoopGhost
import Derived.Deep.QuietTactic
import Derived.IntWalk
import Derived.Laws.Bits64b
import Derived.Lib.Hide
import Derived.Maps.AppendAt
import Derived.Maps.Own
import Derived.Maps.OwnOps
import Derived.Maps.OwnSet
import Derived.Maps.Views
import Derived.PlainAid
import Derived.Shelf.Abstract
import Derived.StillTailTactics
import Derived.Test.YtbhmkcjddpniiaaGreatDoorC1
import Derived.Test.YtbhmkcjddpniiaaGreatDoorC2
import Derived.Test.YtbhmkcjddpniiaaGreatDoorD1
import Derived.Test.YtbhmkcjddpniiaaGreatDoorD2
import Derived.Test.YtbhmkcjddpniiaaGreatDoorG1
import Derived.Test.YtbhmkcjddpniiaaGreatDoorProg
import Derived.WalkKit
import Derived.WalkLawsBesides
import Derived.WalkSpells

namespace Go.Proofs.YtbhmkcjddpniiaaGreatDoor
structure SetOk (s : SetT) : Prop where
 len : 1000 ≤ s.len ∧ s.len ≤ 1048576
 pipe : 0 ≤ s.pipe ∧ s.pipe ≤ 1048576
 arbor : 0 ≤ s.arbor ∧ s.arbor ≤ 1048576
 purch : 1 ≤ s.purch ∧ s.purch ≤ 2
 most : 1 ≤ s.most ∧ s.most ≤ 67108864
 brake : 0 ≤ s.brake ∧ s.brake ≤ 67108864
 depth : 0 ≤ s.depth ∧ s.depth ≤ 1048576
 low : 0 ≤ s.low ∧ s.low ≤ s.high ∧ s.high ≤ 1048576
 lines : linesB s.lines s.len = true
 items : itemsB s.items s.len = true
 bricks : bricksB s.bricks = true
theorem setB_ok {s : SetT} (h : setB s = true) : SetOk s := by
 unfold setB at h
 simp only [Bool.and_eq_true,decide_eq_true_eq] at h
 obtain ⟨-,h1,h2,h3,h4,h5,-,h7,h8,h9,h10,h11,h12,h13,h14⟩ := h
 exact ⟨between_bd h5,between_bd h8,between_bd h9,between_bd h10,between_bd h11,between_bd h12,between_bd h1,⟨h2,h3,h4⟩,h7,h13,h14⟩
theorem SetOk.wts {s : SetT} (h : SetOk s) : s.items.length ≤ 40 ∧ ∀ x ∈ s.items,alone1 x = true ∧ inside1 x s.len = true := by
 have h1 := h.items
 unfold itemsB at h1
 simp only [Bool.and_eq_true,decide_eq_true_eq] at h1
 refine ⟨h1.1,fun x hx => ?_⟩
 obtain ⟨i,hi,rfl⟩ := List.getElem_of_mem hx
 have h2 := h1.2.2
 unfold itTo at h2
 rw [decide_eq_true_iff] at h2
 have h3 := h2 i hi
 rw [itGood_eq hi] at h3
 simp only [Bool.and_eq_true] at h3
 exact ⟨h3.1,h3.2.1⟩
end Go.Proofs.YtbhmkcjddpniiaaGreatDoor

namespace Go.Proofs.YtbhmkcjddpniiaaGreatDoor
open Go.RowKit Go.Shelf
section
variable {P : Program} {ops : Array Oper} {md : Region.Mode} {V : Nat → Value} {Wd : Nat → World} {S : List Nat}
def left (done : Array Bool) (n : Nat) : Nat := ((List.range n).filter fun i => !done.getD i true).length
end
end Go.Proofs.YtbhmkcjddpniiaaGreatDoor

namespace Go.Proofs.YtbhmkcjddpniiaaGreatDoor
open Go.RowKit Go.Shelf
def mxTo (f : ItemT → Int) (l : List ItemT) (k : Nat) : Int := (l.take k).foldl (fun a x => max a (f x)) 0
structure ExSt (w W : World) (bx : Array Value) (l : List ItemT) (D k : Nat) : Prop where
 d0 : Blk W w.heap.size 26 bx
 d1 : Blk W (w.heap.size + 1) 91 #[.int .i64 0,.int .i64 0]
 d2 : Blk W (w.heap.size + 1 + 1) 91 #[.int .i64 0,.int .i64 0]
 d3 : Blk W D 47 #[.string ⟨#[]⟩,.int .i64 0,.int .i64 0,.int .i64 0,.int .i64 (mxTo ItemT.hang l k),.int .i64 (mxTo ItemT.front l k),.int .i64 (mxTo ItemT.back l k)]
 bel : Below w.heap.size w W
 far : w.heap.size + 1 + 1 < D
section
variable {w W W' : World} {bx : Array Value} {l : List ItemT} {D k : Nat}
theorem ExSt.below (h : ExSt w W bx l D k) (hb : Below W.heap.size W W') : ExSt w W' bx l D k :=
 ⟨h.d0.below hb h.d0.lt,h.d1.below hb h.d1.lt,h.d2.below hb h.d2.lt,h.d3.below hb h.d3.lt,h.bel.trans (hb.mono h.bel.size),h.far⟩
theorem ExSt.step (h : ExSt w W bx l D k) {a b c : Int} (ha : mxTo ItemT.hang l (k + 1) = a) (hb : mxTo ItemT.front l (k + 1) = b) (hc : mxTo ItemT.back l (k + 1) = c) :
  ExSt w (((W.setCell ⟨D,4,none⟩ (.int .i64 a)).setCell ⟨D,5,none⟩ (.int .i64 b)).setCell ⟨D,6,none⟩ (.int .i64 c)) bx l D (k + 1) := by
 have hf := h.far
 subst ha hb hc
 have k3 := fun {g : Nat} {t : TypeId} {c : Array Value} (hb : Blk W g t c) (hg : g ≠ D) (x0 x1 x2 : Value) => ((hb.far (p := ⟨D,4,none⟩) hg x0).far (p := ⟨D,5,none⟩) hg x1).far (p := ⟨D,6,none⟩) hg x2
 refine ⟨k3 h.d0 (by omega) _ _ _,k3 h.d1 (by omega) _ _ _,k3 h.d2 (by omega) _ _ _,((h.d3.set_ 4 _).set_ 5 _).set_ 6 _,((h.bel.setCell (by show w.heap.size ≤ D;omega) _).setCell (by show w.heap.size ≤ D;omega) _).setCell (by show w.heap.size ≤ D;omega) _,h.far⟩
end
end Go.Proofs.YtbhmkcjddpniiaaGreatDoor

namespace Go.Proofs.YtbhmkcjddpniiaaGreatDoor
open Go.RowKit Go.Shelf
def AnsB (w : World) (e : Ending) (w' : World) : Prop := ∃ q : Bool,e = .returned (.bool q) ∧ Below w.heap.size w w'
set_option maxRecDepth 100000 in
set_option maxHeartbeats 4000000 in
theorem refSmall (v : Value) (s : SetT) (n : Int) (w : World) (hv : SetAt w w.heap.size v s) (_hsz : s.name.size ≤ maxLen) (hnm : ∀ x ∈ s.items,x.name.size ≤ maxLen) (hbm : ∀ x ∈ s.bricks,x.name.size ≤ maxLen) :
  Calls Tryz.prog 23 #[v,.int .i64 n] w (AnsB w) := by
 obtain ⟨Al,cl,Ai,ci,Ab,cb,rfl,hL,hI,hB⟩ := hv
 obtain ⟨_,_,e,hl1,hl2,-⟩ := hL.open_
 injection e with e1 _ e2
 subst e1 e2
 obtain ⟨_,_,e,hi1,hi2,hic⟩ := hI.open_
 injection e with e1 _ e2
 subst e1 e2
 obtain ⟨_,_,e,hk1,hk2,hkc⟩ := hB.open_
 injection e with e1 _ e2
 subst e1 e2
 have HI := Lib.hid hic
 have HK := Lib.hid hkc
 have HN := Lib.hid hnm
 have HM := Lib.hid hbm
 have HD := Lib.hid (Blk.new w 26 #[.string s.name,.int .i64 s.depth,.int .i64 s.low,.int .i64 s.high,.int .i64 s.len,.slice Al s.lines.length cl,.int .i64 s.pipe,.int .i64 s.arbor,.int .i64 s.purch,.int .i64 s.most,.int .i64 s.brake,.slice Ai s.items.length ci,.slice Ab s.bricks.length cb])
 have HB1 := Lib.hid ((Below.refl _ w).alloc (Nat.le_refl _) (.cells #[.string s.name,.int .i64 s.depth,.int .i64 s.low,.int .i64 s.high,.int .i64 s.len,.slice Al s.lines.length cl,.int .i64 s.pipe,.int .i64 s.arbor,.int .i64 s.purch,.int .i64 s.most,.int .i64 s.brake,.slice Ai s.items.length ci,.slice Ab s.bricks.length cb] 26))
 unfold maxLen at hl2 hi2 hk2
 unfold setVal
 clear hL hI hB hic hkc hnm hbm
 by_cases c0 : 60 < (s.name.size : Int)
 ·have d0 : decide (60 < (s.name.size : Int)) = true := decide_eq_true c0
  go_enter Tryz.func23,Tryz.ntmps23
  go_wp2
  go_ret
  exact ⟨_,rfl,HB1.out⟩
 have d0 : decide (60 < (s.name.size : Int)) = false := decide_eq_false c0
 by_cases c1 : 12 < (s.lines.length : Int)
 ·have d1 : decide (12 < (s.lines.length : Int)) = true := decide_eq_true c1
  go_enter Tryz.func23,Tryz.ntmps23
  go_wp2
  go_ret
  exact ⟨_,rfl,HB1.out⟩
 have d1 : decide (12 < (s.lines.length : Int)) = false := decide_eq_false c1
 by_cases c2 : n < (s.items.length : Int)
 ·have d2 : decide (n < (s.items.length : Int)) = true := decide_eq_true c2
  by_cases c3 : (s.items.length : Int) ≤ 40
  ·have d3 : decide ((s.items.length : Int) ≤ 40) = true := decide_eq_true c3
   go_enter Tryz.func23,Tryz.ntmps23
   go_wp2
   go_ret
   exact ⟨_,rfl,HB1.out⟩
  have d3 : decide ((s.items.length : Int) ≤ 40) = false := decide_eq_false c3
  by_cases c4 : 45 < (s.items.length : Int)
  ·have d4 : decide (45 < (s.items.length : Int)) = true := decide_eq_true c4
   go_enter Tryz.func23,Tryz.ntmps23
   go_wp2
   go_ret
   exact ⟨_,rfl,HB1.out⟩
  have d4 : decide (45 < (s.items.length : Int)) = false := decide_eq_false c4
  by_cases c5 : 10 < (s.bricks.length : Int)
  ·have d5 : decide (10 < (s.bricks.length : Int)) = true := decide_eq_true c5
   go_enter Tryz.func23,Tryz.ntmps23
   go_wp2
   go_ret
   exact ⟨_,rfl,HB1.out⟩
  have d5 : decide (10 < (s.bricks.length : Int)) = false := decide_eq_false c5
  go_enter Tryz.func23,Tryz.ntmps23
  go_wp2
  generalize w.alloc (.cells #[.string s.name,.int .i64 s.depth,.int .i64 s.low,.int .i64 s.high,.int .i64 s.len,.slice Al s.lines.length cl,.int .i64 s.pipe,.int .i64 s.arbor,.int .i64 s.purch,.int .i64 s.most,.int .i64 s.brake,.slice Ai s.items.length ci,.slice Ab s.bricks.length cb] 26) = W1 at *
  have z11 := HD.out.cell 11
  have z12 := HD.out.cell 12
  simp only [List.getElem?_toArray,List.getElem?_cons_succ,List.getElem?_cons_zero] at z11 z12
  go_loopw [5] (fun x wr => ∃ k : Nat,k ≤ s.items.length ∧ x = .int .i64 k ∧ W1 = wr) (fun x _ => s.items.length - (intOf x).toNat)
  case atStart => exact ⟨0,Nat.zero_le _,rfl,rfl⟩
  case round =>
   obtain ⟨k,hk,rfl,rfl⟩ := hrel
   by_cases hkl : k < s.items.length
   ·obtain ⟨b,off,rfl,hb,hc⟩ := HI.out k hkl
    have y0 := (HB1.out.cell (p := ⟨b,off + k * 7,none⟩) hb).trans (hc k hkl).1
    have hz := HN.out _ (List.getElem_mem hkl)
    unfold maxLen at hz
    have i1 : (0 : Int) ≤ (k : Int) := Int.natCast_nonneg _
    have i2 : (k : Int) < (s.items.length : Int) := by omega
    clear hc
    by_cases g : 60 < (s.items[k].name.size : Int)
    ·have gd := decide_eq_true g
     go_wp2
     go_ret
     exact ⟨_,rfl,HB1.out⟩
    ·have gd := decide_eq_false g
     go_wp2
     go_roundw
     case rel => exact ⟨k + 1,by omega,by go_num,by trivial⟩
     case measure => simp [intOf];omega
   ·obtain rfl : k = s.items.length := by omega
    go_wp2
    go_loopw [6] (fun x wr => ∃ k : Nat,k ≤ s.bricks.length ∧ x = .int .i64 k ∧ W1 = wr) (fun x _ => s.bricks.length - (intOf x).toNat)
    case atStart => exact ⟨0,Nat.zero_le _,rfl,rfl⟩
    case round =>
     obtain ⟨k,hk,rfl,rfl⟩ := hrel
     by_cases hkl : k < s.bricks.length
     ·obtain ⟨b,off,rfl,hb,hc⟩ := HK.out k hkl
      have y0 := (HB1.out.cell (p := ⟨b,off + k * 3,none⟩) hb).trans (hc k hkl).1
      have hz := HM.out _ (List.getElem_mem hkl)
      unfold maxLen at hz
      have i1 : (0 : Int) ≤ (k : Int) := Int.natCast_nonneg _
      have i2 : (k : Int) < (s.bricks.length : Int) := by omega
      clear hc
      by_cases g : 60 < (s.bricks[k].name.size : Int)
      ·have gd := decide_eq_true g
       go_wp2
       go_ret
       exact ⟨_,rfl,HB1.out⟩
      ·have gd := decide_eq_false g
       go_wp2
       go_roundw
       case rel => exact ⟨k + 1,by omega,by go_num,by trivial⟩
       case measure => simp [intOf];omega
     ·obtain rfl : k = s.bricks.length := by omega
      go_wp2
      go_ret
      exact ⟨_,rfl,HB1.out⟩
 have d2 : decide (n < (s.items.length : Int)) = false := decide_eq_false c2
 by_cases c4 : 45 < (s.items.length : Int)
 ·have d4 : decide (45 < (s.items.length : Int)) = true := decide_eq_true c4
  go_enter Tryz.func23,Tryz.ntmps23
  go_wp2
  go_ret
  exact ⟨_,rfl,HB1.out⟩
 have d4 : decide (45 < (s.items.length : Int)) = false := decide_eq_false c4
 by_cases c5 : 10 < (s.bricks.length : Int)
 ·have d5 : decide (10 < (s.bricks.length : Int)) = true := decide_eq_true c5
  go_enter Tryz.func23,Tryz.ntmps23
  go_wp2
  go_ret
  exact ⟨_,rfl,HB1.out⟩
 have d5 : decide (10 < (s.bricks.length : Int)) = false := decide_eq_false c5
 go_enter Tryz.func23,Tryz.ntmps23
 go_wp2
 generalize w.alloc (.cells #[.string s.name,.int .i64 s.depth,.int .i64 s.low,.int .i64 s.high,.int .i64 s.len,.slice Al s.lines.length cl,.int .i64 s.pipe,.int .i64 s.arbor,.int .i64 s.purch,.int .i64 s.most,.int .i64 s.brake,.slice Ai s.items.length ci,.slice Ab s.bricks.length cb] 26) = W1 at *
 have z11 := HD.out.cell 11
 have z12 := HD.out.cell 12
 simp only [List.getElem?_toArray,List.getElem?_cons_succ,List.getElem?_cons_zero] at z11 z12
 go_loopw [5] (fun x wr => ∃ k : Nat,k ≤ s.items.length ∧ x = .int .i64 k ∧ W1 = wr) (fun x _ => s.items.length - (intOf x).toNat)
 case atStart => exact ⟨0,Nat.zero_le _,rfl,rfl⟩
 case round =>
  obtain ⟨k,hk,rfl,rfl⟩ := hrel
  by_cases hkl : k < s.items.length
  ·obtain ⟨b,off,rfl,hb,hc⟩ := HI.out k hkl
   have y0 := (HB1.out.cell (p := ⟨b,off + k * 7,none⟩) hb).trans (hc k hkl).1
   have hz := HN.out _ (List.getElem_mem hkl)
   unfold maxLen at hz
   have i1 : (0 : Int) ≤ (k : Int) := Int.natCast_nonneg _
   have i2 : (k : Int) < (s.items.length : Int) := by omega
   clear hc
   by_cases g : 60 < (s.items[k].name.size : Int)
   ·have gd := decide_eq_true g
    go_wp2
    go_ret
    exact ⟨_,rfl,HB1.out⟩
   ·have gd := decide_eq_false g
    go_wp2
    go_roundw
    case rel => exact ⟨k + 1,by omega,by go_num,by trivial⟩
    case measure => simp [intOf];omega
  ·obtain rfl : k = s.items.length := by omega
   go_wp2
   go_loopw [6] (fun x wr => ∃ k : Nat,k ≤ s.bricks.length ∧ x = .int .i64 k ∧ W1 = wr) (fun x _ => s.bricks.length - (intOf x).toNat)
   case atStart => exact ⟨0,Nat.zero_le _,rfl,rfl⟩
   case round =>
    obtain ⟨k,hk,rfl,rfl⟩ := hrel
    by_cases hkl : k < s.bricks.length
    ·obtain ⟨b,off,rfl,hb,hc⟩ := HK.out k hkl
     have y0 := (HB1.out.cell (p := ⟨b,off + k * 3,none⟩) hb).trans (hc k hkl).1
     have hz := HM.out _ (List.getElem_mem hkl)
     unfold maxLen at hz
     have i1 : (0 : Int) ≤ (k : Int) := Int.natCast_nonneg _
     have i2 : (k : Int) < (s.bricks.length : Int) := by omega
     clear hc
     by_cases g : 60 < (s.bricks[k].name.size : Int)
     ·have gd := decide_eq_true g
      go_wp2
      go_ret
      exact ⟨_,rfl,HB1.out⟩
     ·have gd := decide_eq_false g
      go_wp2
      go_roundw
      case rel => exact ⟨k + 1,by omega,by go_num,by trivial⟩
      case measure => simp [intOf];omega
    ·obtain rfl : k = s.bricks.length := by omega
     go_wp2
     go_ret
     exact ⟨_,rfl,HB1.out⟩
end Go.Proofs.YtbhmkcjddpniiaaGreatDoor
