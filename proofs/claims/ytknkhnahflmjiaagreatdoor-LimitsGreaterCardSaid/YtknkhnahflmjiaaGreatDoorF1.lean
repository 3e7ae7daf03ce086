/- Parts of the proof, laid into one text: SetP, BatA, Twice, BatB, SlC, BatC, BatD. -/
import Derived.BigQuiet
import Derived.Deep.AppendLies
import Derived.Deep.Draws
import Derived.Deep.LoopGhost
import Derived.Deep.QuietTactic
import Derived.IntWalk
import Derived.Lib.Hide
import Derived.Maps.AppendAt
import Derived.Maps.Own
import Derived.Maps.OwnOps
import Derived.Maps.OwnSet
import Derived.Maps.Views
import Derived.PlainAid
import Derived.Shelf.Abstract
import Derived.StillTailTactics
import Derived.Test.YtknkhnahflmjiaaGreatDoorB1
import Derived.Test.YtknkhnahflmjiaaGreatDoorProg
import Derived.WalkKit
import Derived.WalkLawsBesides
import Derived.WalkSpells

namespace Go.Proofs.YtknkhnahflmjiaaGreatDoor
open Go.RowKit Go.Shelf
structure ItemT where
 name : ByteArray
 pos : Int
 width : Int
 wt : Int
 hang : Int
 front : Int
 back : Int
deriving DecidableEq
structure BrickT where
 name : ByteArray
 wt : Int
 cnt : Int
deriving DecidableEq
structure SetT where
 name : ByteArray
 depth : Int
 low : Int
 high : Int
 len : Int
 lines : List Int
 pipe : Int
 arbor : Int
 purch : Int
 most : Int
 brake : Int
 items : List ItemT
 bricks : List BrickT
deriving DecidableEq
def ItemT.cells (x : ItemT) : List Value := [.string x.name,.int .i64 x.pos,.int .i64 x.width,.int .i64 x.wt,.int .i64 x.hang,.int .i64 x.front,.int .i64 x.back]
abbrev ItemT.val (x : ItemT) : Value := .agg #[.string x.name,.int .i64 x.pos,.int .i64 x.width,.int .i64 x.wt,.int .i64 x.hang,.int .i64 x.front,.int .i64 x.back]
def BrickT.cells (x : BrickT) : List Value := [.string x.name,.int .i64 x.wt,.int .i64 x.cnt]
abbrev BrickT.val (x : BrickT) : Value := .agg #[.string x.name,.int .i64 x.wt,.int .i64 x.cnt]
theorem flatGet {α : Type} (f : α → List Value) (k : Nat) (hf : ∀ x,(f x).length = k) (l : List α) (j i : Nat) (hj : j < l.length) (hi : i < k) : (l.flatMap f)[j * k + i]? = (f l[j])[i]? := by
 induction l generalizing j with
 | nil => simp at hj
 | cons t l ih =>
  rw [List.flatMap_cons]
  cases j with
  | zero => rw [List.getElem?_append_left (by rw [hf];omega)];simp
  | succ j =>
   rw [List.getElem?_append_right (by rw [hf,Nat.succ_mul];omega),hf]
   have := ih j (by simpa using hj)
   rw [show (j + 1) * k + i - k = j * k + i by rw [Nat.succ_mul];omega,this]
   rfl
def ItemsAt (w : World) (B : Nat) (v : Value) (l : List ItemT) : Prop := Flat w B v l.length (l.flatMap ItemT.cells)
def BricksAt (w : World) (B : Nat) (v : Value) (l : List BrickT) : Prop := Flat w B v l.length (l.flatMap BrickT.cells)
theorem ItemsAt.below {w w' : World} {B B' : Nat} {v : Value} {l : List ItemT} (h : ItemsAt w B v l) (hb : Below B' w w') (hB : B ≤ B') : ItemsAt w' B v l := Flat.below h hb hB
theorem ItemsAt.mono {w : World} {B B' : Nat} {v : Value} {l : List ItemT} (h : ItemsAt w B v l) (hB : B ≤ B') : ItemsAt w B' v l := Flat.mono h hB
theorem BricksAt.below {w w' : World} {B B' : Nat} {v : Value} {l : List BrickT} (h : BricksAt w B v l) (hb : Below B' w w') (hB : B ≤ B') : BricksAt w' B v l := Flat.below h hb hB
theorem BricksAt.mono {w : World} {B B' : Nat} {v : Value} {l : List BrickT} (h : BricksAt w B v l) (hB : B ≤ B') : BricksAt w B' v l := Flat.mono h hB
theorem ItemsAt.open_ {w : World} {B : Nat} {v : Value} {l : List ItemT} (h : ItemsAt w B v l) :
  ∃ A c,v = .slice A l.length c ∧ l.length ≤ c ∧ c ≤ maxLen ∧ ∀ k (_ : k < l.length),∃ b off,A = some ⟨b,off,none⟩ ∧ b < B ∧ ∀ j (hj : j < l.length),
   w.cell? ⟨b,off + j * 7,none⟩ = some (.string l[j].name) ∧ w.cell? ⟨b,off + j * 7 + 1,none⟩ = some (.int .i64 l[j].pos) ∧ w.cell? ⟨b,off + j * 7 + 2,none⟩ = some (.int .i64 l[j].width) ∧ w.cell? ⟨b,off + j * 7 + 3,none⟩ = some (.int .i64 l[j].wt) ∧ w.cell? ⟨b,off + j * 7 + 4,none⟩ = some (.int .i64 l[j].hang) ∧ w.cell? ⟨b,off + j * 7 + 5,none⟩ = some (.int .i64 l[j].front) ∧ w.cell? ⟨b,off + j * 7 + 6,none⟩ = some (.int .i64 l[j].back) := by
 obtain ⟨A,c,h1,h2,h3,h4⟩ := h
 refine ⟨A,c,h1,h2,h3,fun k hk => ?_⟩
 obtain ⟨b,off,e,hlt,hc⟩ := h4 (by omega)
 refine ⟨b,off,e,hlt,fun j hj => ?_⟩
 have f := fun (i : Nat) (hi : i < 7) u (hu : l[j].cells[i]? = some u) => hc (j * 7 + i) u ((flatGet ItemT.cells 7 (fun _ => rfl) l j i hj hi).trans hu)
 have g := fun (i : Nat) (hi : i < 7) u (hu : l[j].cells[i]? = some u) => (congrArg (fun o => w.cell? ⟨b,o,none⟩) (Nat.add_assoc off (j * 7) i)).trans (f i hi u hu)
 exact ⟨g 0 (by omega) _ rfl,g 1 (by omega) _ rfl,g 2 (by omega) _ rfl,g 3 (by omega) _ rfl,g 4 (by omega) _ rfl,g 5 (by omega) _ rfl,g 6 (by omega) _ rfl⟩
theorem BricksAt.open_ {w : World} {B : Nat} {v : Value} {l : List BrickT} (h : BricksAt w B v l) :
  ∃ A c,v = .slice A l.length c ∧ l.length ≤ c ∧ c ≤ maxLen ∧ ∀ k (_ : k < l.length),∃ b off,A = some ⟨b,off,none⟩ ∧ b < B ∧ ∀ j (hj : j < l.length),
   w.cell? ⟨b,off + j * 3,none⟩ = some (.string l[j].name) ∧ w.cell? ⟨b,off + j * 3 + 1,none⟩ = some (.int .i64 l[j].wt) ∧ w.cell? ⟨b,off + j * 3 + 2,none⟩ = some (.int .i64 l[j].cnt) := by
 obtain ⟨A,c,h1,h2,h3,h4⟩ := h
 refine ⟨A,c,h1,h2,h3,fun k hk => ?_⟩
 obtain ⟨b,off,e,hlt,hc⟩ := h4 (by omega)
 refine ⟨b,off,e,hlt,fun j hj => ?_⟩
 have f := fun (i : Nat) (hi : i < 3) u (hu : l[j].cells[i]? = some u) => hc (j * 3 + i) u ((flatGet BrickT.cells 3 (fun _ => rfl) l j i hj hi).trans hu)
 have g := fun (i : Nat) (hi : i < 3) u (hu : l[j].cells[i]? = some u) => (congrArg (fun o => w.cell? ⟨b,o,none⟩) (Nat.add_assoc off (j * 3) i)).trans (f i hi u hu)
 exact ⟨g 0 (by omega) _ rfl,g 1 (by omega) _ rfl,g 2 (by omega) _ rfl⟩
def setVal (s : SetT) (Al : Option Addr) (cl : Nat) (Ai : Option Addr) (ci : Nat) (Ab : Option Addr) (cb : Nat) : Value :=
 .agg #[.string s.name,.int .i64 s.depth,.int .i64 s.low,.int .i64 s.high,.int .i64 s.len,.slice Al s.lines.length cl,.int .i64 s.pipe,.int .i64 s.arbor,.int .i64 s.purch,.int .i64 s.most,.int .i64 s.brake,.slice Ai s.items.length ci,.slice Ab s.bricks.length cb]
def SetAt (w : World) (B : Nat) (v : Value) (s : SetT) : Prop :=
 ∃ Al cl Ai ci Ab cb,v = setVal s Al cl Ai ci Ab cb ∧ IntsAt w B (.slice Al s.lines.length cl) s.lines ∧ ItemsAt w B (.slice Ai s.items.length ci) s.items ∧ BricksAt w B (.slice Ab s.bricks.length cb) s.bricks
theorem SetAt.below {w w' : World} {B B' : Nat} {v : Value} {s : SetT} (h : SetAt w B v s) (hb : Below B' w w') (hB : B ≤ B') : SetAt w' B v s := by
 obtain ⟨Al,cl,Ai,ci,Ab,cb,h1,h2,h3,h4⟩ := h
 exact ⟨Al,cl,Ai,ci,Ab,cb,h1,h2.below hb hB,h3.below hb hB,h4.below hb hB⟩
theorem SetAt.mono {w : World} {B B' : Nat} {v : Value} {s : SetT} (h : SetAt w B v s) (hB : B ≤ B') : SetAt w B' v s := by
 obtain ⟨Al,cl,Ai,ci,Ab,cb,h1,h2,h3,h4⟩ := h
 exact ⟨Al,cl,Ai,ci,Ab,cb,h1,h2.mono hB,h3.mono hB,h4.mono hB⟩
theorem SetAt.grow {w w' : World} {v : Value} {s : SetT} (h : SetAt w w.heap.size v s) (hb : Below w.heap.size w w') : SetAt w' w'.heap.size v s := (h.below hb (Nat.le_refl _)).mono hb.size
def apartB (a b : ItemT) : Bool := decide (a.pos + a.width ≤ b.pos) || decide (b.pos + b.width ≤ a.pos)
end Go.Proofs.YtknkhnahflmjiaaGreatDoor

namespace Go.Proofs.YtknkhnahflmjiaaGreatDoor
open Go.RowKit Go.Shelf
theorem batBetween (n lo hi : Int) (w : World) : Calls Tryz.prog 127 #[.int .i64 n,.int .i64 lo,.int .i64 hi] w fun e w' => e = .returned (.bool (betweenB n lo hi)) ∧ w = w' := by
 by_cases h1 : lo ≤ n
 ·by_cases h2 : n ≤ hi
  all_goals
   go_enter Tryz.func127,Tryz.ntmps127
   go_wp2
   go_ret
   exact ⟨ret_bool (by unfold betweenB;symm;simp;omega),rfl⟩
 ·have h1b : decide (lo ≤ n) = false := by simpa using h1
  go_enter Tryz.func127,Tryz.ntmps127
  go_wp2
  go_ret
  exact ⟨ret_bool (by unfold betweenB;symm;simp;omega),rfl⟩
def alone1 (x : ItemT) : Bool := nameB x.name && (betweenB x.wt 0 1048576 && (betweenB x.hang 0 1048576 && (betweenB x.front 0 1048576 && betweenB x.back 0 1048576)))
def inside1 (x : ItemT) (len : Int) : Bool := decide (0 ≤ x.pos) && (betweenB x.width 1 1048576 && decide (x.pos ≤ len - x.width))
theorem between_bd {n lo hi : Int} (h : betweenB n lo hi = true) : lo ≤ n ∧ n ≤ hi := of_decide_eq_true h
set_option maxRecDepth 100000 in
set_option maxHeartbeats 1000000 in
theorem batApart (x y : ItemT) (w : World) (hx : 0 ≤ x.pos ∧ x.pos ≤ 1048576 ∧ 1 ≤ x.width ∧ x.width ≤ 1048576) (hy : 0 ≤ y.pos ∧ y.pos ≤ 1048576 ∧ 1 ≤ y.width ∧ y.width ≤ 1048576) :
  Calls Tryz.prog 184 #[x.val,y.val] w fun e w' => e = .returned (.bool (apartB x y)) ∧ Below w.heap.size w w' := by
 have HB : Hid (Below w.heap.size w ((w.alloc (.cells #[.string x.name,.int .i64 x.pos,.int .i64 x.width,.int .i64 x.wt,.int .i64 x.hang,.int .i64 x.front,.int .i64 x.back] 125)).alloc (.cells #[.string y.name,.int .i64 y.pos,.int .i64 y.width,.int .i64 y.wt,.int .i64 y.hang,.int .i64 y.front,.int .i64 y.back] 125))) := ((Below.refl _ _).alloc (Nat.le_refl _) _).alloc (by simp) _
 have HV : Hid (apartB x y = (decide (x.pos + x.width ≤ y.pos) || decide (y.pos + y.width ≤ x.pos))) := rfl
 obtain ⟨xn,xp,xw,x3,x4,x5,x6⟩ := x
 obtain ⟨yn,yp,yw,y3,y4,y5,y6⟩ := y
 simp only at *
 have v1 : IntKind.i64.wrap (xp + xw) = xp + xw := IntWalk.i64_in _ (by omega)
 have v2 : IntKind.i64.wrap (yp + yw) = yp + yw := IntWalk.i64_in _ (by omega)
 clear hx hy
 by_cases h1 : xp + xw ≤ yp
 ·have d1 : decide (xp + xw ≤ yp) = true := decide_eq_true h1
  go_enter Tryz.func184,Tryz.ntmps184
  go_wp2_with fail
  go_ret
  exact ⟨ret_bool (by rw [HV.out,d1];rfl),HB.out⟩
 ·have d1 : decide (xp + xw ≤ yp) = false := decide_eq_false h1
  go_enter Tryz.func184,Tryz.ntmps184
  go_wp2_with fail
  go_ret
  exact ⟨ret_bool (by rw [HV.out,d1];rfl),HB.out⟩
set_option maxRecDepth 100000 in
set_option maxHeartbeats 1000000 in
theorem batInside (x : ItemT) (len : Int) (w : World) (hl : 1000 ≤ len ∧ len ≤ 1048576) :
  Calls Tryz.prog 181 #[x.val,.int .i64 len] w fun e w' => e = .returned (.bool (inside1 x len)) ∧ Below w.heap.size w w' := by
 have HB : Hid (Below w.heap.size w (w.alloc (.cells #[.string x.name,.int .i64 x.pos,.int .i64 x.width,.int .i64 x.wt,.int .i64 x.hang,.int .i64 x.front,.int .i64 x.back] 125))) := (Below.refl _ _).alloc (Nat.le_refl _) _
 have HV : Hid (inside1 x len = (decide (0 ≤ x.pos) && (betweenB x.width 1 1048576 && decide (x.pos ≤ len - x.width)))) := rfl
 obtain ⟨xn,xp,xw,x3,x4,x5,x6⟩ := x
 simp only at *
 have hbt := fun W => batBetween xw 1 1048576 W
 by_cases h1 : 0 ≤ xp
 ·have d1 : decide (0 ≤ xp) = true := decide_eq_true h1
  rcases Bool.eq_false_or_eq_true (betweenB xw 1 1048576) with h2 | h2
  ·have hw := between_bd h2
   have v1 : IntKind.i64.wrap (len - xw) = len - xw := IntWalk.i64_in _ (by omega)
   rw [h2] at hbt HV
   clear hl hw h2
   go_enter Tryz.func181,Tryz.ntmps181
   go_wp2_with (go_at_call 127;refine (hbt _).mono ?_;rintro e w' ⟨rfl,rfl⟩)
   go_ret
   exact ⟨ret_bool (by rw [HV.out,d1];rfl),HB.out⟩
  ·rw [h2] at hbt HV
   clear hl h2
   go_enter Tryz.func181,Tryz.ntmps181
   go_wp2_with (go_at_call 127;refine (hbt _).mono ?_;rintro e w' ⟨rfl,rfl⟩)
   go_ret
   exact ⟨ret_bool (by rw [HV.out,d1];rfl),HB.out⟩
 ·have d1 : decide (0 ≤ xp) = false := decide_eq_false h1
  clear hl hbt
  go_enter Tryz.func181,Tryz.ntmps181
  go_wp2_with fail
  go_ret
  exact ⟨ret_bool (by rw [HV.out,d1];rfl),HB.out⟩
set_option maxRecDepth 100000 in
set_option maxHeartbeats 1000000 in
theorem batAlone (x : ItemT) (w : World) (hn : x.name.size ≤ maxLen) :
  Calls Tryz.prog 180 #[x.val] w fun e w' => e = .returned (.bool (alone1 x)) ∧ Below w.heap.size w w' := by
 have HB : Hid (Below w.heap.size w (w.alloc (.cells #[.string x.name,.int .i64 x.pos,.int .i64 x.width,.int .i64 x.wt,.int .i64 x.hang,.int .i64 x.front,.int .i64 x.back] 125))) := (Below.refl _ _).alloc (Nat.le_refl _) _
 have hnm := fun W => decIsName x.name hn W
 have HV : Hid (alone1 x = (nameB x.name && (betweenB x.wt 0 1048576 && (betweenB x.hang 0 1048576 && (betweenB x.front 0 1048576 && betweenB x.back 0 1048576))))) := rfl
 obtain ⟨xn,xp,xw,x3,x4,x5,x6⟩ := x
 simp only at *
 clear hn
 rcases Bool.eq_false_or_eq_true (nameB xn) with h0 | h0
 rotate_left
 ·go_enter Tryz.func180,Tryz.ntmps180
  go_wp2_with (first | (go_at_call 126;refine (hnm _).mono ?_;rintro e w' ⟨rfl,rfl⟩;rw [h0]) | (go_at_call 127;refine (batBetween _ _ _ _).mono ?_;rintro e w' ⟨rfl,rfl⟩;skip))
  go_ret
  exact ⟨ret_bool (by rw [HV.out,h0];rfl),HB.out⟩
 rcases Bool.eq_false_or_eq_true (betweenB x3 0 1048576) with h1 | h1
 rotate_left
 ·go_enter Tryz.func180,Tryz.ntmps180
  go_wp2_with (first | (go_at_call 126;refine (hnm _).mono ?_;rintro e w' ⟨rfl,rfl⟩;rw [h0]) | (go_at_call 127;refine (batBetween _ _ _ _).mono ?_;rintro e w' ⟨rfl,rfl⟩;try rw [h1]))
  go_ret
  exact ⟨ret_bool (by rw [HV.out,h0,h1];rfl),HB.out⟩
 rcases Bool.eq_false_or_eq_true (betweenB x4 0 1048576) with h2 | h2
 rotate_left
 ·go_enter Tryz.func180,Tryz.ntmps180
  go_wp2_with (first | (go_at_call 126;refine (hnm _).mono ?_;rintro e w' ⟨rfl,rfl⟩;rw [h0]) | (go_at_call 127;refine (batBetween _ _ _ _).mono ?_;rintro e w' ⟨rfl,rfl⟩;try rw [h1];try rw [h2]))
  go_ret
  exact ⟨ret_bool (by rw [HV.out,h0,h1,h2];rfl),HB.out⟩
 rcases Bool.eq_false_or_eq_true (betweenB x5 0 1048576) with h3 | h3
 rotate_left
 ·go_enter Tryz.func180,Tryz.ntmps180
  go_wp2_with (first | (go_at_call 126;refine (hnm _).mono ?_;rintro e w' ⟨rfl,rfl⟩;rw [h0]) | (go_at_call 127;refine (batBetween _ _ _ _).mono ?_;rintro e w' ⟨rfl,rfl⟩;try rw [h1];try rw [h2];try rw [h3]))
  go_ret
  exact ⟨ret_bool (by rw [HV.out,h0,h1,h2,h3];rfl),HB.out⟩
 rcases Bool.eq_false_or_eq_true (betweenB x6 0 1048576) with h4 | h4
 rotate_left
 ·go_enter Tryz.func180,Tryz.ntmps180
  go_wp2_with (first | (go_at_call 126;refine (hnm _).mono ?_;rintro e w' ⟨rfl,rfl⟩;rw [h0]) | (go_at_call 127;refine (batBetween _ _ _ _).mono ?_;rintro e w' ⟨rfl,rfl⟩;try rw [h1];try rw [h2];try rw [h3];try rw [h4]))
  go_ret
  exact ⟨ret_bool (by rw [HV.out,h0,h1,h2,h3,h4];rfl),HB.out⟩
 go_enter Tryz.func180,Tryz.ntmps180
 go_wp2_with (first | (go_at_call 126;refine (hnm _).mono ?_;rintro e w' ⟨rfl,rfl⟩;rw [h0]) | (go_at_call 127;refine (batBetween _ _ _ _).mono ?_;rintro e w' ⟨rfl,rfl⟩;try rw [h1];try rw [h2];try rw [h3];try rw [h4]))
 go_ret
 exact ⟨ret_bool (by rw [HV.out,h0,h1,h2,h3,h4];rfl),HB.out⟩
theorem entersI1 : ∀ args w,(callFunc 179 args).run Tryz.prog w = .ok (.enter 179 args) w := enters_of Tryz.func179 (by kernel_rfl) rfl
theorem batItemName (x : ItemT) (w : World) : Calls Tryz.prog 179 #[x.val] w fun e w' => e = .returned (.string x.name) ∧ w' = w.alloc (.cells #[.string x.name,.int .i64 x.pos,.int .i64 x.width,.int .i64 x.wt,.int .i64 x.hang,.int .i64 x.front,.int .i64 x.back] 125) := by
 obtain ⟨xn,xp,xw,x3,x4,x5,x6⟩ := x
 simp only at *
 go_enter Tryz.func179,Tryz.ntmps179
 go_wp2_with fail
 go_ret
 exact ⟨rfl,rfl⟩
theorem entersB1 : ∀ args w,(callFunc 186 args).run Tryz.prog w = .ok (.enter 186 args) w := enters_of Tryz.func186 (by kernel_rfl) rfl
theorem batBrickName (x : BrickT) (w : World) : Calls Tryz.prog 186 #[x.val] w fun e w' => e = .returned (.string x.name) ∧ w' = w.alloc (.cells #[.string x.name,.int .i64 x.wt,.int .i64 x.cnt] 127) := by
 obtain ⟨xn,x1,x2⟩ := x
 simp only at *
 go_enter Tryz.func186,Tryz.ntmps186
 go_wp2_with fail
 go_ret
 exact ⟨rfl,rfl⟩
end Go.Proofs.YtknkhnahflmjiaaGreatDoor

namespace Go.Proofs.YtknkhnahflmjiaaGreatDoor
open Go.RowKit Go.Shelf Go.WideMaps Go.Maps
def dnam (L : List ByteArray) : Nat → Nat
 | 0 => 0
 | j + 1 => if L.getD j default ∈ L.take j then dnam L j else dnam L j + 1
def twiceB (L : List ByteArray) : Bool := decide (dnam L L.length < L.length)
def NameMap (w : World) (b : Nat) (L : List ByteArray) (j : Nat) : Prop :=
 ∃ D,w.ownsMap Tryz.prog 9 (unitElem (H := Unit)) b j D ∧ (∀ s,Maps.has D (keyS s) = decide (s ∈ L.take j)) ∧ Maps.size D = dnam L j
theorem NameMap.step {L : List ByteArray} {j : Nat} {D : DataW Unit} (h1 : ∀ s,Maps.has D (keyS s) = decide (s ∈ L.take j)) (h2 : Maps.size D = dnam L j) (hj : j < L.length) (hm : IsMap D) (ht : Tidy D) :
  (∀ s,Maps.has (D.put (keyS L[j]) (.agg [])) (keyS s) = decide (s ∈ L.take (j + 1))) ∧ Maps.size (D.put (keyS L[j]) (.agg [])) = dnam L (j + 1) := by
 constructor
 ·intro s
  rw [take_snoc L j hj]
  by_cases e : s = L[j]
  ·subst e
   rw [Maps.has_put_same hm (keyS_key _)]
   exact (decide_eq_true (List.mem_append_right _ (List.mem_singleton.2 rfl))).symm
  ·rw [Maps.has_put_other (fun e' => e (keyS_inj e')),h1]
   exact decide_eq_decide.2 ⟨fun h => List.mem_append_left _ h,fun h => (List.mem_append.1 h).resolve_right fun h => e (List.mem_singleton.1 h)⟩
 ·have hg : L.getD j default = L[j] := by rw [List.getD_eq_getElem?_getD,List.getElem?_eq_getElem hj];rfl
  rw [Maps.size_put ht,h1,h2,dnam,hg]
  by_cases e : L[j] ∈ L.take j
  ·rw [decide_eq_true e,if_pos rfl,if_pos e]
  ·rw [decide_eq_false e,if_neg (by simp),if_neg e]
set_option maxRecDepth 100000 in
set_option maxHeartbeats 2000000 in
theorem batTwiceItem (v : Value) (l : List ItemT) (w : World) (hl : ItemsAt w w.heap.size v l) (hn : ∀ x ∈ l,x.name.size ≤ maxLen) (_h40 : l.length ≤ 100) :
  Calls Tryz.prog 178 #[v,.func (.func 179) #[] #[]] w fun e w' => e = .returned (.bool (twiceB (l.map ItemT.name))) ∧ Below w.heap.size w w' := by
 obtain ⟨A,c,rfl,hc1,hc2,hcell⟩ := hl.open_
 unfold maxLen at hc2
 have HC := Lib.hid hcell
 have HN := Lib.hid hn
 clear hl hcell hn
 have hmm := @run_makeMap Tryz.prog
 have eg := entersI1
 go_enter Tryz.func178,Tryz.ntmps178
 go_wp2_with fail
 have HM0 : Hid (NameMap (w.alloc (.map #[] 0)) w.heap.size (l.map ItemT.name) 0) := ⟨_,World.ownsMap_made w _ _ _,fun s => by simp [Maps.has],rfl⟩
 have Hbm : Below w.heap.size w (w.alloc (.map #[] 0)) := (Below.refl _ _).alloc (Nat.le_refl _) _
 generalize w.alloc (.map #[] 0) = w2 at *
 go_loopw [11] (fun ix wr => ∃ k : Nat,k ≤ l.length ∧ ix = .int .i64 k ∧ Hid (NameMap wr w.heap.size (l.map ItemT.name) k) ∧ Below w.heap.size w wr) (fun ix _ => l.length - (intOf ix).toNat)
 case atStart => exact ⟨0,Nat.zero_le _,rfl,HM0,Hbm⟩
 case round =>
  clear HM0 Hbm
  obtain ⟨k,hk,rfl,HM,hbel⟩ := hrel
  by_cases hkl : k < l.length
  ·obtain ⟨b1,off1,rfl,hb1,hc⟩ := HC.out k hkl
   have y0 := (hbel.cell (p := ⟨b1,off1 + k * 7,none⟩) hb1).trans (hc k hkl).1
   have y1 := (hbel.cell (p := ⟨b1,off1 + k * 7 + 1,none⟩) hb1).trans (hc k hkl).2.1
   have y2 := (hbel.cell (p := ⟨b1,off1 + k * 7 + 2,none⟩) hb1).trans (hc k hkl).2.2.1
   have y3 := (hbel.cell (p := ⟨b1,off1 + k * 7 + 3,none⟩) hb1).trans (hc k hkl).2.2.2.1
   have y4 := (hbel.cell (p := ⟨b1,off1 + k * 7 + 4,none⟩) hb1).trans (hc k hkl).2.2.2.2.1
   have y5 := (hbel.cell (p := ⟨b1,off1 + k * 7 + 5,none⟩) hb1).trans (hc k hkl).2.2.2.2.2.1
   have y6 := (hbel.cell (p := ⟨b1,off1 + k * 7 + 6,none⟩) hb1).trans (hc k hkl).2.2.2.2.2.2
   obtain ⟨D,hown,hD1,hD2⟩ := HM.out
   have hkm : k < (l.map ItemT.name).length := by rw [List.length_map];exact hkl
   have hkey := keyOf_s (HN.out _ (List.getElem_mem hkl))
   have hst := NameMap.step hD1 hD2 hkm hown.isMap (hown.tidy keyLaw)
   rw [List.getElem_map] at hst
   have HSt := Lib.hid hst
   have HNm := Lib.hid (fun W => batItemName l[k] W)
   have hba : Below w.heap.size w (wr.alloc (.cells #[.string l[k].name,.int .i64 l[k].pos,.int .i64 l[k].width,.int .i64 l[k].wt,.int .i64 l[k].hang,.int .i64 l[k].front,.int .i64 l[k].back] 125)) := hbel.alloc hbel.size _
   have hba2 := hba.alloc hba.size (.cells #[.string l[k].name,.int .i64 l[k].pos,.int .i64 l[k].width,.int .i64 l[k].wt,.int .i64 l[k].hang,.int .i64 l[k].front,.int .i64 l[k].back] 125)
   have hown4 := (hown.alloc (.cells #[.string l[k].name,.int .i64 l[k].pos,.int .i64 l[k].width,.int .i64 l[k].wt,.int .i64 l[k].hang,.int .i64 l[k].front,.int .i64 l[k].back] 125)).alloc (.cells #[.string l[k].name,.int .i64 l[k].pos,.int .i64 l[k].width,.int .i64 l[k].wt,.int .i64 l[k].hang,.int .i64 l[k].front,.int .i64 l[k].back] 125)
   have i1 : (0 : Int) ≤ (k : Int) := Int.natCast_nonneg _
   have i2 : (k : Int) < (l.length : Int) := by omega
   clear hc hD1 hD2 hst hown HM
   go_wp2_with (first | (go_at_fn 179;refine (HNm.out _).mono ?_;rintro e w' ⟨rfl,rfl⟩) | (at_mapUpdate;refine wpList_mapUpdate_own _ rfl _ _ _ 264 rfl 9 265 keyLaw Tryz.underlying264 _ w.heap.size k _ rfl hown4 (by unfold maxLen;omega) _ _ _ rfl rfl hkey (.agg []) [] unitElem_mk ?_;intro w5 hown5 hgrow5;have hb5 := hba2.grown hgrow5 hba2.size (fun k hk => by cases hk;exact Nat.le_refl _);have HM5 : Hid (NameMap w5 w.heap.size (l.map ItemT.name) (k + 1)) := ⟨_,hown5,HSt.out.1,HSt.out.2⟩;clear hown5 hgrow5 hown4))
   go_roundw
   case rel => exact ⟨k + 1,by omega,by go_num,HM5,hb5⟩
   case measure => simp [intOf];omega
  ·obtain rfl : k = l.length := by omega
   obtain ⟨D,hown,hD1,hD2⟩ := HM.out
   have HV : Hid (twiceB (l.map ItemT.name) = decide (dnam (l.map ItemT.name) l.length < l.length)) := by unfold Hid twiceB;rw [List.length_map]
   rw [← hD2] at HV
   clear hD1 hD2
   go_wp2_with (at_len;refine wpList_len_own _ rfl _ 264 rfl 9 265 Tryz.underlying264 _ w.heap.size l.length D rfl hown ?_)
   go_ret
   exact ⟨ret_bool HV.out.symm,hbel⟩
set_option maxRecDepth 100000 in
set_option maxHeartbeats 2000000 in
theorem batTwiceBrick (v : Value) (l : List BrickT) (w : World) (hl : BricksAt w w.heap.size v l) (hn : ∀ x ∈ l,x.name.size ≤ maxLen) (_h40 : l.length ≤ 100) :
  Calls Tryz.prog 185 #[v,.func (.func 186) #[] #[]] w fun e w' => e = .returned (.bool (twiceB (l.map BrickT.name))) ∧ Below w.heap.size w w' := by
 obtain ⟨A,c,rfl,hc1,hc2,hcell⟩ := hl.open_
 unfold maxLen at hc2
 have HC := Lib.hid hcell
 have HN := Lib.hid hn
 clear hl hcell hn
 have hmm := @run_makeMap Tryz.prog
 have eg := entersB1
 go_enter Tryz.func185,Tryz.ntmps185
 go_wp2_with fail
 have HM0 : Hid (NameMap (w.alloc (.map #[] 0)) w.heap.size (l.map BrickT.name) 0) := ⟨_,World.ownsMap_made w _ _ _,fun s => by simp [Maps.has],rfl⟩
 have Hbm : Below w.heap.size w (w.alloc (.map #[] 0)) := (Below.refl _ _).alloc (Nat.le_refl _) _
 generalize w.alloc (.map #[] 0) = w2 at *
 go_loopw [11] (fun ix wr => ∃ k : Nat,k ≤ l.length ∧ ix = .int .i64 k ∧ Hid (NameMap wr w.heap.size (l.map BrickT.name) k) ∧ Below w.heap.size w wr) (fun ix _ => l.length - (intOf ix).toNat)
 case atStart => exact ⟨0,Nat.zero_le _,rfl,HM0,Hbm⟩
 case round =>
  clear HM0 Hbm
  obtain ⟨k,hk,rfl,HM,hbel⟩ := hrel
  by_cases hkl : k < l.length
  ·obtain ⟨b1,off1,rfl,hb1,hc⟩ := HC.out k hkl
   have y0 := (hbel.cell (p := ⟨b1,off1 + k * 3,none⟩) hb1).trans (hc k hkl).1
   have y1 := (hbel.cell (p := ⟨b1,off1 + k * 3 + 1,none⟩) hb1).trans (hc k hkl).2.1
   have y2 := (hbel.cell (p := ⟨b1,off1 + k * 3 + 2,none⟩) hb1).trans (hc k hkl).2.2
   obtain ⟨D,hown,hD1,hD2⟩ := HM.out
   have hkm : k < (l.map BrickT.name).length := by rw [List.length_map];exact hkl
   have hkey := keyOf_s (HN.out _ (List.getElem_mem hkl))
   have hst := NameMap.step hD1 hD2 hkm hown.isMap (hown.tidy keyLaw)
   rw [List.getElem_map] at hst
   have HSt := Lib.hid hst
   have HNm := Lib.hid (fun W => batBrickName l[k] W)
   have hba : Below w.heap.size w (wr.alloc (.cells #[.string l[k].name,.int .i64 l[k].wt,.int .i64 l[k].cnt] 127)) := hbel.alloc hbel.size _
   have hba2 := hba.alloc hba.size (.cells #[.string l[k].name,.int .i64 l[k].wt,.int .i64 l[k].cnt] 127)
   have hown4 := (hown.alloc (.cells #[.string l[k].name,.int .i64 l[k].wt,.int .i64 l[k].cnt] 127)).alloc (.cells #[.string l[k].name,.int .i64 l[k].wt,.int .i64 l[k].cnt] 127)
   have i1 : (0 : Int) ≤ (k : Int) := Int.natCast_nonneg _
   have i2 : (k : Int) < (l.length : Int) := by omega
   clear hc hD1 hD2 hst hown HM
   go_wp2_with (first | (go_at_fn 186;refine (HNm.out _).mono ?_;rintro e w' ⟨rfl,rfl⟩) | (at_mapUpdate;refine wpList_mapUpdate_own _ rfl _ _ _ 264 rfl 9 265 keyLaw Tryz.underlying264 _ w.heap.size k _ rfl hown4 (by unfold maxLen;omega) _ _ _ rfl rfl hkey (.agg []) [] unitElem_mk ?_;intro w5 hown5 hgrow5;have hb5 := hba2.grown hgrow5 hba2.size (fun k hk => by cases hk;exact Nat.le_refl _);have HM5 : Hid (NameMap w5 w.heap.size (l.map BrickT.name) (k + 1)) := ⟨_,hown5,HSt.out.1,HSt.out.2⟩;clear hown5 hgrow5 hown4))
   go_roundw
   case rel => exact ⟨k + 1,by omega,by go_num,HM5,hb5⟩
   case measure => simp [intOf];omega
  ·obtain rfl : k = l.length := by omega
   obtain ⟨D,hown,hD1,hD2⟩ := HM.out
   have HV : Hid (twiceB (l.map BrickT.name) = decide (dnam (l.map BrickT.name) l.length < l.length)) := by unfold Hid twiceB;rw [List.length_map]
   rw [← hD2] at HV
   clear hD1 hD2
   go_wp2_with (at_len;refine wpList_len_own _ rfl _ 264 rfl 9 265 Tryz.underlying264 _ w.heap.size l.length D rfl hown ?_)
   go_ret
   exact ⟨ret_bool HV.out.symm,hbel⟩
end Go.Proofs.YtknkhnahflmjiaaGreatDoor

namespace Go.Proofs.YtknkhnahflmjiaaGreatDoor
open Go.RowKit Go.Shelf
def atL (l : List Int) (i : Nat) : Int := l.getD i 0
def incTo (l : List Int) (k : Nat) : Bool := decide (∀ i,i < k → 1 ≤ i → atL l (i - 1) < atL l i)
def linesB (l : List Int) (len : Int) : Bool := betweenB (l.length : Int) 2 10 && (!decide (atL l 0 < 0) && (!decide (len < atL l (l.length - 1)) && incTo l l.length))
theorem incTo_one (l : List Int) : incTo l 1 = true := by unfold incTo;rw [decide_eq_true_iff];intro i h1 h2;omega
theorem incTo_succ {l : List Int} {k : Nat} (h : incTo l k = true) (h1 : atL l (k - 1) < atL l k) : incTo l (k + 1) = true := by
 unfold incTo at *
 rw [decide_eq_true_iff] at *
 intro i hi h2
 rcases Nat.lt_succ_iff_lt_or_eq.1 hi with h3 | rfl
 ·exact h i h3 h2
 ·exact h1
theorem incTo_no {l : List Int} {k n : Nat} (hk : k < n) (h0 : 1 ≤ k) (h1 : ¬ atL l (k - 1) < atL l k) : incTo l n = false := by
 unfold incTo
 rw [decide_eq_false_iff_not]
 exact fun h => h1 (h k hk h0)
set_option maxRecDepth 100000 in
set_option maxHeartbeats 2000000 in
theorem batLines (v : Value) (l : List Int) (len : Int) (B : Nat) (w : World) (hl : IntsAt w B v l) :
  Calls Tryz.prog 128 #[v,.int .i64 len] w fun e w' => e = .returned (.bool (linesB l len)) ∧ ∃ n,w.drewN n = w' := by
 obtain ⟨A,c,rfl,hc1,hc2,hcell⟩ := hl.open_
 unfold maxLen at hc2
 have hbt := fun W => batBetween (l.length : Int) 2 10 W
 rcases Bool.eq_false_or_eq_true (betweenB (l.length : Int) 2 10) with h0 | h0
 rotate_left
 ·have HV : Hid (linesB l len = false) := by unfold Hid linesB;rw [h0];rfl
  rw [h0] at hbt
  clear hl hcell h0
  go_enter Tryz.func128,Tryz.ntmps128
  go_wp2_with (go_at_call 127;refine (hbt _).mono ?_;rintro e w' ⟨rfl,rfl⟩)
  go_ret
  exact ⟨ret_bool HV.out.symm,0,rfl⟩
 obtain ⟨n2,n10⟩ := between_bd h0
 obtain ⟨b,off,rfl,-,hx⟩ := hcell 0 (by omega)
 have HX : Hid (∀ j,j < l.length → w.cell? ⟨b,off + j,none⟩ = some (.int .i64 (atL l j))) := fun j hj => by
  have h := hx j hj
  unfold atL
  rw [List.getD_eq_getElem?_getD,List.getElem?_eq_getElem hj]
  exact h
 have hV0 : linesB l len = (!decide (atL l 0 < 0) && (!decide (len < atL l (l.length - 1)) && incTo l l.length)) := by unfold linesB;rw [h0];rfl
 rw [h0] at hbt
 clear hl hcell hx h0
 have z0 := HX.out 0 (by omega)
 have z1 := HX.out (l.length - 1) (by omega)
 rw [Nat.add_zero] at z0
 have v1 : IntKind.i64.wrap ((l.length : Int) - 1) = (l.length : Int) - 1 := IntWalk.i64_in _ (by omega)
 have i1 : ((l.length : Int) - 1).toNat = l.length - 1 := by omega
 have i2 : (0 : Int) ≤ (l.length : Int) - 1 := by omega
 have i3 : (l.length : Int) - 1 < (l.length : Int) := by omega
 have i4 : (0 : Int) < (l.length : Int) := by omega
 by_cases c1 : atL l 0 < 0
 ·have d1 : decide (atL l 0 < 0) = true := decide_eq_true c1
  have HV : Hid (linesB l len = false) := by unfold Hid;rw [hV0,d1];rfl
  clear hV0
  go_enter Tryz.func128,Tryz.ntmps128
  go_wp2_with (go_at_call 127;refine (hbt _).mono ?_;rintro e w' ⟨rfl,rfl⟩)
  go_ret
  exact ⟨ret_bool HV.out.symm,0,rfl⟩
 have d1 : decide (atL l 0 < 0) = false := decide_eq_false c1
 by_cases c2 : len < atL l (l.length - 1)
 ·have d2 : decide (len < atL l (l.length - 1)) = true := decide_eq_true c2
  have HV : Hid (linesB l len = false) := by unfold Hid;rw [hV0,d1,d2];rfl
  clear hV0
  go_enter Tryz.func128,Tryz.ntmps128
  go_wp2_with (go_at_call 127;refine (hbt _).mono ?_;rintro e w' ⟨rfl,rfl⟩)
  go_ret
  exact ⟨ret_bool HV.out.symm,0,rfl⟩
 have d2 : decide (len < atL l (l.length - 1)) = false := decide_eq_false c2
 have HV : Hid (linesB l len = incTo l l.length) := by unfold Hid;rw [hV0,d1,d2];rfl
 clear hV0
 go_enter Tryz.func128,Tryz.ntmps128
 go_wp2_with (go_at_call 127;refine (hbt _).mono ?_;rintro e w' ⟨rfl,rfl⟩)
 clear z0 z1 v1 i1 i2 i3 d1 d2 c1 c2 hbt
 go_loopw [5] (fun x wr => ∃ k : Nat,1 ≤ k ∧ k ≤ l.length ∧ x = .int .i64 k ∧ Hid (incTo l k = true) ∧ ∃ n,wr = w.drewN n) (fun x _ => l.length - (intOf x).toNat)
 case atStart => exact ⟨1,Nat.le_refl _,by omega,rfl,incTo_one l,0,rfl⟩
 case round =>
  obtain ⟨k,hk1,hk,rfl,HI,n,rfl⟩ := hrel
  by_cases hlt : k < l.length
  ·have z0 := HX.out k hlt
   have z1 := HX.out (k - 1) (by omega)
   have v1 : IntKind.i64.wrap ((k : Int) - 1) = (k : Int) - 1 := IntWalk.i64_in _ (by omega)
   have i1 : ((k : Int) - 1).toNat = k - 1 := by omega
   have i2 : (0 : Int) ≤ (k : Int) - 1 := by omega
   have i3 : (k : Int) - 1 < (l.length : Int) := by omega
   have i5 : (0 : Int) ≤ (k : Int) := by omega
   have i6 : (k : Int) < (l.length : Int) := by omega
   by_cases c1 : atL l k ≤ atL l (k - 1)
   ·have d1 : decide (atL l k ≤ atL l (k - 1)) = true := decide_eq_true c1
    have HV2 : Hid (linesB l len = false) := by unfold Hid;rw [HV.out];exact incTo_no hlt hk1 (by omega)
    go_wp2
    go_quiet (fail)
    go_wp2
    go_ret
    exact ⟨ret_bool HV2.out.symm,q2⟩
   ·have d1 : decide (atL l k ≤ atL l (k - 1)) = false := decide_eq_false c1
    have HI2 := Lib.hid (incTo_succ HI.out (by omega))
    go_wp2
    go_quiet (fail)
    go_wp2
    go_roundw
    case rel => exact ⟨k + 1,by omega,by omega,by go_num,HI2,_,rfl⟩
    case measure => simp [intOf];omega
  ·have hje : k = l.length := by omega
   subst hje
   go_wp2
   go_ret
   exact ⟨ret_bool (by rw [HV.out];exact HI.out.symm),n,rfl⟩
theorem entersI2 : ∀ args w,(callFunc 183 args).run Tryz.prog w = .ok (.enter 183 args) w := enters_of Tryz.func183 (by kernel_rfl) rfl
def PosOk (x : ItemT) : Prop := 0 ≤ x.pos ∧ x.pos ≤ 1048576 ∧ 1 ≤ x.width ∧ x.width ≤ 1048576
set_option maxRecDepth 100000 in
set_option maxHeartbeats 1000000 in
theorem batItems2 (x y : ItemT) (D : Nat) (w : World) (hD : Blk w D 125 #[.string x.name,.int .i64 x.pos,.int .i64 x.width,.int .i64 x.wt,.int .i64 x.hang,.int .i64 x.front,.int .i64 x.back]) (hx : PosOk x) (hy : PosOk y) :
  Calls Tryz.prog 183 #[y.val,.pointer (some ⟨D,0,none⟩)] w fun e w' => e = .returned (.bool (!apartB x y)) ∧ Below w.heap.size w w' := by
 have HA := Lib.hid fun W => batApart x y W hx hy
 have HB : Hid (Below w.heap.size w (w.alloc (.cells #[.string y.name,.int .i64 y.pos,.int .i64 y.width,.int .i64 y.wt,.int .i64 y.hang,.int .i64 y.front,.int .i64 y.back] 125))) := (Below.refl _ _).alloc (Nat.le_refl _) _
 have HY := Lib.hid (Blk.new w 125 #[.string y.name,.int .i64 y.pos,.int .i64 y.width,.int .i64 y.wt,.int .i64 y.hang,.int .i64 y.front,.int .i64 y.back])
 have HX := Lib.hid (hD.below HB.out hD.lt)
 clear hD hx hy
 go_enter Tryz.func183,Tryz.ntmps183
 have x0 := HX.out.cell 0
 have x1 := HX.out.cell 1
 have x2 := HX.out.cell 2
 have x3 := HX.out.cell 3
 have x4 := HX.out.cell 4
 have x5 := HX.out.cell 5
 have x6 := HX.out.cell 6
 have y0 := HY.out.cell 0
 have y1 := HY.out.cell 1
 have y2 := HY.out.cell 2
 have y3 := HY.out.cell 3
 have y4 := HY.out.cell 4
 have y5 := HY.out.cell 5
 have y6 := HY.out.cell 6
 simp only [List.getElem?_toArray,List.getElem?_cons_succ,List.getElem?_cons_zero] at x0 x1 x2 x3 x4 x5 x6 y0 y1 y2 y3 y4 y5 y6
 go_wp2_with (go_at_call 184;refine (HA.out _).mono ?_;rintro e w' ⟨rfl,hb'⟩)
 go_ret
 exact ⟨rfl,HB.out.trans (hb'.mono HB.out.size)⟩
end Go.Proofs.YtknkhnahflmjiaaGreatDoor

namespace Go.Proofs.YtknkhnahflmjiaaGreatDoor
open Go.RowKit Go.Shelf
set_option maxRecDepth 100000 in
set_option maxHeartbeats 400000 in
theorem indexFuncItem (v : Value) (l : List ItemT) (K : Nat) (C : Array Value) (p : ItemT → Bool) (eg : ∀ args w,(callFunc K args).run Tryz.prog w = .ok (.enter K args) w) (w : World) (hl : ItemsAt w w.heap.size v l)
  (hf : ∀ t ∈ l,∀ w',Below w.heap.size w w' → Calls Tryz.prog K (#[t.val] ++ C) w' fun e w'' => e = .returned (.bool (p t)) ∧ Below w'.heap.size w' w'') :
  Calls Tryz.prog 233 #[v,.func (.func K) #[] C] w fun e w' => e = .returned (.int .i64 (idxOf (l.findIdx? p))) ∧ Below w.heap.size w w' := by
 obtain ⟨A,c,rfl,hc1,hc2,hcell⟩ := hl.open_
 unfold maxLen at hc2
 have HF := Lib.hid hf
 clear hf
 go_enter Tryz.func233,Tryz.ntmps233
 go_wp2
 go_loopw [8] (fun x wr => ∃ j : Nat,j ≤ l.length ∧ x = .int .i64 j ∧ (l.take j).findIdx? p = none ∧ Below w.heap.size w wr) (fun x _ => l.length - (intOf x).toNat)
 case atStart => exact ⟨0,Nat.zero_le _,rfl,by simp,Below.refl _ _⟩
 case round =>
  obtain ⟨j,hj,rfl,hnm,hbel⟩ := hrel
  have Hnm := Lib.hid hnm
  clear hnm
  by_cases hlt : j < l.length
  ·obtain ⟨b,off,rfl,hb,hcell⟩ := hcell j hlt
   have h0 := (hbel.cell (p := ⟨b,off + j * 7,none⟩) hb).trans (hcell j hlt).1
   have h1 := (hbel.cell (p := ⟨b,off + j * 7 + 1,none⟩) hb).trans (hcell j hlt).2.1
   have h2 := (hbel.cell (p := ⟨b,off + j * 7 + 2,none⟩) hb).trans (hcell j hlt).2.2.1
   have h3 := (hbel.cell (p := ⟨b,off + j * 7 + 3,none⟩) hb).trans (hcell j hlt).2.2.2.1
   have h4 := (hbel.cell (p := ⟨b,off + j * 7 + 4,none⟩) hb).trans (hcell j hlt).2.2.2.2.1
   have h5 := (hbel.cell (p := ⟨b,off + j * 7 + 5,none⟩) hb).trans (hcell j hlt).2.2.2.2.2.1
   have h6 := (hbel.cell (p := ⟨b,off + j * 7 + 6,none⟩) hb).trans (hcell j hlt).2.2.2.2.2.2
   clear hcell
   have hcall := HF.out l[j] (List.getElem_mem hlt)
   cases hq : p l[j] with
   | true =>
    rw [hq] at hcall
    go_wp2_with (go_at_fn K;refine (hcall _ hbel).mono ?_;rintro e w' ⟨rfl,hb'⟩)
    go_ret
    exact ⟨by rw [find_hit Hnm.out hlt hq];rfl,hbel.trans (hb'.mono hbel.size)⟩
   | false =>
    rw [hq] at hcall
    go_wp2_with (go_at_fn K;refine (hcall _ hbel).mono ?_;rintro e w' ⟨rfl,hb'⟩)
    go_roundw
    case rel => exact ⟨j + 1,by omega,by go_num,find_miss Hnm.out hlt hq,hbel.trans (hb'.mono hbel.size)⟩
    case measure => simp [intOf];omega
  ·have hje : j = l.length := by omega
   subst hje
   go_wp2
   go_ret
   exact ⟨by rw [← List.take_length (l := l),Hnm.out];rfl,hbel⟩
set_option maxHeartbeats 400000 in
theorem containsFuncItem (v : Value) (l : List ItemT) (K : Nat) (C : Array Value) (p : ItemT → Bool) (eg : ∀ args w,(callFunc K args).run Tryz.prog w = .ok (.enter K args) w) (w : World) (hl : ItemsAt w w.heap.size v l)
  (hf : ∀ t ∈ l,∀ w',Below w.heap.size w w' → Calls Tryz.prog K (#[t.val] ++ C) w' fun e w'' => e = .returned (.bool (p t)) ∧ Below w'.heap.size w' w'') :
  Calls Tryz.prog 182 #[v,.func (.func K) #[] C] w fun e w' => e = .returned (.bool (l.any p)) ∧ Below w.heap.size w w' := by
 have hc := indexFuncItem v l K C p eg w hl hf
 have hbd := idx_bd p l
 have HA := Lib.hid (idx_any p l)
 generalize idxOf (l.findIdx? p) = x at *
 clear hf hl
 go_enter Tryz.func182,Tryz.ntmps182
 go_wp2_with (go_at_call 233;refine hc.mono ?_;rintro e w' ⟨rfl,hb'⟩)
 go_ret
 exact ⟨ret_bool HA.out,hb'⟩
end Go.Proofs.YtknkhnahflmjiaaGreatDoor

namespace Go.Proofs.YtknkhnahflmjiaaGreatDoor
open Go.RowKit Go.Shelf
def brickB (x : BrickT) : Bool := nameB x.name && (betweenB x.wt 1 1048576 && betweenB x.cnt 0 60)
def cntTo (l : List BrickT) (k : Nat) : Int := ((l.take k).map BrickT.cnt).sum
def bricksB (l : List BrickT) : Bool := decide (l.length ≤ 8) && (!twiceB (l.map BrickT.name) && (l.all brickB && decide (cntTo l l.length ≤ 60)))
theorem cntTo_succ (l : List BrickT) (k : Nat) (hk : k < l.length) : cntTo l (k + 1) = cntTo l k + l[k].cnt := by
 unfold cntTo
 rw [take_snoc l k hk,List.map_append,List.sum_append]
 simp
theorem all_of_take {α : Type} {p : α → Bool} {l : List α} {k : Nat} (hk : k < l.length) (h : (l.take k).all p = true) (h1 : p l[k] = true) : (l.take (k + 1)).all p = true := by
 rw [take_snoc l k hk,List.all_append,h]
 simp [h1]
theorem all_no {α : Type} {p : α → Bool} {l : List α} {k : Nat} (hk : k < l.length) (h1 : p l[k] = false) : l.all p = false := by
 rw [List.all_eq_false]
 exact ⟨l[k],List.getElem_mem hk,by simp [h1]⟩
theorem cnt_bd {l : List BrickT} {k : Nat} (h : (l.take k).all brickB = true) (hk : k ≤ l.length) : 0 ≤ cntTo l k ∧ cntTo l k ≤ 60 * k := by
 induction k with
 | zero => simp [cntTo]
 | succ k ih =>
  rw [take_snoc l k (by omega),List.all_append,Bool.and_eq_true] at h
  have h1 := ih h.1 (by omega)
  have h2 := h.2
  simp only [List.all_cons,List.all_nil,Bool.and_true] at h2
  unfold brickB at h2
  simp only [Bool.and_eq_true] at h2
  have h3 := between_bd h2.2.2
  rw [cntTo_succ l k (by omega)]
  omega
set_option maxRecDepth 100000 in
set_option maxHeartbeats 4000000 in
theorem batBricks (v : Value) (l : List BrickT) (w : World) (hl : BricksAt w w.heap.size v l) (hn : ∀ x ∈ l,x.name.size ≤ maxLen) :
  Calls Tryz.prog 130 #[v] w fun e w' => e = .returned (.bool (bricksB l)) ∧ Below w.heap.size w w' := by
 have hT := fun h => batTwiceBrick v l w hl hn h
 have HN := Lib.hid hn
 obtain ⟨A,c,rfl,hc1,hc2,hcell⟩ := hl.open_
 unfold maxLen at hc2
 have HC := Lib.hid hcell
 clear hl hcell hn
 by_cases h8 : l.length ≤ 8
 rotate_left
 ·have HV : Hid (bricksB l = false) := by unfold Hid bricksB;rw [decide_eq_false h8];rfl
  have d8 : decide (8 < (l.length : Int)) = true := decide_eq_true (by omega)
  clear hT
  go_enter Tryz.func130,Tryz.ntmps130
  go_wp2_with fail
  go_ret
  exact ⟨ret_bool HV.out.symm,Below.refl _ _⟩
 have d8 : decide (8 < (l.length : Int)) = false := decide_eq_false (by omega)
 have hT := hT (by omega)
 rcases Bool.eq_false_or_eq_true (twiceB (l.map BrickT.name)) with ht | ht
 ·have HV : Hid (bricksB l = false) := by unfold Hid bricksB;rw [ht,Bool.not_true,Bool.false_and,Bool.and_false]
  rw [ht] at hT
  clear ht
  go_enter Tryz.func130,Tryz.ntmps130
  go_wp2_with (go_at_call 185;refine hT.mono ?_;rintro e w' ⟨rfl,hb'⟩)
  go_ret
  exact ⟨ret_bool HV.out.symm,hb'⟩
 have HV : Hid (bricksB l = (l.all brickB && decide (cntTo l l.length ≤ 60))) := by unfold Hid bricksB;rw [ht,decide_eq_true h8];rfl
 rw [ht] at hT
 clear ht
 go_enter Tryz.func130,Tryz.ntmps130
 go_wp2_with (go_at_call 185;refine hT.mono ?_;rintro e w2 ⟨rfl,hb2⟩)
 clear hT d8
 go_loopw [15,3] (fun x s wr => ∃ k : Nat,k ≤ l.length ∧ x = .int .i64 k ∧ s = .int .i64 (cntTo l k) ∧ Hid ((l.take k).all brickB = true) ∧ Below w.heap.size w wr) (fun x _ _ => l.length - (intOf x).toNat)
 case atStart => exact ⟨0,Nat.zero_le _,rfl,rfl,rfl,hb2⟩
 case round =>
  clear hb2
  obtain ⟨k,hk,rfl,rfl,HA,hbel⟩ := hrel
  by_cases hkl : k < l.length
  ·obtain ⟨b1,off1,rfl,hb1,hc⟩ := HC.out k hkl
   have y0 := (hbel.cell (p := ⟨b1,off1 + k * 3,none⟩) hb1).trans (hc k hkl).1
   have y1 := (hbel.cell (p := ⟨b1,off1 + k * 3 + 1,none⟩) hb1).trans (hc k hkl).2.1
   have y2 := (hbel.cell (p := ⟨b1,off1 + k * 3 + 2,none⟩) hb1).trans (hc k hkl).2.2
   have hnk := HN.out _ (List.getElem_mem hkl)
   have hnm := fun W => decIsName l[k].name hnk W
   have hbd := cnt_bd HA.out hk
   have HBk : Hid (brickB l[k] = (nameB l[k].name && (betweenB l[k].wt 1 1048576 && betweenB l[k].cnt 0 60))) := rfl
   have HNo := Lib.hid (fun h : brickB l[k] = false => all_no (p := brickB) hkl h)
   have HYes := Lib.hid (fun h : brickB l[k] = true => all_of_take (p := brickB) hkl HA.out h)
   have HCn := Lib.hid (cntTo_succ l k hkl)
   have hba : Below w.heap.size w (wr.alloc (.cells #[.string l[k].name,.int .i64 l[k].wt,.int .i64 l[k].cnt] 127)) := hbel.alloc hbel.size _
   have i1 : (0 : Int) ≤ (k : Int) := Int.natCast_nonneg _
   have i2 : (k : Int) < (l.length : Int) := by omega
   clear hc hnk
   rcases Bool.eq_false_or_eq_true (nameB l[k].name) with h0 | h0
   rotate_left
   ·have HV2 : Hid (bricksB l = false) := by
     unfold Hid
     rw [HV.out,HNo.out (by rw [HBk.out,h0];rfl)]
     rfl
    go_wp2_with (first | (go_at_call 126;refine (hnm _).mono ?_;rintro e w' ⟨rfl,rfl⟩;rw [h0]) | (go_at_call 127;refine (batBetween _ _ _ _).mono ?_;rintro e w' ⟨rfl,rfl⟩;skip))
    go_ret
    exact ⟨ret_bool HV2.out.symm,hba⟩
   rcases Bool.eq_false_or_eq_true (betweenB l[k].wt 1 1048576) with h1 | h1
   rotate_left
   ·have HV2 : Hid (bricksB l = false) := by
     unfold Hid
     rw [HV.out,HNo.out (by rw [HBk.out,h0,h1];rfl)]
     rfl
    go_wp2_with (first | (go_at_call 126;refine (hnm _).mono ?_;rintro e w' ⟨rfl,rfl⟩;rw [h0]) | (go_at_call 127;refine (batBetween _ _ _ _).mono ?_;rintro e w' ⟨rfl,rfl⟩;try rw [h1]))
    go_ret
    exact ⟨ret_bool HV2.out.symm,hba⟩
   rcases Bool.eq_false_or_eq_true (betweenB l[k].cnt 0 60) with h2 | h2
   rotate_left
   ·have HV2 : Hid (bricksB l = false) := by
     unfold Hid
     rw [HV.out,HNo.out (by rw [HBk.out,h0,h1,h2];rfl)]
     rfl
    go_wp2_with (first | (go_at_call 126;refine (hnm _).mono ?_;rintro e w' ⟨rfl,rfl⟩;rw [h0]) | (go_at_call 127;refine (batBetween _ _ _ _).mono ?_;rintro e w' ⟨rfl,rfl⟩;try rw [h1];try rw [h2]))
    go_ret
    exact ⟨ret_bool HV2.out.symm,hba⟩
   have HA2 := Lib.hid (HYes.out (by rw [HBk.out,h0,h1,h2];rfl))
   have hcb := between_bd h2
   have v1 : IntKind.i64.wrap (cntTo l k + l[k].cnt) = cntTo l k + l[k].cnt := IntWalk.i64_in _ (by omega)
   clear HYes HNo
   go_wp2_with (first | (go_at_call 126;refine (hnm _).mono ?_;rintro e w' ⟨rfl,rfl⟩;rw [h0]) | (go_at_call 127;refine (batBetween _ _ _ _).mono ?_;rintro e w' ⟨rfl,rfl⟩;try rw [h1];try rw [h2]))
   go_roundw
   case rel => exact ⟨k + 1,by omega,by go_num,by rw [HCn.out],HA2,hba⟩
   case measure => simp [intOf];omega
  ·obtain rfl : k = l.length := by omega
   have HV2 : Hid (bricksB l = decide (cntTo l l.length ≤ 60)) := by
    have := HA.out
    rw [List.take_length] at this
    unfold Hid
    rw [HV.out,this]
    rfl
   go_wp2
   go_ret
   exact ⟨ret_bool HV2.out.symm,hbel⟩
end Go.Proofs.YtknkhnahflmjiaaGreatDoor

namespace Go.Proofs.YtknkhnahflmjiaaGreatDoor
open Go.RowKit Go.Shelf
theorem ItemsAt.take {w : World} {B : Nat} {A : Option Addr} {c : Nat} {l : List ItemT} (h : ItemsAt w B (.slice A l.length c) l) {k : Nat} (hk : k ≤ l.length) : ItemsAt w B (.slice A k c) (l.take k) := by
 obtain ⟨A',c',e,h1,h2,h3⟩ := h
 injection e with e1 _ e2
 subst e1 e2
 have hlen : (l.take k).length = k := by rw [List.length_take];omega
 refine ⟨A,c,by rw [hlen],by rw [hlen];omega,h2,fun h0 => ?_⟩
 rw [hlen] at h0
 obtain ⟨b,off,e,hb,hc⟩ := h3 (by omega)
 refine ⟨b,off,e,hb,fun j u hu => hc j u ?_⟩
 have e : l.flatMap ItemT.cells = (l.take k).flatMap ItemT.cells ++ (l.drop k).flatMap ItemT.cells := by rw [← List.flatMap_append,List.take_append_drop]
 rw [e,List.getElem?_append_left (List.getElem?_eq_some_iff.1 hu).1]
 exact hu
def itGood (l : List ItemT) (len : Int) (k : Nat) : Bool :=
 match l[k]? with
 | some x => alone1 x && (inside1 x len && !((l.take k).any fun y => !apartB x y))
 | none => true
def itTo (l : List ItemT) (len : Int) (k : Nat) : Bool := decide (∀ i,i < k → itGood l len i = true)
def itemsB (l : List ItemT) (len : Int) : Bool := decide (l.length ≤ 40) && (!twiceB (l.map ItemT.name) && itTo l len l.length)
theorem itGood_eq {l : List ItemT} {len : Int} {k : Nat} (hk : k < l.length) : itGood l len k = (alone1 l[k] && (inside1 l[k] len && !((l.take k).any fun y => !apartB l[k] y))) := by
 unfold itGood
 rw [List.getElem?_eq_getElem hk]
theorem itTo_no {l : List ItemT} {len : Int} {k : Nat} (hk : k < l.length) (h : itGood l len k = false) : itTo l len l.length = false := by
 unfold itTo
 rw [decide_eq_false_iff_not]
 intro hh
 rw [hh k hk] at h
 cases h
theorem itTo_succ {l : List ItemT} {len : Int} {k : Nat} (h : itTo l len k = true) (h1 : itGood l len k = true) : itTo l len (k + 1) = true := by
 unfold itTo at *
 rw [decide_eq_true_iff] at *
 intro i hi
 rcases Nat.lt_succ_iff_lt_or_eq.1 hi with h2 | rfl
 ·exact h i h2
 ·exact h1
theorem inside_pos {x : ItemT} {len : Int} (h : inside1 x len = true) (hl : len ≤ 1048576) : PosOk x := by
 unfold inside1 at h
 simp only [Bool.and_eq_true,decide_eq_true_eq] at h
 have := between_bd h.2.1
 exact ⟨h.1,by omega,this.1,this.2⟩
theorem itTo_pos {l : List ItemT} {len : Int} {k : Nat} (h : itTo l len k = true) (hk : k ≤ l.length) (hl : len ≤ 1048576) : ∀ y ∈ l.take k,PosOk y := by
 intro y hy
 obtain ⟨i,hi,rfl⟩ := List.getElem_of_mem hy
 rw [List.length_take] at hi
 have hil : i < l.length := by omega
 unfold itTo at h
 rw [decide_eq_true_iff] at h
 have h1 := h i (by omega)
 rw [itGood_eq hil,Bool.and_eq_true,Bool.and_eq_true] at h1
 rw [List.getElem_take]
 exact inside_pos h1.2.1 hl
set_option maxRecDepth 100000 in
set_option maxHeartbeats 4000000 in
theorem batItems (v : Value) (l : List ItemT) (len : Int) (w : World) (hl : ItemsAt w w.heap.size v l) (hn : ∀ x ∈ l,x.name.size ≤ maxLen) (hlen : 1000 ≤ len ∧ len ≤ 1048576) :
  Calls Tryz.prog 129 #[v,.int .i64 len] w fun e w' => e = .returned (.bool (itemsB l len)) ∧ Below w.heap.size w w' := by
 have hT := fun h => batTwiceItem v l w hl hn h
 have HN := Lib.hid hn
 obtain ⟨A,c,rfl,hc1,hc2,hcell⟩ := hl.open_
 have HL := Lib.hid hl
 unfold maxLen at hc2
 have HC := Lib.hid hcell
 have HLen := Lib.hid hlen
 clear hl hcell hn hlen
 by_cases h8 : l.length ≤ 40
 rotate_left
 ·have HV : Hid (itemsB l len = false) := by unfold Hid itemsB;rw [decide_eq_false h8];rfl
  have d8 : decide (40 < (l.length : Int)) = true := decide_eq_true (by omega)
  clear hT
  go_enter Tryz.func129,Tryz.ntmps129
  go_wp2_with fail
  go_ret
  exact ⟨ret_bool HV.out.symm,Below.refl _ _⟩
 have d8 : decide (40 < (l.length : Int)) = false := decide_eq_false (by omega)
 have hT := hT (by omega)
 rcases Bool.eq_false_or_eq_true (twiceB (l.map ItemT.name)) with ht | ht
 ·have HV : Hid (itemsB l len = false) := by unfold Hid itemsB;rw [ht,Bool.not_true,Bool.false_and,Bool.and_false]
  rw [ht] at hT
  clear ht
  go_enter Tryz.func129,Tryz.ntmps129
  go_wp2_with (go_at_call 178;refine hT.mono ?_;rintro e w' ⟨rfl,hb'⟩)
  go_ret
  exact ⟨ret_bool HV.out.symm,hb'⟩
 have HV : Hid (itemsB l len = itTo l len l.length) := by unfold Hid itemsB;rw [ht,decide_eq_true h8];rfl
 rw [ht] at hT
 clear ht
 go_enter Tryz.func129,Tryz.ntmps129
 go_wp2_with (go_at_call 178;refine hT.mono ?_;rintro e w2 ⟨rfl,hb2⟩)
 clear hT d8
 go_loopw [16] (fun x wr => ∃ k : Nat,k ≤ l.length ∧ x = .int .i64 k ∧ Hid (itTo l len k = true) ∧ Below w.heap.size w wr) (fun x _ => l.length - (intOf x).toNat)
 case atStart => exact ⟨0,Nat.zero_le _,rfl,by unfold Hid itTo;simp,hb2⟩
 case round =>
  clear hb2
  obtain ⟨k,hk,rfl,HA,hbel⟩ := hrel
  by_cases hkl : k < l.length
  ·obtain ⟨b1,off1,rfl,hb1,hc⟩ := HC.out k hkl
   have y0 := (hbel.cell (p := ⟨b1,off1 + k * 7,none⟩) hb1).trans (hc k hkl).1
   have y1 := (hbel.cell (p := ⟨b1,off1 + k * 7 + 1,none⟩) hb1).trans (hc k hkl).2.1
   have y2 := (hbel.cell (p := ⟨b1,off1 + k * 7 + 2,none⟩) hb1).trans (hc k hkl).2.2.1
   have y3 := (hbel.cell (p := ⟨b1,off1 + k * 7 + 3,none⟩) hb1).trans (hc k hkl).2.2.2.1
   have y4 := (hbel.cell (p := ⟨b1,off1 + k * 7 + 4,none⟩) hb1).trans (hc k hkl).2.2.2.2.1
   have y5 := (hbel.cell (p := ⟨b1,off1 + k * 7 + 5,none⟩) hb1).trans (hc k hkl).2.2.2.2.2.1
   have y6 := (hbel.cell (p := ⟨b1,off1 + k * 7 + 6,none⟩) hb1).trans (hc k hkl).2.2.2.2.2.2
   have hal := fun W => batAlone l[k] W (HN.out _ (List.getElem_mem hkl))
   have hin := fun W => batInside l[k] len W HLen.out
   have HG := Lib.hid (itGood_eq (len := len) hkl)
   have HNo := Lib.hid (fun h : itGood l len k = false => itTo_no hkl h)
   have HYes := Lib.hid (fun h : itGood l len k = true => itTo_succ HA.out h)
   have hba : Below w.heap.size w (wr.alloc (.cells #[.string l[k].name,.int .i64 l[k].pos,.int .i64 l[k].width,.int .i64 l[k].wt,.int .i64 l[k].hang,.int .i64 l[k].front,.int .i64 l[k].back] 125)) := hbel.alloc hbel.size _
   have HD := Lib.hid (Blk.new wr 125 #[.string l[k].name,.int .i64 l[k].pos,.int .i64 l[k].width,.int .i64 l[k].wt,.int .i64 l[k].hang,.int .i64 l[k].front,.int .i64 l[k].back])
   have i1 : (0 : Int) ≤ (k : Int) := Int.natCast_nonneg _
   have i2 : (k : Int) < (l.length : Int) := by omega
   have i3 : (k : Int) ≤ (c : Int) := by omega
   clear hc
   generalize hW : wr.alloc (.cells #[.string l[k].name,.int .i64 l[k].pos,.int .i64 l[k].width,.int .i64 l[k].wt,.int .i64 l[k].hang,.int .i64 l[k].front,.int .i64 l[k].back] 125) = W3 at *
   rcases Bool.eq_false_or_eq_true (alone1 l[k]) with h0 | h0
   rotate_left
   ·have HV2 : Hid (itemsB l len = false) := by
     unfold Hid
     rw [HV.out,HNo.out (by rw [HG.out,h0];rfl)]
    rw [h0] at hal
    subst hW
    go_wp2_with (go_at_call 180;refine (hal _).mono ?_;rintro e w' ⟨rfl,hb'⟩)
    go_ret
    exact ⟨ret_bool HV2.out.symm,hba.trans (hb'.mono hba.size)⟩
   rw [h0] at hal
   rcases Bool.eq_false_or_eq_true (inside1 l[k] len) with h1 | h1
   rotate_left
   ·have HV2 : Hid (itemsB l len = false) := by
     unfold Hid
     rw [HV.out,HNo.out (by rw [HG.out,h0,h1];rfl)]
    rw [h1] at hin
    clear h0 h1
    subst hW
    go_wp2_with (first | (go_at_call 180;refine (hal _).mono ?_;rintro e w4 ⟨rfl,hb4⟩;have hbx4 := hba.trans (hb4.mono hba.size);have HD4 := Lib.hid (HD.out.below hb4 HD.out.lt);have z0 := HD4.out.cell 0;have z1 := HD4.out.cell 1;have z2 := HD4.out.cell 2;have z3 := HD4.out.cell 3;have z4 := HD4.out.cell 4;have z5 := HD4.out.cell 5;have z6 := HD4.out.cell 6;simp only [List.getElem?_toArray,List.getElem?_cons_succ,List.getElem?_cons_zero] at z0 z1 z2 z3 z4 z5 z6) | (go_at_call 181;refine (hin _).mono ?_;rintro e w5 ⟨rfl,hb5⟩;have hbx5 := hbx4.trans (hb5.mono hbx4.size)))
    go_ret
    exact ⟨ret_bool HV2.out.symm,hbx5⟩
   rw [h1] at hin
   have HPx := Lib.hid (inside_pos h1 HLen.out.2)
   have HPy := Lib.hid (itTo_pos HA.out hk HLen.out.2)
   rcases Bool.eq_false_or_eq_true ((l.take k).any fun y => !apartB l[k] y) with h2 | h2
   ·have HV2 : Hid (itemsB l len = false) := by
     unfold Hid
     rw [HV.out,HNo.out (by rw [HG.out,h0,h1,h2];rfl)]
    have HAny := Lib.hid h2
    clear h0 h1 h2
    subst hW
    go_wp2_with (first | (go_at_call 180;refine (hal _).mono ?_;rintro e w4 ⟨rfl,hb4⟩;have hbx4 := hba.trans (hb4.mono hba.size);have HD4 := Lib.hid (HD.out.below hb4 HD.out.lt);have z0 := HD4.out.cell 0;have z1 := HD4.out.cell 1;have z2 := HD4.out.cell 2;have z3 := HD4.out.cell 3;have z4 := HD4.out.cell 4;have z5 := HD4.out.cell 5;have z6 := HD4.out.cell 6;simp only [List.getElem?_toArray,List.getElem?_cons_succ,List.getElem?_cons_zero] at z0 z1 z2 z3 z4 z5 z6) | (go_at_call 181;refine (hin _).mono ?_;rintro e w5 ⟨rfl,hb5⟩;have hbx5 := hbx4.trans (hb5.mono hbx4.size);have HD5 := Lib.hid (HD4.out.below hb5 HD4.out.lt);have hct := containsFuncItem (.slice (some ⟨b1,off1,none⟩) k c) (l.take k) 183 #[.pointer (some ⟨wr.heap.size,0,none⟩)] (fun y => !apartB l[k] y) entersI2 w5 (((HL.out.take hk).below hbx5 (Nat.le_refl _)).mono hbx5.size) (fun t ht w' hb' => batItems2 l[k] t _ w' (HD5.out.below hb' HD5.out.lt) HPx.out (HPy.out t ht));rw [HAny.out] at hct) | (go_at_call 182;refine hct.mono ?_;rintro e w6 ⟨rfl,hb6⟩;have hbx6 := hbx5.trans (hb6.mono hbx5.size)))
    go_ret
    exact ⟨ret_bool HV2.out.symm,hbx6⟩
   ·have HA2 := Lib.hid (HYes.out (by rw [HG.out,h0,h1,h2];rfl))
    have HAny := Lib.hid h2
    clear h0 h1 h2
    subst hW
    go_wp2_with (first | (go_at_call 180;refine (hal _).mono ?_;rintro e w4 ⟨rfl,hb4⟩;have hbx4 := hba.trans (hb4.mono hba.size);have HD4 := Lib.hid (HD.out.below hb4 HD.out.lt);have z0 := HD4.out.cell 0;have z1 := HD4.out.cell 1;have z2 := HD4.out.cell 2;have z3 := HD4.out.cell 3;have z4 := HD4.out.cell 4;have z5 := HD4.out.cell 5;have z6 := HD4.out.cell 6;simp only [List.getElem?_toArray,List.getElem?_cons_succ,List.getElem?_cons_zero] at z0 z1 z2 z3 z4 z5 z6) | (go_at_call 181;refine (hin _).mono ?_;rintro e w5 ⟨rfl,hb5⟩;have hbx5 := hbx4.trans (hb5.mono hbx4.size);have HD5 := Lib.hid (HD4.out.below hb5 HD4.out.lt);have hct := containsFuncItem (.slice (some ⟨b1,off1,none⟩) k c) (l.take k) 183 #[.pointer (some ⟨wr.heap.size,0,none⟩)] (fun y => !apartB l[k] y) entersI2 w5 (((HL.out.take hk).below hbx5 (Nat.le_refl _)).mono hbx5.size) (fun t ht w' hb' => batItems2 l[k] t _ w' (HD5.out.below hb' HD5.out.lt) HPx.out (HPy.out t ht));rw [HAny.out] at hct) | (go_at_call 182;refine hct.mono ?_;rintro e w6 ⟨rfl,hb6⟩;have hbx6 := hbx5.trans (hb6.mono hbx5.size)))
    go_roundw
    case rel => exact ⟨k + 1,by omega,by go_num,HA2,hbx6⟩
    case measure => simp [intOf];omega
  ·obtain rfl : k = l.length := by omega
   go_wp2
   go_ret
   exact ⟨ret_bool (by rw [HV.out];exact HA.out.symm),hbel⟩
end Go.Proofs.YtknkhnahflmjiaaGreatDoor
