/- Parts of the proof, laid into one text: RoofP, SlR, GridA. -/
import Derived.BigQuiet
import Derived.Deep.AppendLies
import Derived.Deep.DeepCutAuto
import Derived.Deep.Draws
import Derived.Deep.LoopGhost
import Derived.Deep.QuietTactic
import Derived.Laws.Bits64b
import Derived.Lib.Hide
import Derived.LoopIn
import Derived.LoopNIn
import Derived.Maps.AppendAt
import Derived.Outline
import Derived.OwnWalkIn
import Derived.PlainAid
import Derived.RangeFuncBox
import Derived.RangeFuncLeaves
import Derived.Shelf.Abstract
import Derived.StillTail
import Derived.StillTailTactics
import Derived.TacticsInMore
import Derived.Test.YtknkhnahflmjiaaGreatDoorB1
import Derived.Test.YtknkhnahflmjiaaGreatDoorE1
import Derived.Test.YtknkhnahflmjiaaGreatDoorE2
import Derived.Test.YtknkhnahflmjiaaGreatDoorE3
import Derived.Test.YtknkhnahflmjiaaGreatDoorE4
import Derived.Test.YtknkhnahflmjiaaGreatDoorE6
import Derived.Test.YtknkhnahflmjiaaGreatDoorE7
import Derived.Test.YtknkhnahflmjiaaGreatDoorF1
import Derived.Test.YtknkhnahflmjiaaGreatDoorProg
import Derived.WalkKit
import Derived.WalkLawsBesides
import Derived.WalkSpells

namespace Go.Proofs.YtknkhnahflmjiaaGreatDoor
open Go.RowKit Go.Shelf
structure RoofT where
 name : ByteArray
 lo : Int
 hi : Int
 most : Int
deriving DecidableEq
def RoofT.cells (x : RoofT) : List Value := [.string x.name,.int .i64 x.lo,.int .i64 x.hi,.int .i64 x.most]
abbrev RoofT.val (x : RoofT) : Value := .agg #[.string x.name,.int .i64 x.lo,.int .i64 x.hi,.int .i64 x.most]
def RoofsAt (w : World) (B : Nat) (v : Value) (l : List RoofT) : Prop := Flat w B v l.length (l.flatMap RoofT.cells)
theorem RoofsAt.below {w w' : World} {B B' : Nat} {v : Value} {l : List RoofT} (h : RoofsAt w B v l) (hb : Below B' w w') (hB : B ≤ B') : RoofsAt w' B v l := Flat.below h hb hB
theorem RoofsAt.mono {w : World} {B B' : Nat} {v : Value} {l : List RoofT} (h : RoofsAt w B v l) (hB : B ≤ B') : RoofsAt w B' v l := Flat.mono h hB
theorem RoofsAt.grow {w w' : World} {v : Value} {l : List RoofT} (h : RoofsAt w w.heap.size v l) (hb : Below w.heap.size w w') : RoofsAt w' w'.heap.size v l := (h.below hb (Nat.le_refl _)).mono hb.size
theorem RoofsAt.open_ {w : World} {B : Nat} {v : Value} {l : List RoofT} (h : RoofsAt w B v l) :
  ∃ A c,v = .slice A l.length c ∧ l.length ≤ c ∧ c ≤ maxLen ∧ ∀ k (_ : k < l.length),∃ b off,A = some ⟨b,off,none⟩ ∧ b < B ∧ ∀ j (hj : j < l.length),
   w.cell? ⟨b,off + j * 4,none⟩ = some (.string l[j].name) ∧ w.cell? ⟨b,off + j * 4 + 1,none⟩ = some (.int .i64 l[j].lo) ∧ w.cell? ⟨b,off + j * 4 + 2,none⟩ = some (.int .i64 l[j].hi) ∧ w.cell? ⟨b,off + j * 4 + 3,none⟩ = some (.int .i64 l[j].most) := by
 obtain ⟨A,c,h1,h2,h3,h4⟩ := h
 refine ⟨A,c,h1,h2,h3,fun k hk => ?_⟩
 obtain ⟨b,off,e,hlt,hc⟩ := h4 (by omega)
 refine ⟨b,off,e,hlt,fun j hj => ?_⟩
 have f := fun (i : Nat) (hi : i < 4) u (hu : l[j].cells[i]? = some u) => hc (j * 4 + i) u ((flatGet RoofT.cells 4 (fun _ => rfl) l j i hj hi).trans hu)
 have g := fun (i : Nat) (hi : i < 4) u (hu : l[j].cells[i]? = some u) => (congrArg (fun o => w.cell? ⟨b,o,none⟩) (Nat.add_assoc off (j * 4) i)).trans (f i hi u hu)
 exact ⟨g 0 (by omega) _ rfl,g 1 (by omega) _ rfl,g 2 (by omega) _ rfl,g 3 (by omega) _ rfl⟩
def hangB (d : Int) (x : RoofT) : Bool := decide (x.lo ≤ d) && decide (d ≤ x.hi)
def cntR (l : List RoofT) (d : Int) : Nat := l.countP (hangB d)
def hungTo (l : List RoofT) (d : Int) (k : Nat) : Nat := (l.take k).countP (hangB d)
theorem hungTo_all (l : List RoofT) (d : Int) : hungTo l d l.length = cntR l d := by unfold hungTo cntR;rw [List.take_length]
theorem hungTo_yes {l : List RoofT} {d : Int} {k : Nat} (hk : k < l.length) (h : hangB d l[k] = true) : hungTo l d (k + 1) = hungTo l d k + 1 := by
 unfold hungTo
 rw [take_snoc l k hk,List.countP_append,List.countP_singleton,h]
 rfl
theorem hungTo_no {l : List RoofT} {d : Int} {k : Nat} (hk : k < l.length) (h : hangB d l[k] = false) : hungTo l d (k + 1) = hungTo l d k := by
 unfold hungTo
 rw [take_snoc l k hk,List.countP_append,List.countP_singleton,h]
 rfl
theorem hungTo_le (l : List RoofT) (d : Int) (k : Nat) : hungTo l d k ≤ k := Nat.le_trans List.countP_le_length (by rw [List.length_take];omega)
theorem cntR_le (l : List RoofT) (d : Int) : cntR l d ≤ l.length := List.countP_le_length
def roofNums (x : RoofT) : Bool := decide (0 ≤ x.lo) && (decide (x.lo ≤ x.hi) && (decide (x.hi ≤ 1048576) && (decide (0 ≤ x.most) && decide (x.most ≤ 67108864))))
def roofTwice (l : List RoofT) (k : Nat) : Bool := (l.take k).any fun x => decide (some x.name = (l[k]?).map RoofT.name)
def roof1 (nm : ByteArray → Bool) (l : List RoofT) (k : Nat) : Bool := match l[k]? with
 | none => true
 | some x => nm x.name && (roofNums x && !roofTwice l k)
def roofsTo (nm : ByteArray → Bool) (l : List RoofT) : Nat → Bool
 | 0 => true
 | k + 1 => roofsTo nm l k && roof1 nm l k
def roofsB (nm : ByteArray → Bool) (l : List RoofT) : Bool := decide (l.length ≤ 20) && roofsTo nm l l.length
theorem roofsTo_no {nm : ByteArray → Bool} {l : List RoofT} {k : Nat} (h : roof1 nm l k = false) : ∀ d,roofsTo nm l (k + 1 + d) = false
 | 0 => by show (roofsTo nm l k && roof1 nm l k) = false;rw [h,Bool.and_false]
 | d + 1 => by
  have := roofsTo_no h d
  show (roofsTo nm l (k + 1 + d) && roof1 nm l (k + 1 + d)) = false
  rw [this,Bool.false_and]
theorem roofs_no {nm : ByteArray → Bool} {l : List RoofT} {k : Nat} (hk : k < l.length) (h : roof1 nm l k = false) : roofsB nm l = false := by
 have := roofsTo_no h (l.length - (k + 1))
 rw [show k + 1 + (l.length - (k + 1)) = l.length by omega] at this
 unfold roofsB
 rw [this,Bool.and_false]
theorem roofsTo_get {nm : ByteArray → Bool} {l : List RoofT} : ∀ {k i : Nat},roofsTo nm l k = true → i < k → roof1 nm l i = true
 | 0,_,_,h => by omega
 | k + 1,i,h,hi => by
  unfold roofsTo at h
  rw [Bool.and_eq_true] at h
  rcases Nat.lt_or_ge i k with h1 | h1
  ·exact roofsTo_get h.1 h1
  ·obtain rfl : i = k := by omega
   exact h.2
structure RoofOk (x : RoofT) : Prop where
 lo0 : 0 ≤ x.lo
 lohi : x.lo ≤ x.hi
 hi1 : x.hi ≤ 1048576
 most0 : 0 ≤ x.most
 most1 : x.most ≤ 67108864
theorem roofNums_ok {x : RoofT} (h : roofNums x = true) : RoofOk x := by
 unfold roofNums at h
 simp only [Bool.and_eq_true,decide_eq_true_eq] at h
 exact ⟨h.1,h.2.1,h.2.2.1,h.2.2.2.1,h.2.2.2.2⟩
theorem roofs_ok {nm : ByteArray → Bool} {l : List RoofT} (h : roofsB nm l = true) : l.length ≤ 20 ∧ ∀ x ∈ l,RoofOk x ∧ nm x.name = true := by
 unfold roofsB at h
 simp only [Bool.and_eq_true,decide_eq_true_eq] at h
 refine ⟨h.1,fun x hx => ?_⟩
 obtain ⟨i,hi,rfl⟩ := List.mem_iff_getElem.1 hx
 have h1 := roofsTo_get h.2 hi
 unfold roof1 at h1
 rw [List.getElem?_eq_getElem hi] at h1
 simp only [Bool.and_eq_true] at h1
 exact ⟨roofNums_ok h1.2.1,h1.1⟩
def loadB (x : LoadT) : Bool := decide (0 ≤ x.pos) && (decide (x.pos ≤ 1048576) && (decide (0 ≤ x.wt) && decide (x.wt ≤ 67108864)))
def loadsB (at_ : List LoadT) : Bool := decide (at_.length ≤ 1000) && at_.all loadB
def giveB (nm : ByteArray → Bool) (l : List RoofT) (at_ : List LoadT) : Bool := roofsB nm l && loadsB at_
theorem loads_ok {at_ : List LoadT} (h : loadsB at_ = true) : at_.length ≤ 1000 ∧ ∀ x ∈ at_,0 ≤ x.pos ∧ x.pos ≤ 1048576 ∧ 0 ≤ x.wt ∧ x.wt ≤ 67108864 := by
 unfold loadsB at h
 simp only [Bool.and_eq_true,decide_eq_true_eq,List.all_eq_true] at h
 refine ⟨h.1,fun x hx => ?_⟩
 have := h.2 x hx
 unfold loadB at this
 simp only [Bool.and_eq_true,decide_eq_true_eq] at this
 exact ⟨this.1,this.2.1,this.2.2.1,this.2.2.2⟩
def shareQ (l : List RoofT) (x : LoadT) : Rat := mkRat x.wt (cntR l x.pos)
def bearTo (l : List RoofT) (at_ : List LoadT) (r : RoofT) : Nat → Rat
 | 0 => 0
 | k + 1 => match at_[k]? with
  | none => bearTo l at_ r k
  | some x => if hangB x.pos r = true then bearTo l at_ r k + shareQ l x else bearTo l at_ r k
def fitTo (l : List RoofT) (at_ : List LoadT) (r : RoofT) (k : Nat) : Bool := (List.range (k + 1)).all fun j => fracOk (bearTo l at_ r j)
theorem bear_yes {l : List RoofT} {at_ : List LoadT} {r : RoofT} {k : Nat} (hk : k < at_.length) (h : hangB at_[k].pos r = true) : bearTo l at_ r (k + 1) = bearTo l at_ r k + shareQ l at_[k] := by
 show (match at_[k]? with | none => bearTo l at_ r k | some x => if hangB x.pos r = true then bearTo l at_ r k + shareQ l x else bearTo l at_ r k) = _
 rw [List.getElem?_eq_getElem hk]
 exact if_pos h
theorem bear_no {l : List RoofT} {at_ : List LoadT} {r : RoofT} {k : Nat} (hk : k < at_.length) (h : hangB at_[k].pos r = false) : bearTo l at_ r (k + 1) = bearTo l at_ r k := by
 show (match at_[k]? with | none => bearTo l at_ r k | some x => if hangB x.pos r = true then bearTo l at_ r k + shareQ l x else bearTo l at_ r k) = _
 rw [List.getElem?_eq_getElem hk]
 exact if_neg (by rw [h];decide)
theorem fitTo_zero (l : List RoofT) (at_ : List LoadT) (r : RoofT) : fitTo l at_ r 0 = true := by
 show (List.all [0] fun j => fracOk (bearTo l at_ r j)) = true
 rw [List.all_cons,List.all_nil,Bool.and_true]
 show fracOk 0 = true
 decide
theorem fitTo_succ (l : List RoofT) (at_ : List LoadT) (r : RoofT) (k : Nat) : fitTo l at_ r (k + 1) = (fitTo l at_ r k && fracOk (bearTo l at_ r (k + 1))) := by
 unfold fitTo
 rw [List.range_succ,List.all_append,List.all_cons,List.all_nil,Bool.and_true]
theorem fitTo_ok {l : List RoofT} {at_ : List LoadT} {r : RoofT} {k : Nat} (h : fitTo l at_ r k = true) : fracOk (bearTo l at_ r k) = true := by
 unfold fitTo at h
 rw [List.all_eq_true] at h
 exact h k (by simp)
theorem fitTo_le {l : List RoofT} {at_ : List LoadT} {r : RoofT} {k : Nat} (h : fitTo l at_ r k = false) : ∀ d,fitTo l at_ r (k + d) = false
 | 0 => h
 | d + 1 => by rw [← Nat.add_assoc,fitTo_succ,fitTo_le h d,Bool.false_and]
theorem fitTo_no {l : List RoofT} {at_ : List LoadT} {r : RoofT} {k n : Nat} (h : fitTo l at_ r k = false) (hk : k ≤ n) : fitTo l at_ r n = false := by
 have := fitTo_le h (n - k)
 rwa [show k + (n - k) = n by omega] at this
def noneB (l : List RoofT) (at_ : List LoadT) : Bool := at_.any fun x => decide (cntR l x.pos = 0)
def borneE (l : List RoofT) (at_ : List LoadT) : Int := if noneB l at_ = true then 12 else if (l.all fun r => fitTo l at_ r at_.length) = true then 0 else 5
def borneL (l : List RoofT) (at_ : List LoadT) : List FrT := l.map fun r => frOf (bearTo l at_ r at_.length)
def gridE (nm : ByteArray → Bool) (l : List RoofT) (at_ : List LoadT) : Int := if giveB nm l at_ = true then borneE l at_ else 1
theorem borneE_none {l : List RoofT} {at_ : List LoadT} {k : Nat} (hk : k < at_.length) (h : cntR l at_[k].pos = 0) : borneE l at_ = 12 := by
 unfold borneE noneB
 rw [if_pos]
 rw [List.any_eq_true]
 exact ⟨_,List.getElem_mem hk,decide_eq_true h⟩
theorem borneE_big {l : List RoofT} {at_ : List LoadT} (h0 : noneB l at_ = false) {i k : Nat} (hi : i < l.length) (hk : k ≤ at_.length) (h : fitTo l at_ l[i] k = false) : borneE l at_ = 5 := by
 unfold borneE
 rw [if_neg (by rw [h0];decide),if_neg]
 intro h2
 rw [List.all_eq_true] at h2
 have := h2 _ (List.getElem_mem hi)
 rw [fitTo_no h hk] at this
 cases this
theorem borneE_zero {l : List RoofT} {at_ : List LoadT} (h0 : noneB l at_ = false) (h : ∀ i (hi : i < l.length),fitTo l at_ l[i] at_.length = true) : borneE l at_ = 0 := by
 unfold borneE
 rw [if_neg (by rw [h0];decide),if_pos]
 rw [List.all_eq_true]
 intro r hr
 obtain ⟨i,hi,rfl⟩ := List.mem_iff_getElem.1 hr
 exact h i hi
theorem noneB_no {l : List RoofT} {at_ : List LoadT} (h : ∀ k (hk : k < at_.length),cntR l at_[k].pos ≠ 0) : noneB l at_ = false := by
 cases h2 : noneB l at_ with
 | false => rfl
 | true =>
  unfold noneB at h2
  rw [List.any_eq_true] at h2
  obtain ⟨x,hx,hx2⟩ := h2
  obtain ⟨k,hk,rfl⟩ := List.mem_iff_getElem.1 hx
  exact absurd (of_decide_eq_true hx2) (h k hk)
theorem borne_ok {l : List RoofT} {at_ : List LoadT} (h : borneE l at_ = 0) : noneB l at_ = false ∧ ∀ r ∈ l,fracOk (bearTo l at_ r at_.length) = true := by
 unfold borneE at h
 split at h
 ·exact absurd h (by decide)
 ·rename_i h1
  split at h
  ·rename_i h2
   rw [List.all_eq_true] at h2
   exact ⟨by simpa using h1,fun r hr => fitTo_ok (h2 r hr)⟩
  ·exact absurd h (by decide)
end Go.Proofs.YtknkhnahflmjiaaGreatDoor

namespace Go.Proofs.YtknkhnahflmjiaaGreatDoor
open Go.RowKit Go.Shelf
set_option maxRecDepth 100000 in
set_option maxHeartbeats 400000 in
theorem indexFuncRoof (v : Value) (l : List RoofT) (K : Nat) (C : Array Value) (p : RoofT → Bool) (eg : ∀ args w,(callFunc K args).run Tryz.prog w = .ok (.enter K args) w) (w : World) (hl : RoofsAt w w.heap.size v l)
  (hf : ∀ t ∈ l,∀ w',Below w.heap.size w w' → Calls Tryz.prog K (#[t.val] ++ C) w' fun e w'' => e = .returned (.bool (p t)) ∧ Below w'.heap.size w' w'') :
  Calls Tryz.prog 77 #[v,.func (.func K) #[] C] w fun e w' => e = .returned (.int .i64 (idxOf (l.findIdx? p))) ∧ Below w.heap.size w w' := by
 obtain ⟨A,c,rfl,hc1,hc2,hcell⟩ := hl.open_
 unfold maxLen at hc2
 have HF := Lib.hid hf
 clear hf
 go_enter Tryz.func77,Tryz.ntmps77
 go_wp2
 go_loopw [8] (fun x wr => ∃ j : Nat,j ≤ l.length ∧ x = .int .i64 j ∧ (l.take j).findIdx? p = none ∧ Below w.heap.size w wr) (fun x _ => l.length - (intOf x).toNat)
 case atStart => exact ⟨0,Nat.zero_le _,rfl,by simp,Below.refl _ _⟩
 case round =>
  obtain ⟨j,hj,rfl,hnm,hbel⟩ := hrel
  have Hnm := Lib.hid hnm
  clear hnm
  by_cases hlt : j < l.length
  ·obtain ⟨b,off,rfl,hb,hcell⟩ := hcell j hlt
   have h0 := (hbel.cell (p := ⟨b,off + j * 4,none⟩) hb).trans (hcell j hlt).1
   have h1 := (hbel.cell (p := ⟨b,off + j * 4 + 1,none⟩) hb).trans (hcell j hlt).2.1
   have h2 := (hbel.cell (p := ⟨b,off + j * 4 + 2,none⟩) hb).trans (hcell j hlt).2.2.1
   have h3 := (hbel.cell (p := ⟨b,off + j * 4 + 3,none⟩) hb).trans (hcell j hlt).2.2.2
   clear hcell
   have hcall := HF.out l[j] (List.getElem_mem hlt)
   cases hq : p l[j] with
   | true =>
    rw [hq] at hcall
    go_wp2_with (go_at_fn K;refine (hcall _ hbel).mono ?_;rintro e w' ⟨rfl,hb'⟩)
    go_ret
    exact ⟨by rw [find_hit Hnm.out hlt hq];rfl,hbel.trans (hb'.mono hbel.size)⟩
   | false =>
    rw [hq] at hcall
    go_wp2_with (go_at_fn K;refine (hcall _ hbel).mono ?_;rintro e w' ⟨rfl,hb'⟩)
    go_roundw
    case rel => exact ⟨j + 1,by omega,by go_num,find_miss Hnm.out hlt hq,hbel.trans (hb'.mono hbel.size)⟩
    case measure => simp [intOf];omega
  ·have hje : j = l.length := by omega
   subst hje
   go_wp2
   go_ret
   exact ⟨by rw [← List.take_length (l := l),Hnm.out];rfl,hbel⟩
set_option maxHeartbeats 400000 in
theorem containsFuncRoof (v : Value) (l : List RoofT) (K : Nat) (C : Array Value) (p : RoofT → Bool) (eg : ∀ args w,(callFunc K args).run Tryz.prog w = .ok (.enter K args) w) (w : World) (hl : RoofsAt w w.heap.size v l)
  (hf : ∀ t ∈ l,∀ w',Below w.heap.size w w' → Calls Tryz.prog K (#[t.val] ++ C) w' fun e w'' => e = .returned (.bool (p t)) ∧ Below w'.heap.size w' w'') :
  Calls Tryz.prog 32 #[v,.func (.func K) #[] C] w fun e w' => e = .returned (.bool (l.any p)) ∧ Below w.heap.size w w' := by
 have hc := indexFuncRoof v l K C p eg w hl hf
 have hbd := idx_bd p l
 have HA := Lib.hid (idx_any p l)
 generalize idxOf (l.findIdx? p) = x at *
 clear hf hl
 go_enter Tryz.func32,Tryz.ntmps32
 go_wp2_with (go_at_call 77;refine hc.mono ?_;rintro e w' ⟨rfl,hb'⟩)
 go_ret
 exact ⟨ret_bool HA.out,hb'⟩
end Go.Proofs.YtknkhnahflmjiaaGreatDoor

namespace Go.Proofs.YtknkhnahflmjiaaGreatDoor
open Go.RowKit Go.Shelf
theorem gdWithin (n : Int) (w : World) : Calls Tryz.prog 159 #[.int .i64 n] w fun e w' => e = .returned (.bool (decide (0 ≤ n) && decide (n ≤ 1048576))) ∧ w = w' := by
 by_cases c0 : 0 ≤ n
 ·have d0 : decide ((0 : Int) ≤ n) = true := decide_eq_true c0
  obtain ⟨q,hq⟩ : ∃ q,decide (n ≤ 1048576) = q := ⟨_,rfl⟩
  rw [d0,hq]
  clear c0
  cases q
  all_goals
   go_enter Tryz.func159,Tryz.ntmps159
   go_wp2_with fail
   go_ret
   exact ⟨rfl,rfl⟩
 ·have d0 : decide ((0 : Int) ≤ n) = false := decide_eq_false c0
  rw [d0]
  clear c0
  go_enter Tryz.func159,Tryz.ntmps159
  go_wp2_with fail
  go_ret
  exact ⟨rfl,rfl⟩
theorem gdIsName (s : ByteArray) (hs : s.size ≤ maxLen) (w : World) : Calls Tryz.prog 214 #[.string s] w fun e w' => e = .returned (.bool (nameB s)) ∧ w = w' := by
 have hd := decIsName s hs w
 go_enter Tryz.func214,Tryz.ntmps214
 go_wp2_with (go_at_call 126;refine hd.mono ?_;rintro e w' ⟨rfl,rfl⟩)
 go_ret
 exact ⟨rfl,rfl⟩
theorem gdOf (m : Int) (w : World) : Calls Tryz.prog 83 #[.int .i64 m] w fun e w' => e = .returned (.agg #[.int .i64 m,.int .i64 1]) ∧ Below w.heap.size w w' := by
 go_enter Tryz.func83,Tryz.ntmps83
 go_wp2_with fail
 refine bodyPost_ret (v := .agg #[.int .i64 m,.int .i64 1]) (by simp [results,Tryz.results83,go_sem]) rfl ?_
 exact ⟨rfl,(Below.refl _ _).alloc (Nat.le_refl _) _⟩
theorem entersGV1 : ∀ args w,(callFunc 215 args).run Tryz.prog w = .ok (.enter 215 args) w := enters_of Tryz.func215 (by kernel_rfl) rfl
theorem gdValid1 (x y : RoofT) (g : Nat) (w : World) (hg : w.cell? ⟨g,0,none⟩ = some (.string y.name)) (hlt : g < w.heap.size) : Calls Tryz.prog 215 #[x.val,.pointer (some ⟨g,0,none⟩)] w fun e w' => e = .returned (.bool (decide (x.name = y.name))) ∧ Below w.heap.size w w' := by
 obtain ⟨nm,lo,hi,most⟩ := x
 obtain ⟨ny,_,_,_⟩ := y
 simp only at *
 have HB := (Below.refl w.heap.size w).alloc (Nat.le_refl _) (.cells #[.string nm,.int .i64 lo,.int .i64 hi,.int .i64 most] 69)
 have hg' := (HB.cell (p := ⟨g,0,none⟩) hlt).trans hg
 have y0 := (Blk.new w 69 #[.string nm,.int .i64 lo,.int .i64 hi,.int .i64 most]).cell 0
 simp only [List.getElem?_toArray,List.getElem?_cons_zero] at y0
 clear hg
 go_enter Tryz.func215,Tryz.ntmps215
 go_wp2_with fail
 go_ret
 exact ⟨ret_bool (str_beq _ _),HB⟩
set_option maxRecDepth 100000 in
set_option maxHeartbeats 4000000 in
theorem gdValid (v : Value) (l : List RoofT) (w : World) (hv : RoofsAt w w.heap.size v l) (hn : ∀ x ∈ l,x.name.size ≤ maxLen) :
  Calls Tryz.prog 156 #[v] w fun e w' => e = .returned (.bool (roofsB nameB l)) ∧ Below w.heap.size w w' := by
 obtain ⟨A,c,rfl,hc1,hc2,hcell⟩ := hv.open_
 unfold maxLen at hc2
 have HV := Lib.hid hv
 have HC := Lib.hid hcell
 have Hn := Lib.hid hn
 by_cases h20 : 20 < l.length
 ·have d20 : decide ((20 : Int) < (l.length : Int)) = true := decide_eq_true (by omega)
  have HE : Hid (roofsB nameB l = false) := by unfold Hid roofsB;rw [decide_eq_false (by omega),Bool.false_and]
  clear h20 hv hcell hn
  go_enter Tryz.func156,Tryz.ntmps156
  go_wp2_with fail
  go_ret
  exact ⟨ret_bool HE.out.symm,Below.refl _ _⟩
 have d20 : decide ((20 : Int) < (l.length : Int)) = false := decide_eq_false (by omega)
 have H20 := Lib.hid h20
 clear h20 hv hcell hn
 go_enter Tryz.func156,Tryz.ntmps156
 go_wp2_with fail
 go_loopw [10] (fun ix wr => ∃ k : Nat,k ≤ l.length ∧ ix = .int .i64 k ∧ Hid (roofsTo nameB l k = true) ∧ Hid (Below w.heap.size w wr)) (fun ix _ => l.length - (intOf ix).toNat)
 case atStart => exact ⟨0,Nat.zero_le _,rfl,rfl,Below.refl _ _⟩
 case round =>
  obtain ⟨k,hk,rfl,HT,HB⟩ := hrel
  have k0 : (0 : Int) ≤ (k : Int) := Int.natCast_nonneg _
  by_cases hkl : k < l.length
  rotate_left
  ·obtain rfl : k = l.length := by omega
   have HE : Hid (roofsB nameB l = true) := by
    have := H20.out
    unfold Hid roofsB
    rw [HT.out,decide_eq_true (by omega)]
    rfl
   go_wp2_with fail
   go_ret
   exact ⟨ret_bool HE.out.symm,HB.out⟩
  have k1 : (k : Int) < (l.length : Int) := by omega
  obtain ⟨b,o,rfl,hb,hcs⟩ := HC.out k hkl
  obtain ⟨x0,x1,x2,x3⟩ := hcs k hkl
  have x0 := (HB.out.cell (p := ⟨b,o + k * 4,none⟩) hb).trans x0
  have x1 := (HB.out.cell (p := ⟨b,o + k * 4 + 1,none⟩) hb).trans x1
  have x2 := (HB.out.cell (p := ⟨b,o + k * 4 + 2,none⟩) hb).trans x2
  have x3 := (HB.out.cell (p := ⟨b,o + k * 4 + 3,none⟩) hb).trans x3
  have hnk := Hn.out _ (List.getElem_mem hkl)
  have HNo : Hid (roof1 nameB l k = false → roofsB nameB l = false) := fun h => roofs_no hkl h
  have HR1 : Hid (roof1 nameB l k = (nameB l[k].name && (roofNums l[k] && !(l.take k).any fun x => decide (x.name = l[k].name)))) := by
   unfold Hid roof1 roofTwice
   rw [List.getElem?_eq_getElem hkl]
   simp only [Option.map_some,Option.some.injEq]
  have HTk : Hid (∀ W,Below w.heap.size w W → RoofsAt W W.heap.size (.slice (some ⟨b,o,none⟩) k c) (l.take k)) := fun W hbW => by
   have h := (HV.out.below hbW (Nat.le_refl _)).mono hbW.size
   obtain ⟨A2,c2,e,g1,g2,g3⟩ := h
   injection e with e1 _ e2
   subst e1 e2
   have hl : (l.take k).length = k := by rw [List.length_take];omega
   refine ⟨some ⟨b,o,none⟩,c,by rw [hl],by omega,g2,fun hn0 => ?_⟩
   obtain ⟨b2,o2,e,hb2,hcc⟩ := g3 (by omega)
   refine ⟨b2,o2,e,hb2,fun j u hu => hcc j u ?_⟩
   have hp : (l.flatMap RoofT.cells) = (l.take k).flatMap RoofT.cells ++ (l.drop k).flatMap RoofT.cells := by rw [← List.flatMap_append,List.take_append_drop]
   rw [hp,List.getElem?_append_left (List.getElem?_eq_some_iff.1 hu).1]
   exact hu
  have HSu : Hid (roofsTo nameB l (k + 1) = (roofsTo nameB l k && roof1 nameB l k)) := rfl
  clear hcs
  generalize l[k] = x at *
  obtain ⟨nm,lo,hi,most⟩ := x
  simp only at x0 x1 x2 x3 hnk HR1
  have hD := Blk.new wr 69 #[.string nm,.int .i64 lo,.int .i64 hi,.int .i64 most]
  have HB1 := Lib.hid (HB.out.alloc HB.out.size (.cells #[.string nm,.int .i64 lo,.int .i64 hi,.int .i64 most] 69))
  have y0 := hD.cell 0
  have y1 := hD.cell 1
  have y2 := hD.cell 2
  have y3 := hD.cell 3
  have hlt := hD.lt
  simp only [List.getElem?_toArray,List.getElem?_cons_succ,List.getElem?_cons_zero] at y0 y1 y2 y3
  have HCF := Lib.hid fun W (hb1 : Below w.heap.size w W) (hgc : W.cell? ⟨wr.heap.size,0,none⟩ = some (.string nm)) (hlt2 : wr.heap.size < W.heap.size) => containsFuncRoof (.slice (some ⟨b,o,none⟩) k c) (l.take k) 215 #[.pointer (some ⟨wr.heap.size,0,none⟩)] (fun x => decide (x.name = nm)) entersGV1 W (HTk.out W hb1) (fun t _ w' hbw => gdValid1 t ⟨nm,lo,hi,most⟩ wr.heap.size w' ((hbw.cell (p := ⟨wr.heap.size,0,none⟩) hlt2).trans hgc) (Nat.lt_of_lt_of_le hlt2 hbw.size))
  have hcf := HCF.out _ HB1.out y0 hlt
  have HD := Lib.hid hD
  clear hD HCF
  go_upto_region 6 with fail
  clear x0 x1 x2 x3
  have HW0 := Lib.hid fun W => gdWithin lo W
  have HW1 := Lib.hid fun W => gdWithin hi W
  have HNm := Lib.hid fun W => gdIsName nm hnk W
  have HRn : Hid (roofNums ⟨nm,lo,hi,most⟩ = (decide (0 ≤ lo) && (decide (lo ≤ hi) && (decide (hi ≤ 1048576) && (decide (0 ≤ most) && decide (most ≤ 67108864)))))) := rfl
  clear hnk
  cases hq1 : nameB nm with
  | false =>
   have HV2 := Lib.hid (HNo.out (by rw [HR1.out,hq1];rfl))
   rw [hq1] at HNm
   clear hq1 HNo HR1
   go_wp2_with (first | (go_at_call 214;refine (HNm.out _).mono ?_;rintro e w' ⟨rfl,rfl⟩))
   go_ret
   exact ⟨ret_bool HV2.out.symm,HB1.out⟩
  | true =>
   rw [hq1] at HNm
   have HR2 : Hid (roof1 nameB l k = (roofNums ⟨nm,lo,hi,most⟩ && !(l.take k).any fun x => decide (x.name = nm))) := by unfold Hid;rw [HR1.out,hq1,Bool.true_and]
   clear hq1 HR1
   cases hq2 : (decide (0 ≤ lo) && decide (lo ≤ 1048576)) with
   | false =>
    have HV2 : Hid (roofsB nameB l = false) := HNo.out (by
     rw [HR2.out,HRn.out]
     simp only [Bool.and_eq_false_iff,decide_eq_false_iff_not] at hq2 ⊢
     omega)
    rw [hq2] at HW0
    clear hq2 HNo HR2 HRn
    go_wp2_with (first | (go_at_call 214;refine (HNm.out _).mono ?_;rintro e w' ⟨rfl,rfl⟩;clear HNm) | (go_at_call 159;refine (HW0.out _).mono ?_;rintro e w' ⟨rfl,rfl⟩))
    go_ret
    exact ⟨ret_bool HV2.out.symm,HB1.out⟩
   | true =>
    rw [hq2] at HW0
    cases hq3 : (decide (0 ≤ hi) && decide (hi ≤ 1048576)) with
    | false =>
     have HV2 : Hid (roofsB nameB l = false) := HNo.out (by
      rw [HR2.out,HRn.out]
      simp only [Bool.and_eq_false_iff,decide_eq_false_iff_not,Bool.and_eq_true,decide_eq_true_eq] at hq2 hq3 ⊢
      omega)
     rw [hq3] at HW1
     clear hq2 hq3 HNo HR2 HRn
     go_wp2_with (first | (go_at_call 214;refine (HNm.out _).mono ?_;rintro e w' ⟨rfl,rfl⟩;clear HNm) | (go_at_call 159;first | (refine (HW0.out _).mono ?_;rintro e w' ⟨rfl,rfl⟩;clear HW0) | (refine (HW1.out _).mono ?_;rintro e w' ⟨rfl,rfl⟩;clear HW1)))
     go_ret
     exact ⟨ret_bool HV2.out.symm,HB1.out⟩
    | true =>
     rw [hq3] at HW1
     have HQ : Hid (0 ≤ lo ∧ hi ≤ 1048576) := by
      simp only [Bool.and_eq_true,decide_eq_true_eq] at hq2 hq3
      exact ⟨hq2.1,hq3.2⟩
     clear hq2 hq3
     by_cases c4 : hi < lo
     ·have d4 : decide (hi < lo) = true := decide_eq_true c4
      have HV2 : Hid (roofsB nameB l = false) := HNo.out (by
       rw [HR2.out,HRn.out]
       simp only [Bool.and_eq_false_iff,decide_eq_false_iff_not]
       omega)
      clear c4 HNo HR2 HRn
      go_wp2_with (first | (go_at_call 214;refine (HNm.out _).mono ?_;rintro e w' ⟨rfl,rfl⟩;clear HNm) | (go_at_call 159;first | (refine (HW0.out _).mono ?_;rintro e w' ⟨rfl,rfl⟩;clear HW0) | (refine (HW1.out _).mono ?_;rintro e w' ⟨rfl,rfl⟩;clear HW1)))
      go_ret
      exact ⟨ret_bool HV2.out.symm,HB1.out⟩
     have d4 : decide (hi < lo) = false := decide_eq_false c4
     by_cases c5 : most < 0
     ·have d5 : decide (most < 0) = true := decide_eq_true c5
      have HV2 : Hid (roofsB nameB l = false) := HNo.out (by
       rw [HR2.out,HRn.out]
       simp only [Bool.and_eq_false_iff,decide_eq_false_iff_not]
       omega)
      clear c4 c5 HNo HR2 HRn
      go_wp2_with (first | (go_at_call 214;refine (HNm.out _).mono ?_;rintro e w' ⟨rfl,rfl⟩;clear HNm) | (go_at_call 159;first | (refine (HW0.out _).mono ?_;rintro e w' ⟨rfl,rfl⟩;clear HW0) | (refine (HW1.out _).mono ?_;rintro e w' ⟨rfl,rfl⟩;clear HW1)))
      go_ret
      exact ⟨ret_bool HV2.out.symm,HB1.out⟩
     have d5 : decide (most < 0) = false := decide_eq_false c5
     by_cases c6 : 67108864 < most
     ·have d6 : decide (67108864 < most) = true := decide_eq_true c6
      have HV2 : Hid (roofsB nameB l = false) := HNo.out (by
       rw [HR2.out,HRn.out]
       simp only [Bool.and_eq_false_iff,decide_eq_false_iff_not]
       omega)
      clear c4 c5 c6 HNo HR2 HRn
      go_wp2_with (first | (go_at_call 214;refine (HNm.out _).mono ?_;rintro e w' ⟨rfl,rfl⟩;clear HNm) | (go_at_call 159;first | (refine (HW0.out _).mono ?_;rintro e w' ⟨rfl,rfl⟩;clear HW0) | (refine (HW1.out _).mono ?_;rintro e w' ⟨rfl,rfl⟩;clear HW1)))
      go_ret
      exact ⟨ret_bool HV2.out.symm,HB1.out⟩
     have d6 : decide (67108864 < most) = false := decide_eq_false c6
     have HR3 : Hid (roof1 nameB l k = !(l.take k).any fun x => decide (x.name = nm)) := by
      have hn : roofNums ⟨nm,lo,hi,most⟩ = true := by
       rw [HRn.out]
       simp only [Bool.and_eq_true,decide_eq_true_eq]
       have := HQ.out
       omega
      unfold Hid
      rw [HR2.out,hn,Bool.true_and]
     clear c4 c5 c6 HR2 HRn HQ
     obtain ⟨qc,hqc⟩ : ∃ qc,((l.take k).any fun x => decide (x.name = nm)) = qc := ⟨_,rfl⟩
     rw [hqc] at hcf HR3
     clear hqc HTk
     have hk1 : ¬ (l.length : Int) < (k : Int) := by omega
     have hk2 : (k : Int) ≤ (l.length : Int) := by omega
     have hk3 : (k : Int) ≤ (c : Int) := by omega
     cases qc with
     | true =>
      have HV2 := Lib.hid (HNo.out HR3.out)
      go_wp2_with (first | (go_at_call 214;refine (HNm.out _).mono ?_;rintro e w' ⟨rfl,rfl⟩;clear HNm) | (go_at_call 159;first | (refine (HW0.out _).mono ?_;rintro e w' ⟨rfl,rfl⟩;clear HW0) | (refine (HW1.out _).mono ?_;rintro e w' ⟨rfl,rfl⟩;clear HW1)) | (go_at_call 32;refine hcf.mono ?_;rintro e w5 ⟨rfl,hb5⟩))
      go_ret
      exact ⟨ret_bool HV2.out.symm,HB1.out.trans (hb5.mono HB1.out.size)⟩
     | false =>
      have HV2 : Hid (roofsTo nameB l (k + 1) = true) := by rw [HSu.out,HT.out,HR3.out];rfl
      go_wp2_with (first | (go_at_call 214;refine (HNm.out _).mono ?_;rintro e w' ⟨rfl,rfl⟩;clear HNm) | (go_at_call 159;first | (refine (HW0.out _).mono ?_;rintro e w' ⟨rfl,rfl⟩;clear HW0) | (refine (HW1.out _).mono ?_;rintro e w' ⟨rfl,rfl⟩;clear HW1)) | (go_at_call 32;refine hcf.mono ?_;rintro e w5 ⟨rfl,hb5⟩))
      have HB5 := Lib.hid (HB1.out.trans (hb5.mono HB1.out.size))
      go_roundw
      case rel => exact ⟨k + 1,hkl,by go_num,HV2,HB5⟩
      case measure => simp [intOf];omega
theorem entersGG1 : ∀ args w,(callFunc 158 args).run Tryz.prog w = .ok (.enter 158 args) w := enters_of Tryz.func158 (by kernel_rfl) rfl
theorem gdGiven1 (x : LoadT) (w : World) : Calls Tryz.prog 158 #[.agg #[.int .i64 x.pos,.int .i64 x.wt]] w fun e w' => e = .returned (.bool (!loadB x)) ∧ Below w.heap.size w w' := by
 obtain ⟨pos,wt⟩ := x
 simp only at *
 have HW := Lib.hid fun W => gdWithin pos W
 have HB := Lib.hid ((Below.refl w.heap.size w).alloc (Nat.le_refl _) (.cells #[.int .i64 pos,.int .i64 wt] 115))
 have HD := Lib.hid (Blk.new w 115 #[.int .i64 pos,.int .i64 wt])
 have HL : Hid ((!loadB ⟨pos,wt⟩) = !(decide (0 ≤ pos) && (decide (pos ≤ 1048576) && (decide (0 ≤ wt) && decide (wt ≤ 67108864))))) := rfl
 have y0 := HD.out.cell 0
 have y1 := HD.out.cell 1
 simp only [List.getElem?_toArray,List.getElem?_cons_succ,List.getElem?_cons_zero] at y0 y1
 cases hq : (decide (0 ≤ pos) && decide (pos ≤ 1048576)) with
 | false =>
  have HV : Hid ((!loadB ⟨pos,wt⟩) = true) := by
   unfold Hid
   rw [HL.out,← Bool.and_assoc,hq]
   rfl
  rw [hq] at HW
  clear hq
  go_enter Tryz.func158,Tryz.ntmps158
  go_wp2_with (go_at_call 159;refine (HW.out _).mono ?_;rintro e w' ⟨rfl,rfl⟩)
  go_ret
  exact ⟨ret_bool HV.out.symm,HB.out⟩
 | true =>
  have HV : Hid ((!loadB ⟨pos,wt⟩) = !(decide (0 ≤ wt) && decide (wt ≤ 67108864))) := by
   unfold Hid
   rw [HL.out,← Bool.and_assoc,hq]
   rfl
  rw [hq] at HW
  clear hq
  by_cases c5 : wt < 0
  ·have d5 : decide (wt < 0) = true := decide_eq_true c5
   have HV2 : Hid ((!loadB ⟨pos,wt⟩) = true) := by unfold Hid;rw [HV.out,decide_eq_false (by omega)];rfl
   clear c5
   go_enter Tryz.func158,Tryz.ntmps158
   go_wp2_with (go_at_call 159;refine (HW.out _).mono ?_;rintro e w' ⟨rfl,rfl⟩)
   go_ret
   exact ⟨ret_bool HV2.out.symm,HB.out⟩
  have d5 : decide (wt < 0) = false := decide_eq_false c5
  obtain ⟨q,hq⟩ : ∃ q,decide (67108864 < wt) = q := ⟨_,rfl⟩
  have HV2 : Hid ((!loadB ⟨pos,wt⟩) = q) := by
   unfold Hid
   rw [HV.out,decide_eq_true (show 0 ≤ wt by omega),Bool.true_and,← hq,← decide_not]
   exact decide_eq_decide.2 Int.not_le
  clear c5
  cases q
  all_goals
   go_enter Tryz.func158,Tryz.ntmps158
   go_wp2_with (go_at_call 159;refine (HW.out _).mono ?_;rintro e w' ⟨rfl,rfl⟩)
   go_ret
   exact ⟨ret_bool HV2.out.symm,HB.out⟩
set_option maxHeartbeats 1000000 in
theorem gdGiven (v v1 : Value) (l : List RoofT) (at_ : List LoadT) (w : World) (hv : RoofsAt w w.heap.size v l) (hn : ∀ x ∈ l,x.name.size ≤ maxLen) (hl : LoadsAt w w.heap.size v1 at_) :
  Calls Tryz.prog 114 #[v,v1] w fun e w' => e = .returned (.int .i64 (if giveB nameB l at_ = true then 0 else 1)) ∧ Below w.heap.size w w' := by
 have hva := gdValid v l w hv hn
 have HCf := Lib.hid fun W (hb : Below w.heap.size w W) => containsFuncLoad v1 at_ 158 #[] (fun x => !loadB x) entersGG1 W ((hl.below hb (Nat.le_refl _)).mono hb.size) (fun t _ w' _ => gdGiven1 t w')
 obtain ⟨A,c,rfl,-⟩ := hv.open_
 obtain ⟨A1,c1,rfl,-⟩ := hl.open_
 have HG : Hid (giveB nameB l at_ = (roofsB nameB l && (decide (at_.length ≤ 1000) && at_.all loadB))) := rfl
 have HAn : Hid ((at_.any fun x => !loadB x) = !at_.all loadB) := by
  unfold Hid
  rw [List.not_all_eq_any_not]
 clear hv hl hn
 generalize giveB nameB l at_ = gb at *
 generalize roofsB nameB l = rb at *
 rw [HAn.out] at HCf
 generalize at_.all loadB = lb at *
 cases rb with
 | false =>
  obtain rfl : gb = false := HG.out
  go_enter Tryz.func114,Tryz.ntmps114
  go_wp2_with (go_at_call 156;refine hva.mono ?_;rintro e w' ⟨rfl,hb⟩)
  go_ret
  exact ⟨rfl,hb⟩
 | true =>
  by_cases h1 : 1000 < at_.length
  ·have d1 : decide ((1000 : Int) < (at_.length : Int)) = true := decide_eq_true (by omega)
   obtain rfl : gb = false := by rw [HG.out,decide_eq_false (by omega)];rfl
   clear h1
   go_enter Tryz.func114,Tryz.ntmps114
   go_wp2_with (go_at_call 156;refine hva.mono ?_;rintro e w' ⟨rfl,hb⟩)
   go_ret
   exact ⟨rfl,hb⟩
  have d1 : decide ((1000 : Int) < (at_.length : Int)) = false := decide_eq_false (by omega)
  obtain rfl : gb = lb := by rw [HG.out,decide_eq_true (show at_.length ≤ 1000 by omega)];rfl
  clear h1
  cases gb
  all_goals
   go_enter Tryz.func114,Tryz.ntmps114
   go_wp2_with (first | (go_at_call 156;refine hva.mono ?_;rintro e w2 ⟨rfl,hb2⟩;have hcf := HCf.out _ hb2) | (go_at_call 157;refine hcf.mono ?_;rintro e w3 ⟨rfl,hb3⟩))
   go_ret
   exact ⟨rfl,hb2.trans (hb3.mono hb2.size)⟩
end Go.Proofs.YtknkhnahflmjiaaGreatDoor
