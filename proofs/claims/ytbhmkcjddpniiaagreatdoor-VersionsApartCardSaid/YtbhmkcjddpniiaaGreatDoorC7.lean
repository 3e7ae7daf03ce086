/- Parts of the proof, laid into one text: SlB, BmValid, BmTop, VerA. -/
import Derived.BigQuiet
import Derived.Deep.AppendLies
import Derived.Deep.Draws
import Derived.Deep.LoopGhost
import Derived.Deep.QuietTactic
import Derived.Deep.RegionHeld3
import Derived.IntWalk
import Derived.Laws.Bits64b
import Derived.Lib.Hide
import Derived.LoopIn
import Derived.LoopNIn
import Derived.Maps.AppendAt
import Derived.Outline
import Derived.OwnWalkIn
import Derived.PlainAid
import Derived.RangeFuncBox
import Derived.RangeFuncLeaves
import Derived.Shelf.Abstract
import Derived.StillTail
import Derived.StillTailTactics
import Derived.TacticsInMore
import Derived.Test.YtbhmkcjddpniiaaGreatDoorC1
import Derived.Test.YtbhmkcjddpniiaaGreatDoorC2
import Derived.Test.YtbhmkcjddpniiaaGreatDoorC3
import Derived.Test.YtbhmkcjddpniiaaGreatDoorC4
import Derived.Test.YtbhmkcjddpniiaaGreatDoorC5
import Derived.Test.YtbhmkcjddpniiaaGreatDoorC6
import Derived.Test.YtbhmkcjddpniiaaGreatDoorG1
import Derived.Test.YtbhmkcjddpniiaaGreatDoorProg
import Derived.WalkKit
import Derived.WalkLawsBesides
import Derived.WalkSpells

namespace Go.Proofs.YtbhmkcjddpniiaaGreatDoor
open Go.RowKit Go.Shelf
abbrev LoadT.val (x : LoadT) : Value := .agg #[.int .i64 x.pos,.int .i64 x.wt]
set_option maxRecDepth 100000 in
set_option maxHeartbeats 400000 in
theorem indexFuncLoad (v : Value) (l : List LoadT) (K : Nat) (C : Array Value) (p : LoadT → Bool) (eg : ∀ args w,(callFunc K args).run Tryz.prog w = .ok (.enter K args) w) (w : World) (hl : LoadsAt w w.heap.size v l)
  (hf : ∀ t ∈ l,∀ w',Below w.heap.size w w' → Calls Tryz.prog K (#[t.val] ++ C) w' fun e w'' => e = .returned (.bool (p t)) ∧ Below w'.heap.size w' w'') :
  Calls Tryz.prog 238 #[v,.func (.func K) #[] C] w fun e w' => e = .returned (.int .i64 (idxOf (l.findIdx? p))) ∧ Below w.heap.size w w' := by
 obtain ⟨A,c,rfl,hc1,hc2,hcell⟩ := hl.open_
 unfold maxLen at hc2
 have HF := Lib.hid hf
 clear hf
 go_enter Tryz.func238,Tryz.ntmps238
 go_wp2
 go_loopw [8] (fun x wr => ∃ j : Nat,j ≤ l.length ∧ x = .int .i64 j ∧ (l.take j).findIdx? p = none ∧ Below w.heap.size w wr) (fun x _ => l.length - (intOf x).toNat)
 case atStart => exact ⟨0,Nat.zero_le _,rfl,by simp,Below.refl _ _⟩
 case round =>
  obtain ⟨j,hj,rfl,hnm,hbel⟩ := hrel
  have Hnm := Lib.hid hnm
  clear hnm
  by_cases hlt : j < l.length
  ·obtain ⟨b,off,rfl,hb,hcell⟩ := hcell j hlt
   have h0 := (hbel.cell (p := ⟨b,off + j * 2,none⟩) hb).trans (hcell j hlt).1
   have h1 := (hbel.cell (p := ⟨b,off + j * 2 + 1,none⟩) hb).trans (hcell j hlt).2
   clear hcell
   have hcall := HF.out l[j] (List.getElem_mem hlt)
   cases hq : p l[j] with
   | true =>
    rw [hq] at hcall
    go_wp2_with (go_at_fn K;refine (hcall _ hbel).mono ?_;rintro e w' ⟨rfl,hb'⟩)
    go_ret
    exact ⟨by rw [find_hit Hnm.out hlt hq];rfl,hbel.trans (hb'.mono hbel.size)⟩
   | false =>
    rw [hq] at hcall
    go_wp2_with (go_at_fn K;refine (hcall _ hbel).mono ?_;rintro e w' ⟨rfl,hb'⟩)
    go_roundw
    case rel => exact ⟨j + 1,by omega,by go_num,find_miss Hnm.out hlt hq,hbel.trans (hb'.mono hbel.size)⟩
    case measure => simp [intOf];omega
  ·have hje : j = l.length := by omega
   subst hje
   go_wp2
   go_ret
   exact ⟨by rw [← List.take_length (l := l),Hnm.out];rfl,hbel⟩
set_option maxHeartbeats 400000 in
theorem containsFuncLoad (v : Value) (l : List LoadT) (K : Nat) (C : Array Value) (p : LoadT → Bool) (eg : ∀ args w,(callFunc K args).run Tryz.prog w = .ok (.enter K args) w) (w : World) (hl : LoadsAt w w.heap.size v l)
  (hf : ∀ t ∈ l,∀ w',Below w.heap.size w w' → Calls Tryz.prog K (#[t.val] ++ C) w' fun e w'' => e = .returned (.bool (p t)) ∧ Below w'.heap.size w' w'') :
  Calls Tryz.prog 208 #[v,.func (.func K) #[] C] w fun e w' => e = .returned (.bool (l.any p)) ∧ Below w.heap.size w w' := by
 have hc := indexFuncLoad v l K C p eg w hl hf
 have hbd := idx_bd p l
 have HA := Lib.hid (idx_any p l)
 generalize idxOf (l.findIdx? p) = x at *
 clear hf hl
 go_enter Tryz.func208,Tryz.ntmps208
 go_wp2_with (go_at_call 238;refine hc.mono ?_;rintro e w' ⟨rfl,hb'⟩)
 go_ret
 exact ⟨ret_bool HA.out,hb'⟩
end Go.Proofs.YtbhmkcjddpniiaaGreatDoor

namespace Go.Proofs.YtbhmkcjddpniiaaGreatDoor
open Go.RowKit Go.Shelf
def loadOk (bl : Int) (x : LoadT) : Bool := !decide (x.pos < 0) && !decide (bl < x.pos) && !decide (x.wt < 0) && !decide (67108864 < x.wt)
def supGood (b : BeamT) (i : Nat) : Bool := !decide (supAt b i < 0) && !decide (b.len < supAt b i) && (decide (i = 0) || !decide (supAt b i ≤ supAt b (i - 1)))
def supsGood (b : BeamT) (k : Nat) : Bool := decide (∀ i,i < k → supGood b i = true)
def okHead (b : BeamT) : Bool := nameB b.name && !decide (b.len < 1) && !decide (1048576 < b.len) && !decide (b.even < 0) && !decide (1048576 < b.even) && !decide ((b.sup.length : Int) < 1) && !decide (10 < (b.sup.length : Int)) && !decide (40 < (b.loads.length : Int))
def okBm (b : BeamT) : Bool := okHead b && supsGood b b.sup.length && b.loads.all (loadOk b.len)
theorem not_any_not {α : Type} (l : List α) (p : α → Bool) : (!l.any fun x => !p x) = l.all p := by
 induction l with
 | nil => rfl
 | cons x l ih => rw [List.any_cons,List.all_cons,Bool.not_or,Bool.not_not,ih]
theorem okBm_head {b : BeamT} (h : okHead b = false) : okBm b = false := by unfold okBm;rw [h];rfl
theorem okBm_sup {b : BeamT} {k : Nat} (hk : k < b.sup.length) (h : supGood b k = false) : okBm b = false := by
 have : supsGood b b.sup.length = false := by
  unfold supsGood
  rw [decide_eq_false_iff_not]
  intro hh
  rw [hh k hk] at h
  cases h
 unfold okBm
 rw [this,Bool.and_false,Bool.false_and]
theorem supsGood_zero (b : BeamT) : supsGood b 0 = true := by unfold supsGood;simp
theorem supsGood_succ {b : BeamT} {k : Nat} (h : supsGood b k = true) (h1 : supGood b k = true) : supsGood b (k + 1) = true := by
 unfold supsGood at *
 rw [decide_eq_true_iff] at *
 intro i hi
 rcases Nat.lt_succ_iff_lt_or_eq.1 hi with h2 | rfl
 ·exact h i h2
 ·exact h1
theorem okBm_all {b : BeamT} (h : okHead b = true) (h1 : supsGood b b.sup.length = true) : okBm b = b.loads.all (loadOk b.len) := by unfold okBm;rw [h,h1];rfl
theorem okBm_ok {b : BeamT} (h : okBm b = true) : BeamOk b := by
 unfold okBm okHead supsGood at h
 simp only [Bool.and_eq_true,Bool.not_eq_true',decide_eq_false_iff_not,decide_eq_true_eq,List.all_eq_true] at h
 obtain ⟨⟨⟨⟨⟨⟨⟨⟨⟨h0,h1⟩,h2⟩,h3⟩,h4⟩,h5⟩,h6⟩,h7⟩,h8⟩,h9⟩ := h
 have h8' : ∀ i,i < b.sup.length → ¬ supAt b i < 0 ∧ ¬ b.len < supAt b i ∧ (i = 0 ∨ ¬ supAt b i ≤ supAt b (i - 1)) := fun i hi => by
  have := h8 i hi
  unfold supGood at this
  simpa [and_assoc] using this
 refine ⟨by omega,by omega,by omega,fun i hi => ?_,fun i hi => ?_,by omega,fun x hx => ?_⟩
 ·have := h8' i hi;omega
 ·have := (h8' (i + 1) hi).2.2;simp at this;omega
 ·have := h9 x hx
  unfold loadOk at this
  simp only [Bool.and_eq_true,Bool.not_eq_true',decide_eq_false_iff_not] at this
  omega
theorem entersBV : ∀ args w,(callFunc 209 args).run Tryz.prog w = .ok (.enter 209 args) w := enters_of Tryz.func209 (by kernel_rfl) rfl
set_option maxHeartbeats 1000000 in
theorem bmValid1 (D : Nat) (x : LoadT) (bl : Int) (w : World) (n : ByteArray) (u2 u3 u4 : Value) (h1 : Blk w D 129 #[.string n,.int .i64 bl,u2,u3,u4]) :
  Calls Tryz.prog 209 #[x.val,.pointer (some ⟨D,0,none⟩)] w fun e w' => e = .returned (.bool (!loadOk bl x)) ∧ Below w.heap.size w w' := by
 have HB := Lib.hid ((Below.refl _ w).alloc (Nat.le_refl _) (.cells #[.int .i64 x.pos,.int .i64 x.wt] 180))
 have HD := Lib.hid (Blk.new w 180 #[.int .i64 x.pos,.int .i64 x.wt])
 have y := (h1.below HB.out h1.lt).cell 1
 have y0 := HD.out.cell 0
 have y1 := HD.out.cell 1
 simp only [List.getElem?_toArray,List.getElem?_cons_succ,List.getElem?_cons_zero] at y y0 y1
 obtain ⟨pos,wt⟩ := x
 simp only at *
 by_cases c0 : pos < 0
 ·have d0 : decide (pos < 0) = true := decide_eq_true c0
  have HV : Hid ((!loadOk bl ⟨pos,wt⟩) = true) := by unfold Hid loadOk;simp only [d0];rfl
  clear h1
  go_enter Tryz.func209,Tryz.ntmps209
  go_wp2_with fail
  go_ret
  exact ⟨ret_bool HV.out.symm,HB.out⟩
 have d0 : decide (pos < 0) = false := decide_eq_false c0
 by_cases c1 : bl < pos
 ·have d1 : decide (bl < pos) = true := decide_eq_true c1
  have HV : Hid ((!loadOk bl ⟨pos,wt⟩) = true) := by unfold Hid loadOk;simp only [d0,d1];rfl
  clear h1
  go_enter Tryz.func209,Tryz.ntmps209
  go_wp2_with fail
  go_ret
  exact ⟨ret_bool HV.out.symm,HB.out⟩
 have d1 : decide (bl < pos) = false := decide_eq_false c1
 by_cases c2 : wt < 0
 ·have d2 : decide (wt < 0) = true := decide_eq_true c2
  have HV : Hid ((!loadOk bl ⟨pos,wt⟩) = true) := by unfold Hid loadOk;simp only [d0,d1,d2];rfl
  clear h1
  go_enter Tryz.func209,Tryz.ntmps209
  go_wp2_with fail
  go_ret
  exact ⟨ret_bool HV.out.symm,HB.out⟩
 have d2 : decide (wt < 0) = false := decide_eq_false c2
 by_cases c3 : 67108864 < wt
 ·have d3 : decide (67108864 < wt) = true := decide_eq_true c3
  have HV : Hid ((!loadOk bl ⟨pos,wt⟩) = true) := by unfold Hid loadOk;simp only [d0,d1,d2,d3];rfl
  clear h1
  go_enter Tryz.func209,Tryz.ntmps209
  go_wp2_with fail
  go_ret
  exact ⟨ret_bool HV.out.symm,HB.out⟩
 have d3 : decide (67108864 < wt) = false := decide_eq_false c3
 have HV : Hid ((!loadOk bl ⟨pos,wt⟩) = false) := by unfold Hid loadOk;simp only [d0,d1,d2,d3];rfl
 clear h1
 go_enter Tryz.func209,Tryz.ntmps209
 go_wp2_with fail
 go_ret
 exact ⟨ret_bool HV.out.symm,HB.out⟩
set_option maxRecDepth 100000 in
set_option maxHeartbeats 4000000 in
theorem bmValid (v : Value) (b : BeamT) (w : World) (hv : BeamAt w w.heap.size v b) (hn : b.name.size ≤ maxLen) : Calls Tryz.prog 174 #[v] w fun e w' => e = .returned (.bool (okBm b)) ∧ Below w.heap.size w w' := by
 obtain ⟨As,cs,Al,cl,rfl,hS,hL⟩ := hv
 have HN := fun W => decIsName b.name hn W
 obtain ⟨_,_,e,hs1,hs2,hSc⟩ := hS.open_
 injection e with e1 _ e2
 subst e1 e2
 unfold maxLen at hs2
 have HL := Lib.hid hL
 have HSc := Lib.hid hSc
 have HD := Lib.hid (Blk.new w 129 #[.string b.name,.int .i64 b.len,.slice As b.sup.length cs,.slice Al b.loads.length cl,.int .i64 b.even])
 have HB := Lib.hid ((Below.refl _ w).alloc (Nat.le_refl _) (.cells #[.string b.name,.int .i64 b.len,.slice As b.sup.length cs,.slice Al b.loads.length cl,.int .i64 b.even] 129))
 clear hS hSc hn hL
 go_enter Tryz.func174,Tryz.ntmps174
 go_wp2_with (exact Go.WalkKit.wp_stop)
 generalize w.alloc (.cells #[.string b.name,.int .i64 b.len,.slice As b.sup.length cs,.slice Al b.loads.length cl,.int .i64 b.even] 129) = W1 at *
 have y0 := HD.out.cell 0
 have y1 := HD.out.cell 1
 have y2 := HD.out.cell 2
 have y3 := HD.out.cell 3
 have y4 := HD.out.cell 4
 simp only [List.getElem?_toArray,List.getElem?_cons_succ,List.getElem?_cons_zero] at y0 y1 y2 y3 y4
 have hn0 := HN W1
 cases d0 : nameB b.name with
 | false =>
  rw [d0] at hn0
  have HV : Hid (okBm b = false) := by unfold Hid;refine okBm_head ?_;unfold okHead;simp only [d0];rfl
  go_wp2_with (go_at_call 74;refine hn0.mono ?_;rintro e w' ⟨rfl,rfl⟩)
  go_ret
  exact ⟨ret_bool HV.out.symm,HB.out⟩
 | true =>
  rw [d0] at hn0
  by_cases c1 : b.len < 1
  ·have d1 : decide (b.len < 1) = true := decide_eq_true c1
   have HV : Hid (okBm b = false) := by unfold Hid;refine okBm_head ?_;unfold okHead;simp only [d0,d1];rfl
   go_wp2_with (go_at_call 74;refine hn0.mono ?_;rintro e w' ⟨rfl,rfl⟩)
   go_ret
   exact ⟨ret_bool HV.out.symm,HB.out⟩
  have d1 : decide (b.len < 1) = false := decide_eq_false c1
  by_cases c2 : 1048576 < b.len
  ·have d2 : decide (1048576 < b.len) = true := decide_eq_true c2
   have HV : Hid (okBm b = false) := by unfold Hid;refine okBm_head ?_;unfold okHead;simp only [d0,d1,d2];rfl
   go_wp2_with (go_at_call 74;refine hn0.mono ?_;rintro e w' ⟨rfl,rfl⟩)
   go_ret
   exact ⟨ret_bool HV.out.symm,HB.out⟩
  have d2 : decide (1048576 < b.len) = false := decide_eq_false c2
  by_cases c3 : b.even < 0
  ·have d3 : decide (b.even < 0) = true := decide_eq_true c3
   have HV : Hid (okBm b = false) := by unfold Hid;refine okBm_head ?_;unfold okHead;simp only [d0,d1,d2,d3];rfl
   go_wp2_with (go_at_call 74;refine hn0.mono ?_;rintro e w' ⟨rfl,rfl⟩)
   go_ret
   exact ⟨ret_bool HV.out.symm,HB.out⟩
  have d3 : decide (b.even < 0) = false := decide_eq_false c3
  by_cases c4 : 1048576 < b.even
  ·have d4 : decide (1048576 < b.even) = true := decide_eq_true c4
   have HV : Hid (okBm b = false) := by unfold Hid;refine okBm_head ?_;unfold okHead;simp only [d0,d1,d2,d3,d4];rfl
   go_wp2_with (go_at_call 74;refine hn0.mono ?_;rintro e w' ⟨rfl,rfl⟩)
   go_ret
   exact ⟨ret_bool HV.out.symm,HB.out⟩
  have d4 : decide (1048576 < b.even) = false := decide_eq_false c4
  by_cases c5 : (b.sup.length : Int) < 1
  ·have d5 : decide ((b.sup.length : Int) < 1) = true := decide_eq_true c5
   have HV : Hid (okBm b = false) := by unfold Hid;refine okBm_head ?_;unfold okHead;simp only [d0,d1,d2,d3,d4,d5];rfl
   go_wp2_with (go_at_call 74;refine hn0.mono ?_;rintro e w' ⟨rfl,rfl⟩)
   go_ret
   exact ⟨ret_bool HV.out.symm,HB.out⟩
  have d5 : decide ((b.sup.length : Int) < 1) = false := decide_eq_false c5
  by_cases c6 : 10 < (b.sup.length : Int)
  ·have d6 : decide (10 < (b.sup.length : Int)) = true := decide_eq_true c6
   have HV : Hid (okBm b = false) := by unfold Hid;refine okBm_head ?_;unfold okHead;simp only [d0,d1,d2,d3,d4,d5,d6];rfl
   go_wp2_with (go_at_call 74;refine hn0.mono ?_;rintro e w' ⟨rfl,rfl⟩)
   go_ret
   exact ⟨ret_bool HV.out.symm,HB.out⟩
  have d6 : decide (10 < (b.sup.length : Int)) = false := decide_eq_false c6
  by_cases c7 : 40 < (b.loads.length : Int)
  ·have d7 : decide (40 < (b.loads.length : Int)) = true := decide_eq_true c7
   have HV : Hid (okBm b = false) := by unfold Hid;refine okBm_head ?_;unfold okHead;simp only [d0,d1,d2,d3,d4,d5,d6,d7];rfl
   go_wp2_with (go_at_call 74;refine hn0.mono ?_;rintro e w' ⟨rfl,rfl⟩)
   go_ret
   exact ⟨ret_bool HV.out.symm,HB.out⟩
  have d7 : decide (40 < (b.loads.length : Int)) = false := decide_eq_false c7
  have HH : Hid (okHead b = true) := by unfold Hid okHead;simp only [d0,d1,d2,d3,d4,d5,d6,d7];rfl
  obtain ⟨bs,os,rfl,hbs,hSx⟩ := HSc.out 0 (by omega)
  have HSx : Hid (∀ j,j < b.sup.length → W1.cell? ⟨bs,os + j,none⟩ = some (.int .i64 (supAt b j))) := fun j hj => by
   have h := (HB.out.cell (p := ⟨bs,os + j,none⟩) hbs).trans (hSx j hj)
   unfold supAt
   rw [List.getD_eq_getElem?_getD,List.getElem?_eq_getElem hj]
   exact h
  clear hSx HSc
  go_wp2_with (go_at_call 74;refine hn0.mono ?_;rintro e w' ⟨rfl,rfl⟩)
  go_loopw [50] (fun x wr => ∃ k : Nat,k ≤ b.sup.length ∧ x = .int .i64 k ∧ Hid (supsGood b k = true) ∧ W1 = wr) (fun x _ => b.sup.length - (intOf x).toNat)
  case atStart => exact ⟨0,Nat.zero_le _,rfl,supsGood_zero b,rfl⟩
  case round =>
   obtain ⟨k,hk,rfl,HG,rfl⟩ := hrel
   by_cases hlt : k < b.sup.length
   ·have z := HSx.out k hlt
    have i1 : (0 : Int) ≤ (k : Int) := Int.natCast_nonneg _
    have i2 : (k : Int) < (b.sup.length : Int) := by omega
    by_cases e1 : supAt b k < 0
    ·have f1 : decide (supAt b k < 0) = true := decide_eq_true e1
     have HV : Hid (okBm b = false) := okBm_sup hlt (by unfold supGood;rw [f1];rfl)
     go_wp2
     go_ret
     exact ⟨ret_bool HV.out.symm,HB.out⟩
    have f1 : decide (supAt b k < 0) = false := decide_eq_false e1
    by_cases e2 : b.len < supAt b k
    ·have f2 : decide (b.len < supAt b k) = true := decide_eq_true e2
     have HV : Hid (okBm b = false) := okBm_sup hlt (by unfold supGood;rw [f1,f2];rfl)
     go_wp2
     go_ret
     exact ⟨ret_bool HV.out.symm,HB.out⟩
    have f2 : decide (b.len < supAt b k) = false := decide_eq_false e2
    by_cases e3 : k = 0
    ·have f3' : ¬ (0 : Int) < (k : Int) := by omega
     have f3 : decide ((0 : Int) < (k : Int)) = false := decide_eq_false f3'
     have HV : Hid (supsGood b (k + 1) = true) := supsGood_succ HG.out (by unfold supGood;rw [f1,f2,decide_eq_true e3];rfl)
     clear e3
     go_wp2
     go_roundw
     case rel => exact ⟨k + 1,hlt,by go_num,HV,by trivial⟩
     case measure => simp [intOf];omega
    have f3 : decide ((0 : Int) < (k : Int)) = true := decide_eq_true (by omega)
    have z0 := HSx.out (k - 1) (by omega)
    have i4 : ((k : Int) - 1).toNat = k - 1 := by omega
    have i5 : (0 : Int) ≤ (k : Int) - 1 := by omega
    have i6 : (k : Int) - 1 < (b.sup.length : Int) := by omega
    have v1 : IntKind.i64.wrap ((k : Int) - 1) = (k : Int) - 1 := IntWalk.i64_in _ (by omega)
    have E3 : Hid (¬ k = 0) := e3
    by_cases e4 : supAt b k ≤ supAt b (k - 1)
    ·have f4 : decide (supAt b k ≤ supAt b (k - 1)) = true := decide_eq_true e4
     have HV : Hid (okBm b = false) := okBm_sup hlt (by unfold supGood;rw [f1,f2,f4,decide_eq_false E3.out];rfl)
     go_wp2
     go_ret
     exact ⟨ret_bool HV.out.symm,HB.out⟩
    have f4 : decide (supAt b k ≤ supAt b (k - 1)) = false := decide_eq_false e4
    have HV : Hid (supsGood b (k + 1) = true) := supsGood_succ HG.out (by unfold supGood;rw [f1,f2,f4,decide_eq_false E3.out];rfl)
    go_wp2
    go_roundw
    case rel => exact ⟨k + 1,hlt,by go_num,HV,by trivial⟩
    case measure => simp [intOf];omega
   ·have hje : k = b.sup.length := by omega
    subst hje
    have HV : Hid (okBm b = b.loads.all (loadOk b.len)) := okBm_all HH.out HG.out
    have hc := containsFuncLoad (.slice Al b.loads.length cl) b.loads 209 #[.pointer (some ⟨w.heap.size,0,none⟩)] (fun x => !loadOk b.len x) entersBV W1 ((HL.out.below HB.out (Nat.le_refl _)).mono HB.out.size)
     (fun t _ w' hb' => bmValid1 _ t _ w' _ _ _ _ (HD.out.below hb' HD.out.lt))
    go_wp2_with (go_at_call 208;refine hc.mono ?_;rintro e w' ⟨rfl,hb'⟩)
    go_ret
    refine ⟨ret_bool ?_,HB.out.trans (hb'.mono HB.out.size)⟩
    rw [HV.out]
    exact not_any_not _ _
end Go.Proofs.YtbhmkcjddpniiaaGreatDoor

namespace Go.Proofs.YtbhmkcjddpniiaaGreatDoor
open Go.RowKit Go.Shelf
def beamErr (b : BeamT) : Int := if okBm b then (if tiltOk b then 0 else 22) else 1
def GivenPost (b : BeamT) (w : World) (e : Ending) (w' : World) : Prop :=
 Below w.heap.size w w' ∧ ((okBm b = true ∧ tiltOk b = true ∧ ∃ v,e = .returned (.tuple #[v,.int .i64 0]) ∧ ExsAt w' v (momL b)) ∨ (beamErr b ≠ 0 ∧ e = .returned (.tuple #[.slice none 0 0,.int .i64 (beamErr b)])))
set_option maxRecDepth 100000 in
set_option maxHeartbeats 4000000 in
theorem bmGiven (v : Value) (b : BeamT) (w : World) (hv : BeamAt w w.heap.size v b) (hn : b.name.size ≤ maxLen) : Calls Tryz.prog 143 #[v] w (GivenPost b w) := by
 have HVa := fun W h => bmValid v b W h hn
 have HMo := fun h W h1 => bmMoments v b W h1 h
 obtain ⟨As,cs,Al,cl,rfl,hS,hL⟩ := hv
 have HV : Hid (BeamAt w w.heap.size (.agg #[.string b.name,.int .i64 b.len,.slice As b.sup.length cs,.slice Al b.loads.length cl,.int .i64 b.even]) b) := ⟨As,cs,Al,cl,rfl,hS,hL⟩
 have HD := Lib.hid (Blk.new w 129 #[.string b.name,.int .i64 b.len,.slice As b.sup.length cs,.slice Al b.loads.length cl,.int .i64 b.even])
 have HB := Lib.hid ((Below.refl _ w).alloc (Nat.le_refl _) (.cells #[.string b.name,.int .i64 b.len,.slice As b.sup.length cs,.slice Al b.loads.length cl,.int .i64 b.even] 129))
 clear hS hL
 go_enter Tryz.func143,Tryz.ntmps143
 go_wp2_with (exact Go.WalkKit.wp_stop)
 generalize w.alloc (.cells #[.string b.name,.int .i64 b.len,.slice As b.sup.length cs,.slice Al b.loads.length cl,.int .i64 b.even] 129) = W1 at *
 have hva := HVa W1 (HV.out.grow HB.out)
 have HMo := Lib.hid HMo
 have y0 := HD.out.cell 0
 have y1 := HD.out.cell 1
 have y2 := HD.out.cell 2
 have y3 := HD.out.cell 3
 have y4 := HD.out.cell 4
 simp only [List.getElem?_toArray,List.getElem?_cons_succ,List.getElem?_cons_zero] at y0 y1 y2 y3 y4
 clear HVa
 cases hok : okBm b with
 | false =>
  rw [hok] at hva
  have HE : Hid (beamErr b = 1) := by unfold Hid beamErr;rw [hok];rfl
  go_wp2_with (go_at_call 174;refine hva.mono ?_;rintro e w2 ⟨rfl,hb2⟩)
  go_ret2
  exact ⟨HB.out.trans (hb2.mono HB.out.size),.inr ⟨by rw [HE.out];decide,by rw [HE.out];rfl⟩⟩
 | true =>
  rw [hok] at hva
  have Hok := Lib.hid hok
  clear hok
  cases ht : tiltOk b with
  | false =>
   have HT := Lib.hid ht
   clear ht
   have HE : Hid (beamErr b = 22) := by unfold Hid beamErr;rw [Hok.out,HT.out];rfl
   go_wp2_with (first | (go_at_call 174;refine hva.mono ?_;rintro e w2 ⟨rfl,hb2⟩;have HB2 := Lib.hid (HB.out.trans (hb2.mono HB.out.size));have HD2 := Lib.hid (HD.out.below hb2 HD.out.lt);clear hb2;have z0 := HD2.out.cell 0;have z1 := HD2.out.cell 1;have z2 := HD2.out.cell 2;have z3 := HD2.out.cell 3;have z4 := HD2.out.cell 4;simp only [List.getElem?_toArray,List.getElem?_cons_succ,List.getElem?_cons_zero] at z0 z1 z2 z3 z4;have hmo := HMo.out (okBm_ok Hok.out) w2 (HV.out.grow HB2.out);unfold MomPost at hmo;rw [HT.out] at hmo) | (go_at_call 175;refine hmo.mono ?_;rintro e w3 ⟨hb3,v3,rfl,h3⟩))
   go_ret2
   exact ⟨HB2.out.trans (hb3.mono HB2.out.size),.inr ⟨by rw [HE.out];decide,by rw [HE.out];rfl⟩⟩
  | true =>
   have HT := Lib.hid ht
   clear ht
   go_wp2_with (first | (go_at_call 174;refine hva.mono ?_;rintro e w2 ⟨rfl,hb2⟩;have HB2 := Lib.hid (HB.out.trans (hb2.mono HB.out.size));have HD2 := Lib.hid (HD.out.below hb2 HD.out.lt);clear hb2;have z0 := HD2.out.cell 0;have z1 := HD2.out.cell 1;have z2 := HD2.out.cell 2;have z3 := HD2.out.cell 3;have z4 := HD2.out.cell 4;simp only [List.getElem?_toArray,List.getElem?_cons_succ,List.getElem?_cons_zero] at z0 z1 z2 z3 z4;have hmo := HMo.out (okBm_ok Hok.out) w2 (HV.out.grow HB2.out);unfold MomPost at hmo;rw [HT.out] at hmo) | (go_at_call 175;refine hmo.mono ?_;rintro e w3 ⟨hb3,v3,rfl,h3⟩))
   go_ret2
   exact ⟨HB2.out.trans (hb3.mono HB2.out.size),.inl ⟨Hok.out,HT.out,v3,rfl,h3⟩⟩
end Go.Proofs.YtbhmkcjddpniiaaGreatDoor

namespace Go.Proofs.YtbhmkcjddpniiaaGreatDoor
open Go.RowKit Go.Shelf
set_option maxRecDepth 100000 in
set_option maxHeartbeats 1000000 in
theorem equalFrac (v1 v2 : Value) (l1 l2 : List FrT) (B : Nat) (w : World) (hl1 : FrsAt w B v1 l1) (hl2 : FrsAt w B v2 l2) :
  Calls Tryz.prog 33 #[v1,v2] w fun e w' => e = .returned (.bool (decide (l1 = l2))) ∧ ∃ n,w.drewN n = w' := by
 obtain ⟨A1,c1,rfl,hc1,hd1,hcell1⟩ := hl1.open_
 obtain ⟨A2,c2,rfl,hc2,hd2,hcell2⟩ := hl2.open_
 unfold maxLen at hd1 hd2
 clear hl1 hl2
 by_cases hlen : l1.length = l2.length
 ·have HL := Lib.hid hlen
  have hb : ((l1.length : Int) != l2.length) = false := by simp [hlen]
  have hle1 : l1.length ≤ l2.length := by omega
  have hle2 : l2.length ≤ l1.length := by omega
  clear hlen
  go_enter Tryz.func33,Tryz.ntmps33
  go_wp2
  go_loopw [13] (fun s wr => ∃ j : Nat,j ≤ l1.length ∧ s = .int .i64 j ∧ l1.take j = l2.take j ∧ ∃ n,wr = w.drewN n) (fun x _ => l1.length - (intOf x).toNat)
  case atStart => exact ⟨0,Nat.zero_le _,rfl,by simp,0,rfl⟩
  case round =>
   obtain ⟨j,hj,rfl,hnm,n,rfl⟩ := hrel
   have Hnm := Lib.hid hnm
   clear hnm
   by_cases hlt : j < l1.length
   ·have hlt2 : j < l2.length := by omega
    obtain ⟨b1,off1,rfl,hb1,hcell1⟩ := hcell1 j hlt
    obtain ⟨b2,off2,rfl,hb2,hcell2⟩ := hcell2 j hlt2
    obtain ⟨h1,h1'⟩ := hcell1 j hlt
    obtain ⟨h2,h2'⟩ := hcell2 j hlt2
    clear hcell1 hcell2
    by_cases hq : l1[j] = l2[j]
    ·have ht : (l1[j].num == l2[j].num) = true := by rw [hq];exact beq_self_eq_true _
     have ht' : (l1[j].den == l2[j].den) = true := by rw [hq];exact beq_self_eq_true _
     have HQ := Lib.hid hq
     clear hq
     go_wp2
     go_quiet (fail)
     go_wp2
     go_roundw
     case rel => exact ⟨j + 1,by omega,by go_num,by rw [take_snoc l1 j hlt,take_snoc l2 j hlt2,Hnm.out,HQ.out],_,rfl⟩
     case measure => simp [intOf];omega
    ·have HQ := Lib.hid hq
     by_cases hn : l1[j].num = l2[j].num
     ·have ht : (l1[j].num == l2[j].num) = true := beq_iff_eq.2 hn
      have ht' : (l1[j].den == l2[j].den) = false := beq_eq_false_iff_ne.2 fun h => HQ.out (by
       cases e1 : l1[j];cases e2 : l2[j]
       rw [e1,e2] at hn h
       simp only at hn h
       rw [hn,h])
      clear hq hn
      go_wp2
      go_quiet (fail)
      go_wp2
      go_ret
      exact ⟨ret_bool (by symm;rw [decide_eq_false_iff_not];intro e;subst e;exact HQ.out rfl),q2⟩
     ·have ht : (l1[j].num == l2[j].num) = false := beq_eq_false_iff_ne.2 hn
      clear hq hn
      go_wp2
      go_quiet (fail)
      go_wp2
      go_ret
      exact ⟨ret_bool (by symm;rw [decide_eq_false_iff_not];intro e;subst e;exact HQ.out rfl),q2⟩
   ·have hje : j = l1.length := by omega
    subst hje
    go_wp2
    go_ret
    exact ⟨ret_bool (by symm;rw [decide_eq_true_iff];have := Hnm.out;rw [List.take_length,HL.out,List.take_length] at this;exact this),q1⟩
 ·have hb : ((l1.length : Int) != l2.length) = true := by simp;omega
  have hne : l1 ≠ l2 := fun e => hlen (by rw [e])
  go_enter Tryz.func33,Tryz.ntmps33
  go_wp2
  go_ret
  exact ⟨ret_bool (by symm;simpa using hne),0,rfl⟩
end Go.Proofs.YtbhmkcjddpniiaaGreatDoor
