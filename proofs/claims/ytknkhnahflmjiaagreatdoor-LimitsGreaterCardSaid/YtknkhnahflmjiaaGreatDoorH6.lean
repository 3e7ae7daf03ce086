/- Parts of the proof, laid into one text: LimG, FindA, LimP, Concat, LimC. -/
import Derived.BigQuiet
import Derived.Deep.AppendLies
import Derived.Deep.DeepCutAuto
import Derived.Deep.Draws
import Derived.Deep.LoopGhost
import Derived.Deep.QuietTactic
import Derived.Deep.RegionHeld3
import Derived.Deep.RegionLaw
import Derived.IntWalk
import Derived.Laws.AppendOwnNone
import Derived.Laws.Bits64b
import Derived.Lib.Hide
import Derived.LoopIn
import Derived.LoopNIn
import Derived.Maps.AppendAt
import Derived.Maps.Own
import Derived.Maps.OwnOps
import Derived.Maps.OwnSet
import Derived.Maps.Views
import Derived.Outline
import Derived.OwnWalkIn
import Derived.PlainAid
import Derived.RangeFuncBox
import Derived.RangeFuncLeaves
import Derived.Shelf.Abstract
import Derived.Shelf.Bits.Mul64
import Derived.Shelf.Spec.SlicesGrow
import Derived.Shelf.Strconv.Itoa3
import Derived.StillTail
import Derived.StillTailTactics
import Derived.TacticsInMore
import Derived.Test.YtknkhnahflmjiaaGreatDoorB1
import Derived.Test.YtknkhnahflmjiaaGreatDoorE1
import Derived.Test.YtknkhnahflmjiaaGreatDoorE2
import Derived.Test.YtknkhnahflmjiaaGreatDoorE3
import Derived.Test.YtknkhnahflmjiaaGreatDoorE4
import Derived.Test.YtknkhnahflmjiaaGreatDoorE5
import Derived.Test.YtknkhnahflmjiaaGreatDoorE6
import Derived.Test.YtknkhnahflmjiaaGreatDoorE7
import Derived.Test.YtknkhnahflmjiaaGreatDoorF1
import Derived.Test.YtknkhnahflmjiaaGreatDoorF2
import Derived.Test.YtknkhnahflmjiaaGreatDoorF3
import Derived.Test.YtknkhnahflmjiaaGreatDoorF4
import Derived.Test.YtknkhnahflmjiaaGreatDoorH1
import Derived.Test.YtknkhnahflmjiaaGreatDoorH3
import Derived.Test.YtknkhnahflmjiaaGreatDoorH5
import Derived.Test.YtknkhnahflmjiaaGreatDoorProg
import Derived.WalkKit
import Derived.WalkLawsBesides
import Derived.WalkSpells

namespace Go.Proofs.YtknkhnahflmjiaaGreatDoor
open Go.RowKit Go.Shelf
set_option maxRecDepth 100000 in
set_option maxHeartbeats 2000000 in
theorem lfLines (v : Value) (s : SetT) (w : World) (hv : SetAt w w.heap.size v s) (hn : SetNames s) : Calls Tryz.prog 20 #[v] w (LinesPost s w) := by
 have hL := fun W (hb : Below w.heap.size w W) => batLinesT v s W (hv.grow hb) hn
 obtain ⟨Al,cl,Ai,ci,Ab,cb,rfl,-,-,-⟩ := hv
 have HB1 := Lib.hid ((Below.refl _ w).alloc (Nat.le_refl _) (.cells #[.string s.name,.int .i64 s.depth,.int .i64 s.low,.int .i64 s.high,.int .i64 s.len,.slice Al s.lines.length cl,.int .i64 s.pipe,.int .i64 s.arbor,.int .i64 s.purch,.int .i64 s.most,.int .i64 s.brake,.slice Ai s.items.length ci,.slice Ab s.bricks.length cb] 37))
 have hl := hL _ HB1.out
 clear hL hn
 unfold setVal at *
 go_enter Tryz.func20,Tryz.ntmps20
 go_wp2_with (go_at_call 66;refine hl.mono ?_;rintro e w2 ⟨hb2,h⟩;rcases h with ⟨hE,v4,rfl,h4⟩ | ⟨hE,rfl⟩)
 ·go_ret2
  exact ⟨HB1.out.trans (hb2.mono HB1.out.size),.inl ⟨hE,v4,rfl,h4⟩⟩
 ·go_ret2
  exact ⟨HB1.out.trans (hb2.mono HB1.out.size),.inr ⟨hE,rfl⟩⟩
def givenE (s : SetT) (f : FrT) : Int := if setB s = true then (if facE f = 0 then linesErr s else facE f) else 1
def Given23Post (s : SetT) (f : FrT) (w : World) (e : Ending) (w' : World) : Prop :=
 Below w.heap.size w w' ∧ ((givenE s f = 0 ∧ ∃ v,e = .returned (.tuple #[v,.int .i64 0]) ∧ FrsAt w' w'.heap.size v (linesL s)) ∨ (givenE s f ≠ 0 ∧ e = .returned (.tuple #[.slice none 0 0,.int .i64 (givenE s f)])))
set_option maxRecDepth 100000 in
set_option maxHeartbeats 4000000 in
theorem lmGiven (v : Value) (s : SetT) (f : FrT) (w : World) (hv : SetAt w w.heap.size v s) (hn : SetNames s) : Calls Tryz.prog 62 #[v,f.val] w (Given23Post s f w) := by
 have HVa := fun W (hb : Below w.heap.size w W) => batValid v s W (hv.grow hb) hn
 have HL := Lib.hid fun W (hb : Below w.heap.size w W) => lfLines v s W (hv.grow hb) hn
 have HF := Lib.hid fun W => lmIsFactor f W
 have HGe : Hid (givenE s f = if setB s = true then (if facE f = 0 then linesErr s else facE f) else 1) := rfl
 unfold Given23Post
 unfold LinesPost at HL
 obtain ⟨Al,cl,Ai,ci,Ab,cb,rfl,-,-,-⟩ := hv
 generalize facE f = fe at *
 generalize givenE s f = ge at *
 obtain ⟨num,den⟩ := f
 try simp only at *
 have hD := (Blk.new w 37 #[.string s.name,.int .i64 s.depth,.int .i64 s.low,.int .i64 s.high,.int .i64 s.len,.slice Al s.lines.length cl,.int .i64 s.pipe,.int .i64 s.arbor,.int .i64 s.purch,.int .i64 s.most,.int .i64 s.brake,.slice Ai s.items.length ci,.slice Ab s.bricks.length cb]).alloc (.cells #[.int .i64 num,.int .i64 den] 23)
 have hE := Blk.new (w.alloc (.cells #[.string s.name,.int .i64 s.depth,.int .i64 s.low,.int .i64 s.high,.int .i64 s.len,.slice Al s.lines.length cl,.int .i64 s.pipe,.int .i64 s.arbor,.int .i64 s.purch,.int .i64 s.most,.int .i64 s.brake,.slice Ai s.items.length ci,.slice Ab s.bricks.length cb] 37)) 23 #[.int .i64 num,.int .i64 den]
 rw [World.size_alloc] at hE
 have HD := Lib.hid hD
 have HE := Lib.hid hE
 have HB1 := Lib.hid (((Below.refl _ w).alloc (Nat.le_refl _) (.cells #[.string s.name,.int .i64 s.depth,.int .i64 s.low,.int .i64 s.high,.int .i64 s.len,.slice Al s.lines.length cl,.int .i64 s.pipe,.int .i64 s.arbor,.int .i64 s.purch,.int .i64 s.most,.int .i64 s.brake,.slice Ai s.items.length ci,.slice Ab s.bricks.length cb] 37)).alloc (by simp) (.cells #[.int .i64 num,.int .i64 den] 23))
 have hva := HVa _ HB1.out
 clear HVa hn hD hE
 unfold setVal at *
 go_enter Tryz.func62,Tryz.ntmps62
 go_wp2_with (go_at_call 87;fail)
 generalize (w.alloc (.cells #[.string s.name,.int .i64 s.depth,.int .i64 s.low,.int .i64 s.high,.int .i64 s.len,.slice Al s.lines.length cl,.int .i64 s.pipe,.int .i64 s.arbor,.int .i64 s.purch,.int .i64 s.most,.int .i64 s.brake,.slice Ai s.items.length ci,.slice Ab s.bricks.length cb] 37)).alloc (.cells #[.int .i64 num,.int .i64 den] 23) = W1 at *
 go_at_call 87
 refine hva.mono ?_
 rintro e w2 ⟨rfl,hb2⟩
 have HB2 := Lib.hid (HB1.out.trans (hb2.mono HB1.out.size))
 have HD2 := Lib.hid (HD.out.below hb2 HD.out.lt)
 have HE2 := Lib.hid (HE.out.below hb2 HE.out.lt)
 clear hva hb2 HB1 HD HE
 rcases Bool.eq_false_or_eq_true (setB s) with h0 | h0
 rotate_left
 ·have HR : Hid (ge = 1) := by unfold Hid;rw [HGe.out,if_neg (by rw [h0];simp)]
  rw [h0]
  clear h0 HGe
  go_wp2_with fail
  refine bodyPost_ret (results_tmp2 rfl _ _ _) (by rfl) ?_
  exact ⟨HB2.out,.inr ⟨by rw [HR.out];decide,by rw [HR.out];rfl⟩⟩
 rw [h0]
 have HGe2 : Hid (ge = if fe = 0 then linesErr s else fe) := by unfold Hid;rw [HGe.out,if_pos h0]
 clear h0 HGe
 have e0 := HE2.out.cell 0
 have e1 := HE2.out.cell 1
 simp only [List.getElem?_toArray,List.getElem?_cons_succ,List.getElem?_cons_zero] at e0 e1
 have hf := HF.out w2
 go_wp2_with (go_at_call 79;fail)
 go_at_call 79
 refine hf.mono ?_
 rintro e w3 ⟨rfl,hb3⟩
 have HB3 := Lib.hid (HB2.out.trans (hb3.mono HB2.out.size))
 have HD3 := Lib.hid (HD2.out.below hb3 HD2.out.lt)
 clear hf hb3 HB2 HD2 HE2 e0 e1 HF
 by_cases c : fe = 0
 rotate_left
 ·have d1 : (fe != 0) = true := bne_iff_ne.2 c
  have HR : Hid (ge = fe) := by unfold Hid;rw [HGe2.out,if_neg c]
  have HC := Lib.hid c
  clear c HGe2
  go_wp2_with fail
  refine bodyPost_ret (results_tmp2 rfl _ _ _) (by rfl) ?_
  exact ⟨HB3.out,.inr ⟨by rw [HR.out];exact HC.out,by rw [HR.out];rfl⟩⟩
 have HR : Hid (ge = linesErr s) := by unfold Hid;rw [HGe2.out,if_pos c]
 subst c
 clear HGe2
 have z0 := HD3.out.cell 0;have z1 := HD3.out.cell 1;have z2 := HD3.out.cell 2;have z3 := HD3.out.cell 3;have z4 := HD3.out.cell 4;have z5 := HD3.out.cell 5;have z6 := HD3.out.cell 6;have z7 := HD3.out.cell 7;have z8 := HD3.out.cell 8;have z9 := HD3.out.cell 9;have z10 := HD3.out.cell 10;have z11 := HD3.out.cell 11;have z12 := HD3.out.cell 12
 simp only [List.getElem?_toArray,List.getElem?_cons_succ,List.getElem?_cons_zero] at z0 z1 z2 z3 z4 z5 z6 z7 z8 z9 z10 z11 z12
 have hl := HL.out _ HB3.out
 clear HL
 go_wp2_with (go_at_call 20;fail)
 go_at_call 20
 refine hl.mono ?_
 rintro e w4 ⟨hb4,h⟩
 have HB4 := Lib.hid (HB3.out.trans (hb4.mono HB3.out.size))
 clear hl hb4 HB3 HD3 z0 z1 z2 z3 z4 z5 z6 z7 z8 z9 z10 z11 z12
 rcases h with ⟨hE,v4,rfl,h4⟩ | ⟨hE,rfl⟩
 ·go_wp2_with fail
  refine bodyPost_ret (results_tmp2 rfl _ _ _) (by rfl) ?_
  exact ⟨HB4.out,.inl ⟨by rw [HR.out];exact hE,v4,rfl,h4⟩⟩
 ·have HX := Lib.hid hE
  clear hE
  go_wp2_with fail
  refine bodyPost_ret (results_tmp2 rfl _ _ _) (by rfl) ?_
  exact ⟨HB4.out,.inr ⟨by rw [HR.out];exact HX.out,by rw [HR.out];rfl⟩⟩
end Go.Proofs.YtknkhnahflmjiaaGreatDoor

namespace Go.Proofs.YtknkhnahflmjiaaGreatDoor
open Go.RowKit Go.Shelf
structure FindT where
 kind : Int
 name : ByteArray
deriving DecidableEq
def FindT.cells (x : FindT) : List Value := [.int .i64 x.kind,.string x.name]
def FindsAt (w : World) (B : Nat) (v : Value) (l : List FindT) : Prop := Flat w B v l.length (l.flatMap FindT.cells)
theorem info_find : (Tryz.prog.info? 49).map (fun i => (i.zero,i.size,i.bytes)) = some (some (.agg #[.int .i64 0,.string ⟨#[]⟩]),2,24) := by kernel_rfl
theorem find_get (l : List FindT) (j i : Nat) (hj : j < l.length) (hi : i < 2) : (l.flatMap FindT.cells)[j * 2 + i]? = l[j].cells[i]? := flatGet FindT.cells 2 (fun _ => rfl) l j i hj hi
theorem FindsAt.open_ {w : World} {B : Nat} {v : Value} {l : List FindT} (h : FindsAt w B v l) :
  ∃ A c,v = .slice A l.length c ∧ l.length ≤ c ∧ c ≤ maxLen ∧ ∀ k (_ : k < l.length),∃ b off,A = some ⟨b,off,none⟩ ∧ b < B ∧ ∀ j (hj : j < l.length),w.cell? ⟨b,off + j * 2,none⟩ = some (.int .i64 l[j].kind) ∧ w.cell? ⟨b,off + j * 2 + 1,none⟩ = some (.string l[j].name) := by
 obtain ⟨A,c,h1,h2,h3,h4⟩ := h
 refine ⟨A,c,h1,h2,h3,fun k hk => ?_⟩
 obtain ⟨b,off,e,hlt,hc⟩ := h4 (by omega)
 refine ⟨b,off,e,hlt,fun j hj => ?_⟩
 have f := fun (i : Nat) (hi : i < 2) u (hu : l[j].cells[i]? = some u) => hc (j * 2 + i) u ((find_get l j i hj hi).trans hu)
 have g := fun (i : Nat) (hi : i < 2) u (hu : l[j].cells[i]? = some u) => (congrArg (fun o => w.cell? ⟨b,o,none⟩) (Nat.add_assoc off (j * 2) i)).trans (f i hi u hu)
 exact ⟨g 0 (by omega) _ rfl,g 1 (by omega) _ rfl⟩
theorem FindsAt.below {w w' : World} {B B' : Nat} {v : Value} {l : List FindT} (h : FindsAt w B v l) (hb : Below B' w w') (hB : B ≤ B') : FindsAt w' B v l := Flat.below h hb hB
theorem FindsAt.mono {w : World} {B B' : Nat} {v : Value} {l : List FindT} (h : FindsAt w B v l) (hB : B ≤ B') : FindsAt w B' v l := Flat.mono h hB
set_option maxHeartbeats 1000000 in
theorem equalFind (v1 v2 : Value) (l1 l2 : List FindT) (B : Nat) (w : World) (hl1 : FindsAt w B v1 l1) (hl2 : FindsAt w B v2 l2) :
  Calls Tryz.prog 27 #[v1,v2] w fun e w' => e = .returned (.bool (decide (l1 = l2))) ∧ ∃ n,w.drewN n = w' := by
 obtain ⟨A1,c1,rfl,hc1,hd1,hcell1⟩ := hl1.open_
 obtain ⟨A2,c2,rfl,hc2,hd2,hcell2⟩ := hl2.open_
 unfold maxLen at hd1 hd2
 clear hl1 hl2
 by_cases hlen : l1.length = l2.length
 ·have HL := Lib.hid hlen
  have hb : ((l1.length : Int) != l2.length) = false := by simp [hlen]
  have hle1 : l1.length ≤ l2.length := by omega
  have hle2 : l2.length ≤ l1.length := by omega
  clear hlen
  go_enter Tryz.func27,Tryz.ntmps27
  go_wp2
  go_loopw [13] (fun s wr => ∃ j : Nat,j ≤ l1.length ∧ s = .int .i64 j ∧ l1.take j = l2.take j ∧ ∃ n,wr = w.drewN n) (fun x _ => l1.length - (intOf x).toNat)
  case atStart => exact ⟨0,Nat.zero_le _,rfl,by simp,0,rfl⟩
  case round =>
   obtain ⟨j,hj,rfl,hnm,n,rfl⟩ := hrel
   have Hnm := Lib.hid hnm
   clear hnm
   by_cases hlt : j < l1.length
   ·have hlt2 : j < l2.length := by omega
    obtain ⟨b1,off1,rfl,hb1,hcell1⟩ := hcell1 j hlt
    obtain ⟨b2,off2,rfl,hb2,hcell2⟩ := hcell2 j hlt2
    obtain ⟨h1,h1'⟩ := hcell1 j hlt
    obtain ⟨h2,h2'⟩ := hcell2 j hlt2
    clear hcell1 hcell2
    by_cases hq : l1[j] = l2[j]
    ·have ht : (l1[j].kind == l2[j].kind) = true := by rw [hq];exact beq_self_eq_true _
     have ht' : (l1[j].name.toList == l2[j].name.toList) = true := by rw [hq];exact beq_self_eq_true _
     have HQ := Lib.hid hq
     clear hq
     go_wp2
     go_quiet (fail)
     go_wp2
     go_roundw
     case rel => exact ⟨j + 1,by omega,by go_num,by rw [take_snoc l1 j hlt,take_snoc l2 j hlt2,Hnm.out,HQ.out],_,rfl⟩
     case measure => simp [intOf];omega
    ·have HQ := Lib.hid hq
     by_cases hn : l1[j].kind = l2[j].kind
     ·have ht : (l1[j].kind == l2[j].kind) = true := beq_iff_eq.2 hn
      have ht' : (l1[j].name.toList == l2[j].name.toList) = false := by
       rw [str_beq]
       exact decide_eq_false fun h => HQ.out (by
       cases e1 : l1[j];cases e2 : l2[j]
       rw [e1,e2] at hn h
       simp only at hn h
       rw [hn,h])
      clear hq hn
      go_wp2
      go_quiet (fail)
      go_wp2
      go_ret
      exact ⟨ret_bool (by symm;rw [decide_eq_false_iff_not];intro e;subst e;exact HQ.out rfl),q2⟩
     ·have ht : (l1[j].kind == l2[j].kind) = false := beq_eq_false_iff_ne.2 hn
      clear hq hn
      go_wp2
      go_quiet (fail)
      go_wp2
      go_ret
      exact ⟨ret_bool (by symm;rw [decide_eq_false_iff_not];intro e;subst e;exact HQ.out rfl),q2⟩
   ·have hje : j = l1.length := by omega
    subst hje
    go_wp2
    go_ret
    exact ⟨ret_bool (by symm;rw [decide_eq_true_iff];have := Hnm.out;rw [List.take_length,HL.out,List.take_length] at this;exact this),q1⟩
 ·have hb : ((l1.length : Int) != l2.length) = true := by simp;omega
  have hne : l1 ≠ l2 := fun e => hlen (by rw [e])
  go_enter Tryz.func27,Tryz.ntmps27
  go_wp2
  go_ret
  exact ⟨ret_bool (by symm;simpa using hne),0,rfl⟩
abbrev FindT.val (x : FindT) : Value := .agg #[.int .i64 x.kind,.string x.name]
set_option maxRecDepth 100000 in
set_option maxHeartbeats 400000 in
theorem indexFuncFind (v : Value) (l : List FindT) (K : Nat) (C : Array Value) (p : FindT → Bool) (eg : ∀ args w,(callFunc K args).run Tryz.prog w = .ok (.enter K args) w) (w : World) (hl : FindsAt w w.heap.size v l)
  (hf : ∀ t ∈ l,∀ w',Below w.heap.size w w' → Calls Tryz.prog K (#[t.val] ++ C) w' fun e w'' => e = .returned (.bool (p t)) ∧ Below w'.heap.size w' w'') :
  Calls Tryz.prog 76 #[v,.func (.func K) #[] C] w fun e w' => e = .returned (.int .i64 (idxOf (l.findIdx? p))) ∧ Below w.heap.size w w' := by
 obtain ⟨A,c,rfl,hc1,hc2,hcell⟩ := hl.open_
 unfold maxLen at hc2
 have HF := Lib.hid hf
 clear hf
 go_enter Tryz.func76,Tryz.ntmps76
 go_wp2
 go_loopw [8] (fun x wr => ∃ j : Nat,j ≤ l.length ∧ x = .int .i64 j ∧ (l.take j).findIdx? p = none ∧ Below w.heap.size w wr) (fun x _ => l.length - (intOf x).toNat)
 case atStart => exact ⟨0,Nat.zero_le _,rfl,by simp,Below.refl _ _⟩
 case round =>
  obtain ⟨j,hj,rfl,hnm,hbel⟩ := hrel
  have Hnm := Lib.hid hnm
  clear hnm
  by_cases hlt : j < l.length
  ·obtain ⟨b,off,rfl,hb,hcell⟩ := hcell j hlt
   have h0 := (hbel.cell (p := ⟨b,off + j * 2,none⟩) hb).trans (hcell j hlt).1
   have h1 := (hbel.cell (p := ⟨b,off + j * 2 + 1,none⟩) hb).trans (hcell j hlt).2
   clear hcell
   have hcall := HF.out l[j] (List.getElem_mem hlt)
   cases hq : p l[j] with
   | true =>
    rw [hq] at hcall
    go_wp2_with (go_at_fn K;refine (hcall _ hbel).mono ?_;rintro e w' ⟨rfl,hb'⟩)
    go_ret
    exact ⟨by rw [find_hit Hnm.out hlt hq];rfl,hbel.trans (hb'.mono hbel.size)⟩
   | false =>
    rw [hq] at hcall
    go_wp2_with (go_at_fn K;refine (hcall _ hbel).mono ?_;rintro e w' ⟨rfl,hb'⟩)
    go_roundw
    case rel => exact ⟨j + 1,by omega,by go_num,find_miss Hnm.out hlt hq,hbel.trans (hb'.mono hbel.size)⟩
    case measure => simp [intOf];omega
  ·have hje : j = l.length := by omega
   subst hje
   go_wp2
   go_ret
   exact ⟨by rw [← List.take_length (l := l),Hnm.out];rfl,hbel⟩
set_option maxHeartbeats 400000 in
theorem containsFuncFind (v : Value) (l : List FindT) (K : Nat) (C : Array Value) (p : FindT → Bool) (eg : ∀ args w,(callFunc K args).run Tryz.prog w = .ok (.enter K args) w) (w : World) (hl : FindsAt w w.heap.size v l)
  (hf : ∀ t ∈ l,∀ w',Below w.heap.size w w' → Calls Tryz.prog K (#[t.val] ++ C) w' fun e w'' => e = .returned (.bool (p t)) ∧ Below w'.heap.size w' w'') :
  Calls Tryz.prog 29 #[v,.func (.func K) #[] C] w fun e w' => e = .returned (.bool (l.any p)) ∧ Below w.heap.size w w' := by
 have hc := indexFuncFind v l K C p eg w hl hf
 have hbd := idx_bd p l
 have HA := Lib.hid (idx_any p l)
 generalize idxOf (l.findIdx? p) = x at *
 clear hf hl
 go_enter Tryz.func29,Tryz.ntmps29
 go_wp2_with (go_at_call 76;refine hc.mono ?_;rintro e w' ⟨rfl,hb'⟩)
 go_ret
 exact ⟨ret_bool HA.out,hb'⟩
end Go.Proofs.YtknkhnahflmjiaaGreatDoor

namespace Go.Proofs.YtknkhnahflmjiaaGreatDoor
open Go.RowKit Go.Shelf
def slackB (a : FrT) : Bool := decide (a.num < 0)
def hitsN (kind : Int) (p : FrT → Bool) (l : List FrT) : Nat → List FindT
 | 0 => []
 | k + 1 => hitsN kind p l k ++ (match l[k]? with | some f => if p f then [⟨kind,itoaB (k + 1)⟩] else [] | none => [])
theorem hitsN_yes {kind : Int} {p : FrT → Bool} {l : List FrT} {k : Nat} (hk : k < l.length) (h : p l[k] = true) : hitsN kind p l (k + 1) = hitsN kind p l k ++ [⟨kind,itoaB (k + 1)⟩] := by
 rw [hitsN,List.getElem?_eq_getElem hk]
 dsimp only
 rw [if_pos h]
theorem hitsN_no {kind : Int} {p : FrT → Bool} {l : List FrT} {k : Nat} (hk : k < l.length) (h : p l[k] = false) : hitsN kind p l (k + 1) = hitsN kind p l k := by
 rw [hitsN,List.getElem?_eq_getElem hk]
 dsimp only
 rw [if_neg (by rw [h];simp),List.append_nil]
theorem hitsN_len {kind : Int} {p : FrT → Bool} {l : List FrT} : ∀ k,(hitsN kind p l k).length ≤ k
 | 0 => Nat.le_refl _
 | k + 1 => by
  have := hitsN_len (kind := kind) (p := p) (l := l) k
  rw [hitsN,List.length_append]
  split
  ·split <;> simp <;> omega
  ·simp;omega
def finds23 (m : Int) (f : FrT) (l : List FrT) : List FindT := hitsN 1 (over23 m f) l l.length ++ hitsN 2 slackB l l.length
def fits23 (f : FrT) (l : List FrT) : Bool := l.all fun a => fracOk (qOf a * qOf f)
end Go.Proofs.YtknkhnahflmjiaaGreatDoor

namespace Go.Proofs.YtknkhnahflmjiaaGreatDoor
open Go.RowKit Go.Shelf
def growRen : Ren := ⟨fun | 4 => 104 | n => n,fun | 0 => 0 | 3 => 3 | 4 => 4 | 9 => 9 | 20 => 20 | 22 => 39 | 25 => 49 | n => n,fun n => n⟩
theorem growLays : Lays8.n4 Tryz.prog growRen := {
 mixed := by kernel_rfl
 f4 := ⟨"slices.Grow[[]loftblock/api.Finding,loftblock/api.Finding]",rfl,Tryz.func104.trans (congrArg some (by kernel_rfl))⟩
 t0 := Tryz.underlying0
 a0 := Tryz.isAgg0
 z0 := Tryz.sizeOf0
 v0 := Tryz.zeroValue0
 t3 := Tryz.underlying3
 a3 := Tryz.isAgg3
 z3 := Tryz.sizeOf3
 v3 := Tryz.zeroValue3
 t4 := Tryz.underlying4
 a4 := Tryz.isAgg4
 z4 := Tryz.sizeOf4
 v4 := Tryz.zeroValue4
 t9 := Tryz.underlying9
 a9 := Tryz.isAgg9
 z9 := Tryz.sizeOf9
 v9 := Tryz.zeroValue9
 t20 := Tryz.underlying20
 a20 := Tryz.isAgg20
 z20 := Tryz.sizeOf20
 v20 := Tryz.zeroValue20
 t22 := Tryz.underlying39
 a22 := Tryz.isAgg39
 z22 := Tryz.sizeOf39
 v22 := Tryz.zeroValue39 }
theorem zero_cells (z : Array Value) (n : Nat) : (Builtin.zeroCells z n).size = n * z.size := by
 unfold Builtin.zeroCells
 simp
theorem growFind (n : Nat) (hn : n ≤ 400) (w : World) : Calls Tryz.prog 104 #[.slice none 0 0,.int .i64 n] w fun e w' => ∃ v,e = .returned v ∧ w'.ownsRow w.heap.size 49 2 v 0 [] ∧ Below w.heap.size w w' := by
 rcases Nat.eq_zero_or_pos n with h0 | h0
 ·subst h0
  exact (Any8.slices_Grow_room growLays none 0 0 0 w (Nat.le_refl _) (by decide) (by decide) (Nat.le_refl _)).mono fun _ _ h => ⟨_,h.1,by rw [h.2];exact World.ownsRow_nil _ _ _ _,by rw [h.2];exact Below.refl _ _⟩
 ·obtain ⟨iF,hiF,hzF0,hzF1,hzF2⟩ := info_parts info_find
  refine (Any8.slices_Grow_grow growLays iF (.agg #[.int .i64 0,.string ⟨#[]⟩]) hiF hzF0 (by rw [hzF1];decide) none 0 0 n [] w (Nat.le_refl _) (by omega) (by rw [hzF2];omega) (by omega) (by rw [Nat.zero_mul];rfl) (fun _ => rfl) (fun a h => by cases h)).mono ?_
  rintro e w' ⟨rfl,rfl⟩
  have h1 := grownCap_ge w (0 + n) 0 49
  have h2 := grownCap_le_maxLen w (0 + n) 0 49 (by unfold maxLen;omega)
  refine ⟨_,rfl,?_,(Below.refl _ w).drew.alloc (Nat.le_refl _) _⟩
  refine World.ownsRow_made w.drew _ _ (Nat.le_refl _) h2 ?_
  rw [Array.size_append,Array.size_append,zero_cells,zero_cells]
  show 0 + (0 + n - 0) * 2 + (grownCap w (0 + n) 0 49 - (0 + n)) * 2 = grownCap w (0 + n) 0 49 * 2
  omega
theorem addr_add (b off k : Nat) : (Addr.mk b off none).add k = ⟨b,off + k,none⟩ := by
 unfold Addr.add
 split
 ·rename_i h;subst h;rfl
 ·rfl
theorem src_of {w : World} {B : Nat} {v : Value} {l : List FindT} (h : w.ownsRow B 49 2 v l.length (l.flatMap FindT.cells)) :
  (v = .slice none 0 0 ∧ l = []) ∨ ∃ g cap,v = .slice (some ⟨g,0,none⟩) l.length cap ∧ ∀ (j : Nat) u,(l.flatMap FindT.cells)[j]? = some u → w.cell? ((⟨g,0,none⟩ : Addr).add j) = some u := by
 obtain ⟨hl,⟨rfl,h0⟩ | ⟨g,cap,cur,rfl,hb,hg,hnc,hcm,hcs,ht⟩⟩ := h
 ·exact .inl ⟨rfl,List.length_eq_zero_iff.1 h0⟩
 ·refine .inr ⟨g,cap,rfl,fun j u hu => ?_⟩
  have : (⟨g,0,none⟩ : Addr).add j = ⟨g,j,none⟩ := by
   rw [addr_add,Nat.zero_add]
  rw [this,cell_of_row w g j cur 49 (0,0) hg]
  rw [← ht,List.getElem?_take] at hu
  split at hu
  ·simpa using hu
  ·cases hu
theorem find_cells (l : List FindT) : (l.flatMap FindT.cells).length = l.length * 2 ∧ ∀ u ∈ l.flatMap FindT.cells,u.oneCell' = true := by
 induction l with
 | nil => simp
 | cons x l ih =>
  rw [List.flatMap_cons]
  refine ⟨by rw [List.length_append,ih.1,List.length_cons,Nat.succ_mul];show 2 + _ = _;omega,fun u hu => ?_⟩
  rcases List.mem_append.1 hu with h | h
  ·unfold FindT.cells at h
   simp only [List.mem_cons,List.not_mem_nil,or_false] at h
   rcases h with rfl | rfl <;> rfl
  ·exact ih.2 u h
def catTo (l1 l2 : List FindT) : Nat → List FindT
 | 0 => []
 | 1 => l1
 | _ => l1 ++ l2
set_option maxRecDepth 100000 in
set_option maxHeartbeats 2000000 in
theorem concatFind (v1 v2 : Value) (l1 l2 : List FindT) (g c B1 B2 : Nat) (w : World) (h1 : w.ownsRow B1 49 2 v1 l1.length (l1.flatMap FindT.cells)) (h2 : w.ownsRow B2 49 2 v2 l2.length (l2.flatMap FindT.cells)) (hlen : l1.length ≤ 100 ∧ l2.length ≤ 100)
  (hb : Blk w g 39 #[v1,v2]) : Calls Tryz.prog 64 #[.slice (some ⟨g,0,none⟩) 2 c] w fun e w' => ∃ v,e = .returned v ∧ FindsAt w' w'.heap.size v (l1 ++ l2) ∧ Below w.heap.size w w' := by
 have e1 : ∃ A1 c1,v1 = .slice A1 l1.length c1 := by obtain ⟨A,c,e,-⟩ := Flat.of_own h1;exact ⟨A,c,e⟩
 have e2 : ∃ A2 c2,v2 = .slice A2 l2.length c2 := by obtain ⟨A,c,e,-⟩ := Flat.of_own h2;exact ⟨A,c,e⟩
 obtain ⟨A1,c1,e1⟩ := e1
 obtain ⟨A2,c2,e2⟩ := e2
 obtain ⟨N,hN⟩ : ∃ N,l1.length + l2.length = N := ⟨_,rfl⟩
 have HG := Lib.hid fun W => growFind N (by omega) W
 have HS1 := Lib.hid h1
 have HS2 := Lib.hid h2
 have HBk := Lib.hid hb
 obtain ⟨iF,hiF,hzF0,hzF1,hzF2⟩ := info_parts info_find
 have b0 := hb.cell 0
 have b1 := hb.cell 1
 simp only [List.getElem?_toArray,List.getElem?_cons_succ,List.getElem?_cons_zero] at b0 b1
 rw [e1] at b0
 rw [e2] at b1
 have s1 : IntKind.i64.wrap (0 + (l1.length : Int)) = (l1.length : Int) := by rw [Int.zero_add];exact IntWalk.i64_in _ (by omega)
 have s2 : IntKind.i64.wrap ((l1.length : Int) + (l2.length : Int)) = (N : Int) := by rw [← Int.natCast_add,hN];exact IntWalk.i64_in _ (by omega)
 have s1' : IntKind.i64.wrap (l1.length : Int) = (l1.length : Int) := IntWalk.i64_in _ (by omega)
 obtain ⟨sz,hsz⟩ : ∃ sz : Nat → Nat,sz 0 = 0 ∧ sz 1 = l1.length ∧ sz 2 = N := ⟨fun k => if k = 0 then 0 else if k = 1 then l1.length else N,rfl,rfl,rfl⟩
 go_enter Tryz.func64,Tryz.ntmps64
 go_wp2_with fail
 go_loopw [11,3] (fun ix s wr => ∃ k : Nat,k ≤ 2 ∧ ix = .int .i64 k ∧ s = .int .i64 (sz k : Nat) ∧ w = wr) (fun ix _ _ => 2 - (intOf ix).toNat)
 case atStart => exact ⟨0,by omega,rfl,by rw [hsz.1];rfl,rfl⟩
 case round =>
  obtain ⟨k,hk,rfl,rfl,rfl⟩ := hrel
  have hk3 : k = 0 ∨ k = 1 ∨ k = 2 := by omega
  rcases hk3 with rfl | rfl | rfl
  ·rw [hsz.1]
   have hn0 : decide ((l1.length : Int) < 0) = false := decide_eq_false (by omega)
   go_wp2_with fail
   go_roundw
   case rel => exact ⟨1,by omega,rfl,by rw [hsz.2.1],by first | rfl | trivial⟩
   case measure => simp [intOf]
  ·rw [hsz.2.1]
   have hn0 : decide ((N : Int) < 0) = false := decide_eq_false (by omega)
   go_wp2_with fail
   go_roundw
   case rel => exact ⟨2,by omega,rfl,by rw [hsz.2.2],by first | rfl | trivial⟩
   case measure => simp [intOf]
  ·rw [hsz.2.2]
   clear s1 s2 s1'
   go_upto_region 10 with (first | (go_at_call 104;refine (HG.out _).mono ?_;rintro e w2 ⟨v0,rfl,hO,hB⟩))
   have HO := Lib.hid hO
   have HB := Lib.hid hB
   clear hO hB HG
   clear hsz
   have hk9 : ∀ k : Nat,k ≤ 2 → (catTo l1 l2 k).length ≤ 200 := fun k hk => by
    rcases (show k = 0 ∨ k = 1 ∨ k = 2 by omega) with rfl | rfl | rfl
    ·exact Nat.zero_le _
    ·show l1.length ≤ 200;omega
    ·show (l1 ++ l2).length ≤ 200;rw [List.length_append];omega
   go_wp2_with fail
   go_loopw [27,6] (fun ix v wr => ∃ k : Nat,k ≤ 2 ∧ ix = .int .i64 k ∧ Hid (wr.ownsRow w.heap.size 49 2 v (catTo l1 l2 k).length ((catTo l1 l2 k).flatMap FindT.cells) ∧ Below w.heap.size w wr)) (fun ix _ _ => 2 - (intOf ix).toNat)
   case atStart => exact ⟨0,by omega,rfl,HO.out,HB.out⟩
   case round =>
    clear HO HB
    obtain ⟨k,hk,rfl,HR⟩ := hrel
    have HO := Lib.hid HR.out.1
    have HB := Lib.hid HR.out.2
    have hbs := HB.out.size
    have hB := HBk.out.below HB.out HBk.out.lt
    have q0 := hB.cell 0
    have q1 := hB.cell 1
    simp only [List.getElem?_toArray,List.getElem?_cons_succ,List.getElem?_cons_zero] at q0 q1
    clear HR hB
    rcases (show k = 0 ∨ k = 1 ∨ k = 2 by omega) with rfl | rfl | rfl
    ·have HSk := Lib.hid (ownsRow_of HS1.out HB.out)
     obtain ⟨hnl,hn1⟩ := find_cells l1
     rcases src_of HSk.out with ⟨hv,hl⟩ | ⟨gk,capk,hv,hnw⟩
     ·rw [hv] at q0
      go_wp2_with (at_builtin;refine wpList_append_own_none rfl _ _ 39 rfl w.heap.size 49 iF 2 Tryz.underlying39 hiF _ _ _ rfl HO.out rfl ?_)
      go_roundw
      case rel => exact ⟨1,by omega,rfl,by rw [hl] at *;exact HO.out,HB.out⟩
      case measure => simp [intOf]
     ·rw [hv] at q0
      have hle := hk9 0 (by omega)
      go_wp2_with (at_builtin;refine wpList_append_own _ rfl _ _ 39 rfl w.heap.size 49 iF (.agg #[.int .i64 0,.string ⟨#[]⟩]) 2 24 Tryz.underlying39 hiF hzF0 hzF1 hzF2 rfl (by decide) _ _ _ rfl HO.out _ _ _ _ rfl hnl hnw hn1 (by unfold maxLen;omega) (by omega) hbs ?_;intro v9 w9 hown9 hgrow9 _;have HO9 := Lib.hid hown9;have HB9 := Lib.hid (HB.out.grown hgrow9 hbs (fun k e => (HO.out.lt k e).1));clear hown9 hgrow9)
      go_roundw
      case rel => exact ⟨1,by omega,rfl,by have h := HO9.out;rw [show (catTo l1 l2 0).length + l1.length = l1.length by show 0 + _ = _;omega] at h;exact h,HB9.out⟩
      case measure => simp [intOf]
    ·have HSk := Lib.hid (ownsRow_of HS2.out HB.out)
     obtain ⟨hnl,hn1⟩ := find_cells l2
     rcases src_of HSk.out with ⟨hv,hl⟩ | ⟨gk,capk,hv,hnw⟩
     ·rw [hv] at q1
      go_wp2_with (at_builtin;refine wpList_append_own_none rfl _ _ 39 rfl w.heap.size 49 iF 2 Tryz.underlying39 hiF _ _ _ rfl HO.out rfl ?_)
      go_roundw
      case rel => exact ⟨2,by omega,rfl,by have h := HO.out;rw [hl];show World.ownsRow _ _ _ _ _ (l1 ++ []).length ((l1 ++ []).flatMap FindT.cells);rw [List.append_nil];exact h,HB.out⟩
      case measure => simp [intOf]
     ·rw [hv] at q1
      have hle := hk9 1 (by omega)
      go_wp2_with (at_builtin;refine wpList_append_own _ rfl _ _ 39 rfl w.heap.size 49 iF (.agg #[.int .i64 0,.string ⟨#[]⟩]) 2 24 Tryz.underlying39 hiF hzF0 hzF1 hzF2 rfl (by decide) _ _ _ rfl HO.out _ _ _ _ rfl hnl hnw hn1 (by unfold maxLen;omega) (by omega) hbs ?_;intro v9 w9 hown9 hgrow9 _;have HO9 := Lib.hid hown9;have HB9 := Lib.hid (HB.out.grown hgrow9 hbs (fun k e => (HO.out.lt k e).1));clear hown9 hgrow9)
      go_roundw
      case rel => exact ⟨2,by omega,rfl,by have h := HO9.out;show World.ownsRow _ _ _ _ _ (l1 ++ l2).length ((l1 ++ l2).flatMap FindT.cells);rw [List.length_append,List.flatMap_append];exact h,HB9.out⟩
      case measure => simp [intOf]
    ·go_wp2_with fail
     go_ret
     exact ⟨_,rfl,Flat.of_own HO.out,HB.out⟩
end Go.Proofs.YtknkhnahflmjiaaGreatDoor

namespace Go.Proofs.YtknkhnahflmjiaaGreatDoor
open Go.RowKit Go.Shelf
structure ChkS (W0 W : World) (g : Nat) (fn fd er : Int) (ov sv : Value) (fo fs : List FindT) : Prop where
 bel : Below W0.heap.size W0 W
 chk : Blk W g 98 #[.int .i64 fn,.int .i64 fd,.int .i64 er]
 low : W0.heap.size ≤ g
 rowO : W.ownsRow W0.heap.size 49 2 ov fo.length (fo.flatMap FindT.cells)
 rowS : W.ownsRow W0.heap.size 49 2 sv fs.length (fs.flatMap FindT.cells)
 no : ov.ownBlock ≠ some g
 ns : sv.ownBlock ≠ some g
 ap : ∀ k,ov.ownBlock = some k → sv.ownBlock ≠ some k
section
variable {W0 W W' : World} {g : Nat} {fn fd er : Int} {ov sv : Value} {fo fs : List FindT}
theorem ChkS.grow (h : ChkS W0 W g fn fd er ov sv fo fs) (hb : Below W.heap.size W W') : ChkS W0 W' g fn fd er ov sv fo fs :=
 ⟨h.bel.trans (hb.mono h.bel.size),h.chk.below hb h.chk.lt,h.low,ownsRow_of h.rowO hb,ownsRow_of h.rowS hb,h.no,h.ns,h.ap⟩
theorem own_or {v : Value} {row : Option Nat} (h : ∀ k,v.ownBlock = some k → row ≠ some k) : v.ownBlock = none ∨ v.ownBlock ≠ row := by
 cases e : v.ownBlock with
 | none => exact .inl rfl
 | some k => exact .inr fun e2 => h k e e2.symm
theorem ChkS.err (h : ChkS W0 W g fn fd er ov sv fo fs) (z : Int) : ChkS W0 (W.setCell ⟨g,2,none⟩ (.int .i64 z)) g fn fd z ov sv fo fs :=
 ⟨h.bel.setCell (p := ⟨g,2,none⟩) h.low _,h.chk.set_ 2 _,h.low,h.rowO.kept (h.chk.setGrown 2 _) (.inr h.no),h.rowS.kept (h.chk.setGrown 2 _) (.inr h.ns),h.no,h.ns,h.ap⟩
theorem ChkS.pushO (h : ChkS W0 W g fn fd er ov sv fo fs) {v' : Value} {y : FindT} (hown : W'.ownsRow W0.heap.size 49 2 v' (fo.length + 1) (fo.flatMap FindT.cells ++ [.int .i64 y.kind,.string y.name])) (hg : W.grownBy W' ov.ownBlock) (hat : v'.ownBlock = ov.ownBlock ∨ v'.ownBlock = some W.heap.size) :
  ChkS W0 W' g fn fd er v' sv (fo ++ [y]) fs := by
 refine ⟨h.bel.grown hg h.bel.size (fun k e => (h.rowO.lt k e).1),h.chk.kept hg h.no.symm,h.low,?_,h.rowS.kept hg (own_or fun k e e2 => h.ap k e2 e),fun e => ?_,h.ns,fun k e e2 => ?_⟩
 ·rw [List.length_append,List.flatMap_append]
  exact hown
 ·rcases hat with h1 | h1
  ·exact h.no (h1.symm.trans e)
  ·rw [h1] at e
   have := h.chk.lt
   injection e with e
   omega
 ·rcases hat with h1 | h1
  ·exact h.ap k (h1.symm.trans e) e2
  ·rw [h1] at e
   have := (h.rowS.lt k e2).2
   injection e with e
   omega
theorem ChkS.pushS (h : ChkS W0 W g fn fd er ov sv fo fs) {v' : Value} {y : FindT} (hown : W'.ownsRow W0.heap.size 49 2 v' (fs.length + 1) (fs.flatMap FindT.cells ++ [.int .i64 y.kind,.string y.name])) (hg : W.grownBy W' sv.ownBlock) (hat : v'.ownBlock = sv.ownBlock ∨ v'.ownBlock = some W.heap.size) :
  ChkS W0 W' g fn fd er ov v' fo (fs ++ [y]) := by
 refine ⟨h.bel.grown hg h.bel.size (fun k e => (h.rowS.lt k e).1),h.chk.kept hg h.ns.symm,h.low,h.rowO.kept hg (own_or fun k e e2 => h.ap k e e2),?_,h.no,fun e => ?_,fun k e e2 => ?_⟩
 ·rw [List.length_append,List.flatMap_append]
  exact hown
 ·rcases hat with h1 | h1
  ·exact h.ns (h1.symm.trans e)
  ·rw [h1] at e
   have := h.chk.lt
   injection e with e
   omega
 ·rcases hat with h1 | h1
  ·exact h.ap k e (h1.symm.trans e2)
  ·rw [h1] at e2
   have := (h.rowO.lt k e).2
   injection e2 with e2
   omega
end
theorem Blk.errW {W : World} {k g : Nat} {t : TypeId} {cs : Array Value} {ok : Bool} (h : Blk W k t cs) (hne : k ≠ g) : Blk (errW ok g W) k t cs := by
 cases ok with
 | true => exact h
 | false => exact h.far (p := ⟨g,2,none⟩) hne _
theorem lines23 {s : SetT} (h : linesErr s = 0) : setB s = true ∧ (∀ f ∈ linesL s,frGood f = true) ∧ (linesL s).length ≤ 12 ∧ 0 < (linesL s).length := by
 unfold linesErr at h
 cases hs : setB s with
 | false => rw [hs] at h;cases h
 | true =>
  rw [hs] at h
  cases ha : allOk (reactL (beamS s)) with
  | false => rw [ha] at h;cases h
  | true =>
   refine ⟨rfl,fun f hf => ?_,?_⟩
   ·unfold linesL at hf
    rw [List.mem_map] at hf
    obtain ⟨q,hq,rfl⟩ := hf
    unfold allOk at ha
    exact good_q (List.all_eq_true.1 ha q hq)
   ·have h2 := set_two hs
    have e : (linesL s).length = s.lines.length := by
     unfold linesL reactL
     rw [List.length_map,List.length_map,List.length_range]
     rfl
    omega
def erTo (f : FrT) (l : List FrT) (k : Nat) : Int := if fits23 f (l.take k) = true then 0 else 5
theorem erTo_zero {f : FrT} {l : List FrT} : erTo f l 0 = 0 := rfl
theorem erTo_all {f : FrT} {l : List FrT} : erTo f l l.length = if fits23 f l = true then 0 else 5 := by unfold erTo;rw [List.take_length]
theorem erTo_step {f : FrT} {l : List FrT} {k : Nat} (hk : k < l.length) : erTo f l (k + 1) = if fracOk (qOf l[k] * qOf f) = true then erTo f l k else 5 := by
 unfold erTo fits23
 rw [List.take_add_one,List.getElem?_eq_getElem hk,List.all_append]
 cases h : fracOk (qOf l[k] * qOf f) <;> simp [h]
theorem errW_step {W0 W W' : World} {g : Nat} {fn fd er : Int} {ov sv : Value} {fo fs : List FindT} {ok : Bool} (h : ChkS W0 W g fn fd er ov sv fo fs) (hb : Below W.heap.size W W') : ChkS W0 (errW ok g W') g fn fd (if ok = true then er else 5) ov sv fo fs := by
 cases ok with
 | true => rw [if_pos rfl];exact h.grow hb
 | false => rw [if_neg (by decide)];exact (h.grow hb).err 5
def check23E (s : SetT) (f : FrT) : Int := if givenE s f = 0 then (if fits23 f (linesL s) = true then 0 else 5) else givenE s f
def Check23Post (s : SetT) (f : FrT) (w : World) (e : Ending) (w' : World) : Prop :=
 Below w.heap.size w w' ∧ ((check23E s f = 0 ∧ ∃ v,e = .returned (.tuple #[v,.int .i64 0]) ∧ FindsAt w' w'.heap.size v (finds23 s.most f (linesL s))) ∨ (check23E s f ≠ 0 ∧ e = .returned (.tuple #[.slice none 0 0,.int .i64 (check23E s f)])))
theorem given23 {s : SetT} {f : FrT} (h : givenE s f = 0) : setB s = true ∧ facE f = 0 ∧ linesErr s = 0 := by
 unfold givenE at h
 split at h
 ·rename_i h1
  split at h
  ·rename_i h2
   exact ⟨h1,h2,h⟩
  ·rename_i h2
   exact absurd h h2
 ·cases h
theorem fac23 {f : FrT} (h : facE f = 0) : frGood f = true ∧ f.den ≤ f.num ∧ f.num ≤ 100 ∧ f.den ≤ 100 := by
 unfold facE at h
 split at h
 ·rename_i h1
  split at h
  ·rename_i h2
   exact ⟨h1,h2⟩
  ·cases h
 ·cases h
set_option maxRecDepth 100000 in
set_option maxHeartbeats 4000000 in
theorem lmCheck (v : Value) (s : SetT) (f : FrT) (w : World) (hv : SetAt w w.heap.size v s) (hn : SetNames s) : Calls Tryz.prog 18 #[v,f.val] w (Check23Post s f w) := by
 have HGv := fun W (hb : Below w.heap.size w W) => lmGiven v s f W ((hv.below hb (Nat.le_refl _)).mono hb.size) hn
 obtain ⟨Al,cl,Ai,ci,Ab,cb,rfl,-,-,-⟩ := hv
 unfold Given23Post at HGv
 unfold Check23Post
 have hfv : f.val = .agg #[.int .i64 f.num,.int .i64 f.den] := rfl
 have HCE : Hid (check23E s f = if givenE s f = 0 then (if fits23 f (linesL s) = true then 0 else 5) else givenE s f) := rfl
 have HGI : Hid (givenE s f = 0 → setB s = true ∧ facE f = 0 ∧ linesErr s = 0) := given23
 have HFI : Hid (facE f = 0 → frGood f = true ∧ f.den ≤ f.num ∧ f.num ≤ 100 ∧ f.den ≤ 100) := fac23
 have HLn : Hid (linesErr s = 0 → setB s = true ∧ (∀ f ∈ linesL s,frGood f = true) ∧ (linesL s).length ≤ 12 ∧ 0 < (linesL s).length) := lines23
 generalize linesL s = l at *
 obtain ⟨fn,hfn⟩ : ∃ fn,f.num = fn := ⟨_,rfl⟩
 obtain ⟨fd,hfd⟩ : ∃ fd,f.den = fd := ⟨_,rfl⟩
 rw [hfn,hfd] at hfv
 rw [hfv] at HGv ⊢
 have HD := Lib.hid ((Blk.new w 37 #[.string s.name,.int .i64 s.depth,.int .i64 s.low,.int .i64 s.high,.int .i64 s.len,.slice Al s.lines.length cl,.int .i64 s.pipe,.int .i64 s.arbor,.int .i64 s.purch,.int .i64 s.most,.int .i64 s.brake,.slice Ai s.items.length ci,.slice Ab s.bricks.length cb]).alloc (.cells #[.int .i64 fn,.int .i64 fd] 23))
 have hE := Blk.new (w.alloc (.cells #[.string s.name,.int .i64 s.depth,.int .i64 s.low,.int .i64 s.high,.int .i64 s.len,.slice Al s.lines.length cl,.int .i64 s.pipe,.int .i64 s.arbor,.int .i64 s.purch,.int .i64 s.most,.int .i64 s.brake,.slice Ai s.items.length ci,.slice Ab s.bricks.length cb] 37)) 23 #[.int .i64 fn,.int .i64 fd]
 rw [World.size_alloc] at hE
 have HE := Lib.hid hE
 have HB1 := Lib.hid (((Below.refl _ w).alloc (Nat.le_refl _) (.cells #[.string s.name,.int .i64 s.depth,.int .i64 s.low,.int .i64 s.high,.int .i64 s.len,.slice Al s.lines.length cl,.int .i64 s.pipe,.int .i64 s.arbor,.int .i64 s.purch,.int .i64 s.most,.int .i64 s.brake,.slice Ai s.items.length ci,.slice Ab s.bricks.length cb] 37)).alloc (by simp) (.cells #[.int .i64 fn,.int .i64 fd] 23))
 have hgv := HGv _ HB1.out
 clear HGv hn hE hfv
 unfold setVal at *
 go_enter Tryz.func18,Tryz.ntmps18
 go_upto_region 1 with fail
 generalize (w.alloc (.cells #[.string s.name,.int .i64 s.depth,.int .i64 s.low,.int .i64 s.high,.int .i64 s.len,.slice Al s.lines.length cl,.int .i64 s.pipe,.int .i64 s.arbor,.int .i64 s.purch,.int .i64 s.most,.int .i64 s.brake,.slice Ai s.items.length ci,.slice Ab s.bricks.length cb] 37)).alloc (.cells #[.int .i64 fn,.int .i64 fd] 23) = W1 at *
 have e0 := HE.out.cell 0
 have e1 := HE.out.cell 1
 have z0 := HD.out.cell 0;have z1 := HD.out.cell 1;have z2 := HD.out.cell 2;have z3 := HD.out.cell 3;have z4 := HD.out.cell 4;have z5 := HD.out.cell 5;have z6 := HD.out.cell 6;have z7 := HD.out.cell 7;have z8 := HD.out.cell 8;have z9 := HD.out.cell 9;have z10 := HD.out.cell 10;have z11 := HD.out.cell 11;have z12 := HD.out.cell 12
 simp only [List.getElem?_toArray,List.getElem?_cons_succ,List.getElem?_cons_zero] at e0 e1 z0 z1 z2 z3 z4 z5 z6 z7 z8 z9 z10 z11 z12
 go_upto_region 2 with (first | (go_at_call 62;refine hgv.mono ?_;rintro e w2 ⟨hb2,⟨hG,v4,rfl,h4⟩ | ⟨hG,rfl⟩⟩))
 rotate_left
 ·have HB2 := Lib.hid (HB1.out.trans (hb2.mono HB1.out.size))
  have hc : check23E s f = givenE s f := by rw [HCE.out,if_neg hG]
  have HC2 : Hid (check23E s f ≠ 0) := by unfold Hid;rw [hc];exact hG
  have HC3 := Lib.hid hc
  have hk2 : (givenE s f != 0) = true := bne_iff_ne.2 hG
  generalize givenE s f = k at *
  clear hgv hb2 hG hc HCE HGI HFI HE HD HB1 e0 e1 z0 z1 z2 z3 z4 z5 z6 z7 z8 z9 z10 z11 z12
  go_wp2_with fail
  go_ret2
  exact ⟨HB2.out,.inr ⟨HC2.out,by rw [HC3.out];rfl⟩⟩
 obtain ⟨hset,hfac,hle⟩ := HGI.out hG
 obtain ⟨hgood,hnum⟩ := HFI.out hfac
 obtain ⟨-,hlg,hl12,-⟩ := HLn.out hle
 have hmost := (setB_ok hset).most
 have hgz : (givenE s f != 0) = false := by rw [hG];rfl
 have HCF : Hid (check23E s f = if fits23 f l = true then 0 else 5) := by unfold Hid;rw [HCE.out,if_pos hG]
 rw [hG] at *
 have HB2 := Lib.hid (HB1.out.trans (hb2.mono HB1.out.size))
 have HD2 := Lib.hid (HD.out.below hb2 HD.out.lt)
 have HE2 := Lib.hid (HE.out.below hb2 HE.out.lt)
 clear e0 e1 z0 z1 z2 z3 z4 z5 z6 z7 z8 z9 z10 z11 z12 hgv hb2 HCE HGI HFI HD HE HB1 hset hfac hle hgz
 obtain ⟨A,c,rfl,-,hc2,hcl⟩ := h4.open_
 have HCL := Lib.hid hcl
 unfold maxLen at hc2
 have HLG := Lib.hid hlg
 have e0 := HE2.out.cell 0
 have e1 := HE2.out.cell 1
 simp only [List.getElem?_toArray,List.getElem?_cons_succ,List.getElem?_cons_zero] at e0 e1
 have HOv := Lib.hid fun a m W (h : frGood a = true) (hC : Blk W w2.heap.size 98 #[.int .i64 f.num,.int .i64 f.den,.int .i64 m]) => lmOver a f s.most w2.heap.size m W h hgood ⟨Int.le_trans (by decide) hmost.1,hmost.2⟩ hC
 rw [hfn,hfd] at HOv
 have HFn : Hid (finds23 s.most f (l) = hitsN 1 (over23 s.most f) (l) l.length ++ hitsN 2 slackB (l) l.length) := rfl
 have HEA : Hid (erTo f (l) l.length = if fits23 f (l) = true then 0 else 5) := erTo_all
 have HEZ : Hid (∀ k (hk : k < l.length),erTo f (l) (k + 1) = if fracOk (qOf l[k] * qOf f) = true then erTo f (l) k else 5) := fun k hk => erTo_step hk
 have HE0 : Hid (erTo f (l) 0 = 0) := erTo_zero
 clear HLn hgood hnum hlg h4 hcl hfn hfd hmost hG
 have HS0 : Hid (ChkS w2 (w2.alloc (.cells #[.int .i64 fn,.int .i64 fd,.int .i64 0] 98)) w2.heap.size fn fd (erTo f l 0) (.slice none 0 0) (.slice none 0 0) (hitsN 1 (over23 s.most f) l 0) (hitsN 2 slackB l 0)) := by
  rw [HE0.out]
  exact ⟨(Below.refl _ _).alloc (Nat.le_refl _) _,Blk.new _ _ _,Nat.le_refl _,World.ownsRow_nil _ _ _ _,World.ownsRow_nil _ _ _ _,(by simp [Value.ownBlock]),(by simp [Value.ownBlock]),fun k e => by simp [Value.ownBlock] at e⟩
 obtain ⟨iF,hiF,hzF0,hzF1,hzF2⟩ := info_parts info_find
 go_upto_region 7 with fail
 generalize w2.alloc (.cells #[.int .i64 fn,.int .i64 fd,.int .i64 0] 98) = W3 at *
 clear e0 e1
 go_loopw [28,9,10] (fun ix u v wr => ∃ (k : Nat) (ov sv : Value),k ≤ l.length ∧ ix = .int .i64 k ∧ ov = u ∧ sv = v ∧ Hid (ChkS w2 wr w2.heap.size fn fd (erTo f l k) ov sv (hitsN 1 (over23 s.most f) l k) (hitsN 2 slackB l k))) (fun ix _ _ _ => l.length - (intOf ix).toNat)
 case atStart => exact ⟨0,_,_,Nat.zero_le _,rfl,rfl,rfl,HS0⟩
 case round =>
  clear HS0
  obtain ⟨k,ov,sv,hk,rfl,rfl,rfl,HT⟩ := hrel
  have k0 : (0 : Int) ≤ (k : Int) := Int.natCast_nonneg _
  have hn1 := hitsN_len (kind := 1) (p := over23 s.most f) (l := l) k
  have hn2 := hitsN_len (kind := 2) (p := slackB) (l := l) k
  by_cases hkl : k < l.length
  ·have k1 : (k : Int) < (l.length : Int) := by omega
   obtain ⟨b1,o1,rfl,hb1,hx⟩ := HCL.out k hkl
   have y0 := (HT.out.bel.cell (p := ⟨b1,o1 + k * 2,none⟩) hb1).trans (hx k hkl).1
   have y1 := (HT.out.bel.cell (p := ⟨b1,o1 + k * 2 + 1,none⟩) hb1).trans (hx k hkl).2
   have HY1 := Lib.hid fun h => hitsN_yes (kind := 1) (p := over23 s.most f) hkl h
   have HN1 := Lib.hid fun h => hitsN_no (kind := 1) (p := over23 s.most f) hkl h
   have HY2 := Lib.hid fun h => hitsN_yes (kind := 2) (p := slackB) hkl h
   have HN2 := Lib.hid fun h => hitsN_no (kind := 2) (p := slackB) hkl h
   have hes := HEZ.out k hkl
   have hgo := HLG.out _ (List.getElem_mem hkl)
   clear hx
   have HA := Lib.hid (HT.out.grow ((Below.refl _ wr).alloc (Nat.le_refl _) (.cells #[.int .i64 l[k].num,.int .i64 l[k].den] 23)))
   have hov := HOv.out l[k] (erTo f l k) _ hgo HA.out.chk
   obtain ⟨o1b,ho1⟩ : ∃ b,over23 s.most f l[k] = b := ⟨_,rfl⟩
   obtain ⟨o2b,ho2⟩ : ∃ b,slackB l[k] = b := ⟨_,rfl⟩
   have hsl : decide (l[k].num < 0) = o2b := ho2
   rw [ho1] at hov
   go_upto_region 9 with fail
   have HX := Lib.hid (Blk.new wr 23 #[.int .i64 l[k].num,.int .i64 l[k].den])
   have hbo : ov.ownBlock ≠ some wr.heap.size := fun e => Nat.lt_irrefl _ (HT.out.rowO.lt _ e).2
   have hbs : sv.ownBlock ≠ some wr.heap.size := fun e => Nat.lt_irrefl _ (HT.out.rowS.lt _ e).2
   have hbg : wr.heap.size ≠ w2.heap.size := fun e => Nat.lt_irrefl _ (e ▸ HT.out.chk.lt)
   have z9 := (HA.out.bel.cell (p := ⟨w.heap.size,9,none⟩) HD2.out.lt).trans (HD2.out.cell 9)
   have z0 := (HA.out.bel.cell (p := ⟨w.heap.size,0,none⟩) HD2.out.lt).trans (HD2.out.cell 0)
   have x0 := HX.out.cell 0
   have x1 := HX.out.cell 1
   have c0 := HA.out.chk.cell 0
   simp only [List.getElem?_toArray,List.getElem?_cons_succ,List.getElem?_cons_zero] at z9 z0 x0 x1 c0
   clear y0 y1 HT hgo
   have hk100 : k + 1 < 100 := by omega
   have hIt := fun W => strItoa (k + 1) hk100 W
   obtain ⟨ib,hib⟩ : ∃ ib,itoaB (k + 1) = ib := ⟨_,rfl⟩
   rw [hib,Int.natCast_add,Int.natCast_one] at hIt
   rw [hib] at HY1 HY2
   have v1 : IntKind.i64.wrap ((k : Int) + 1) = (k : Int) + 1 := IntWalk.i64_in _ (by omega)
   generalize wr.alloc (.cells #[.int .i64 l[k].num,.int .i64 l[k].den] 23) = W4 at *
   generalize wr.heap.size = bx at *
   obtain ⟨num,hnum⟩ : ∃ num,l[k].num = num := ⟨_,rfl⟩
   obtain ⟨den,hden⟩ : ∃ den,l[k].den = den := ⟨_,rfl⟩
   have hav : l[k].val = .agg #[.int .i64 num,.int .i64 den] := by rw [← hnum,← hden]
   rw [hav] at hov
   rw [hnum,hden] at HX
   rw [hnum] at x0 hsl
   rw [hden] at x1
   generalize fracOk (qOf l[k] * qOf f) = ok at *
   clear hnum hden hav hib
   go_upto_region 10 with (first | (go_at_call 21;refine (hIt _).mono ?_;rintro e w5 ⟨rfl,rfl⟩))
   cases o1b with
   | false =>
    have hno1 := HN1.out ho1
    go_upto_region 12 with (first | (go_at_call 63;refine hov.mono ?_;rintro e w5 ⟨rfl,w4,hb4,rfl⟩))
    have HT := Lib.hid (errW_step (ok := ok) HA.out hb4)
    rw [← hes] at HT
    have HX := Lib.hid ((HX.out.below hb4 HX.out.lt).errW (ok := ok) hbg)
    generalize errW ok w2.heap.size w4 = w5 at *
    clear hb4 HA x0 x1 c0 z9 z0
    have x0 := HX.out.cell 0
    simp only [List.getElem?_toArray,List.getElem?_cons_zero] at x0
    rw [← hno1] at HT
    cases o2b with
    | false =>
     have hno := HN2.out ho2
     go_wp2_with fail
     go_roundw
     case rel => exact ⟨k + 1,_,_,by omega,by go_num,rfl,rfl,by rw [hno];exact HT⟩
     case measure => simp [intOf];omega
    | true =>
     have hye := HY2.out ho2
     have HT := Lib.hid (HT.out.grow ((Below.refl _ w5).alloc (Nat.le_refl _) (.cells #[.int .i64 2,.string ib] 49)))
     have Hnew := Lib.hid (World.news_of_block (Blk.new w5 49 #[.int .i64 2,.string ib]))
     have hsz := HT.out.bel.size
     go_wp2_with (at_builtin;refine wpList_append_own_at _ rfl _ _ 39 rfl w2.heap.size 49 iF (.agg #[.int .i64 0,.string ⟨#[]⟩]) 2 24 Tryz.underlying39 hiF hzF0 hzF1 hzF2 rfl (by decide) _ _ _ rfl HT.out.rowS ⟨w5.heap.size,0,none⟩ 1 1 [.int .i64 2,.string ib] rfl rfl Hnew.out (by simp [Value.oneCell']) (by unfold maxLen;omega) (by omega) hsz ?_;intro v8 w8 hown8 hgrow8 _ hat8;have HT := Lib.hid (HT.out.pushS (y := ⟨2,ib⟩) hown8 hgrow8 hat8);clear hown8 hgrow8 hat8)
     go_roundw
     case rel => exact ⟨k + 1,_,_,by omega,by go_num,rfl,rfl,by rw [hye];exact HT⟩
     case measure => simp [intOf];omega
   | true =>
    have hye1 := HY1.out ho1
    go_upto_region 11 with (first | (go_at_call 63;refine hov.mono ?_;rintro e w5 ⟨rfl,w4,hb4,rfl⟩))
    have HT := Lib.hid (errW_step (ok := ok) HA.out hb4)
    rw [← hes] at HT
    have HX := Lib.hid ((HX.out.below hb4 HX.out.lt).errW (ok := ok) hbg)
    generalize errW ok w2.heap.size w4 = w5 at *
    clear hb4 HA x0 x1 c0 z9 z0
    have x0 := HX.out.cell 0
    simp only [List.getElem?_toArray,List.getElem?_cons_zero] at x0
    have HT := Lib.hid (HT.out.grow ((Below.refl _ w5).alloc (Nat.le_refl _) (.cells #[.int .i64 1,.string ib] 49)))
    have HX := Lib.hid (HX.out.alloc (.cells #[.int .i64 1,.string ib] 49))
    have Hnew := Lib.hid (World.news_of_block (Blk.new w5 49 #[.int .i64 1,.string ib]))
    have hsz := HT.out.bel.size
    go_upto_region 12 with (at_builtin;refine wpList_append_own_at _ rfl _ _ 39 rfl w2.heap.size 49 iF (.agg #[.int .i64 0,.string ⟨#[]⟩]) 2 24 Tryz.underlying39 hiF hzF0 hzF1 hzF2 rfl (by decide) _ _ _ rfl HT.out.rowO ⟨w5.heap.size,0,none⟩ 1 1 [.int .i64 1,.string ib] rfl rfl Hnew.out (by simp [Value.oneCell']) (by unfold maxLen;omega) (by omega) hsz ?_;intro v8 w8 hown8 hgrow8 _ hat8;have HT := Lib.hid (HT.out.pushO (y := ⟨1,ib⟩) hown8 hgrow8 hat8);have HX := Lib.hid (HX.out.kept hgrow8 hbo.symm);have x0 := HX.out.cell 0;simp only [List.getElem?_toArray,List.getElem?_cons_zero] at x0;clear hown8 hgrow8 hat8)
    rw [← hye1] at HT
    cases o2b with
    | false =>
     have hno := HN2.out ho2
     go_wp2_with fail
     go_roundw
     case rel => exact ⟨k + 1,_,_,by omega,by go_num,rfl,rfl,by rw [hno];exact HT⟩
     case measure => simp [intOf];omega
    | true =>
     have hye := HY2.out ho2
     have HT := Lib.hid (HT.out.grow ((Below.refl _ w8).alloc (Nat.le_refl _) (.cells #[.int .i64 2,.string ib] 49)))
     have Hnew := Lib.hid (World.news_of_block (Blk.new w8 49 #[.int .i64 2,.string ib]))
     have hsz := HT.out.bel.size
     go_wp2_with (at_builtin;refine wpList_append_own_at _ rfl _ _ 39 rfl w2.heap.size 49 iF (.agg #[.int .i64 0,.string ⟨#[]⟩]) 2 24 Tryz.underlying39 hiF hzF0 hzF1 hzF2 rfl (by decide) _ _ _ rfl HT.out.rowS ⟨w8.heap.size,0,none⟩ 1 1 [.int .i64 2,.string ib] rfl rfl Hnew.out (by simp [Value.oneCell']) (by unfold maxLen;omega) (by omega) hsz ?_;intro v8 w8 hown8 hgrow8 _ hat8;have HT := Lib.hid (HT.out.pushS (y := ⟨2,ib⟩) hown8 hgrow8 hat8);clear hown8 hgrow8 hat8)
     go_roundw
     case rel => exact ⟨k + 1,_,_,by omega,by go_num,rfl,rfl,by rw [hye];exact HT⟩
     case measure => simp [intOf];omega
  ·obtain rfl : k = l.length := by omega
   have HT := HT
   rw [HEA.out] at HT
   have c2 := HT.out.chk.cell 2
   simp only [List.getElem?_toArray,List.getElem?_cons_succ,List.getElem?_cons_zero] at c2
   by_cases hfit : fits23 f l = true
   ·rw [if_pos hfit] at HT c2
    have HC0 : Hid (check23E s f = 0) := by unfold Hid;rw [HCF.out,if_pos hfit]
    obtain ⟨Ao,co,hov,-⟩ := Flat.of_own HT.out.rowO
    obtain ⟨As,cs,hsv,-⟩ := Flat.of_own HT.out.rowS
    subst hov hsv
    have hn1' : (hitsN 1 (over23 s.most f) l l.length).length ≤ 100 := by omega
    have hn2' : (hitsN 2 slackB l l.length).length ≤ 100 := by omega
    have HFn2 : Hid (hitsN 1 (over23 s.most f) l l.length ++ hitsN 2 slackB l l.length = finds23 s.most f l) := HFn.out.symm
    generalize hitsN 1 (over23 s.most f) l l.length = F1 at *
    generalize hitsN 2 slackB l l.length = F2 at *
    obtain ⟨N1,hN1⟩ : ∃ N1,F1.length = N1 := ⟨_,rfl⟩
    obtain ⟨N2,hN2⟩ : ∃ N2,F2.length = N2 := ⟨_,rfl⟩
    have hcc := fun W (hb : Below wr.heap.size wr W) G (hk : Blk W G 39 #[.slice Ao F1.length co,.slice As F2.length cs]) => concatFind _ _ F1 F2 G 2 w2.heap.size w2.heap.size W (ownsRow_of HT.out.rowO hb) (ownsRow_of HT.out.rowS hb) (by omega) hk
    have hc2 := hcc _ ((Below.refl _ wr).alloc (Nat.le_refl _) (.cells #[.slice Ao F1.length co,.slice As F2.length cs] 39)) wr.heap.size (Blk.new _ _ _)
    have HBz := Lib.hid (HB2.out.trans ((HT.out.bel.alloc HT.out.bel.size (.cells #[.slice Ao F1.length co,.slice As F2.length cs] 39)).mono HB2.out.size))
    rw [hN1,hN2] at hc2 HBz ⊢
    clear hcc hfit hN1 hN2
    go_wp2_with (first | (go_at_call 64;refine hc2.mono ?_;rintro e w9 ⟨v9,rfl,hF9,hb9⟩))
    go_ret2
    exact ⟨HBz.out.trans (hb9.mono HBz.out.size),.inl ⟨HC0.out,v9,rfl,by rw [← HFn2.out];exact hF9⟩⟩
   ·rw [if_neg hfit] at HT c2
    have HC5 : Hid (check23E s f = 5) := by unfold Hid;rw [HCF.out,if_neg hfit]
    have HBz := Lib.hid (HB2.out.trans (HT.out.bel.mono HB2.out.size))
    clear hfit
    go_wp2_with (exact Go.WalkKit.wp_stop)
    go_quiet (fail)
    go_wp2_with fail
    go_ret2
    exact ⟨below_drewN HBz.out _,.inr ⟨by rw [HC5.out];decide,by rw [HC5.out];rfl⟩⟩
end Go.Proofs.YtknkhnahflmjiaaGreatDoor
