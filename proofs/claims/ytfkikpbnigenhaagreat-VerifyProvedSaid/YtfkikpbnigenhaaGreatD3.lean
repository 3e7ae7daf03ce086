/- Parts of the proof, laid into one text: SetF, BatW, BatX, ArbA, ArbB, ArbC, ArbD, Small. -/
import Derived.BigQuiet
import Derived.Deep.AppendLies
import Derived.Deep.Draws
import Derived.Deep.LoopGhost
import Derived.Deep.QuietTactic
import Derived.IntWalk
import Derived.Lib.Hide
import Derived.Maps.AppendAt
import Derived.Maps.Own
import Derived.Maps.OwnOps
import Derived.Maps.OwnSet
import Derived.Maps.Views
import Derived.PlainAid
import Derived.Shelf.Abstract
import Derived.StillTailTactics
import Derived.Test.YtfkikpbnigenhaaGreatD1
import Derived.Test.YtfkikpbnigenhaaGreatD2
import Derived.Test.YtfkikpbnigenhaaGreatG1
import Derived.Test.YtfkikpbnigenhaaGreatProg
import Derived.WalkKit
import Derived.WalkLawsBesides
import Derived.WalkSpells

namespace Go.Proofs.YtfkikpbnigenhaaGreat
structure SetOk (s : SetT) : Prop where
 len : 1000 ≤ s.len ∧ s.len ≤ 1048576
 pipe : 0 ≤ s.pipe ∧ s.pipe ≤ 1048576
 arbor : 0 ≤ s.arbor ∧ s.arbor ≤ 1048576
 purch : 1 ≤ s.purch ∧ s.purch ≤ 2
 most : 1 ≤ s.most ∧ s.most ≤ 67108864
 brake : 0 ≤ s.brake ∧ s.brake ≤ 67108864
 depth : 0 ≤ s.depth ∧ s.depth ≤ 1048576
 low : 0 ≤ s.low ∧ s.low ≤ s.high ∧ s.high ≤ 1048576
 lines : linesB s.lines s.len = true
 items : itemsB s.items s.len = true
 bricks : bricksB s.bricks = true
theorem setB_ok {s : SetT} (h : setB s = true) : SetOk s := by
 unfold setB at h
 simp only [Bool.and_eq_true,decide_eq_true_eq] at h
 obtain ⟨-,h1,h2,h3,h4,h5,-,h7,h8,h9,h10,h11,h12,h13,h14⟩ := h
 exact ⟨between_bd h5,between_bd h8,between_bd h9,between_bd h10,between_bd h11,between_bd h12,between_bd h1,⟨h2,h3,h4⟩,h7,h13,h14⟩
theorem SetOk.wts {s : SetT} (h : SetOk s) : s.items.length ≤ 40 ∧ ∀ x ∈ s.items,alone1 x = true ∧ inside1 x s.len = true := by
 have h1 := h.items
 unfold itemsB at h1
 simp only [Bool.and_eq_true,decide_eq_true_eq] at h1
 refine ⟨h1.1,fun x hx => ?_⟩
 obtain ⟨i,hi,rfl⟩ := List.getElem_of_mem hx
 have h2 := h1.2.2
 unfold itTo at h2
 rw [decide_eq_true_iff] at h2
 have h3 := h2 i hi
 rw [itGood_eq hi] at h3
 simp only [Bool.and_eq_true] at h3
 exact ⟨h3.1,h3.2.1⟩
end Go.Proofs.YtfkikpbnigenhaaGreat

namespace Go.Proofs.YtfkikpbnigenhaaGreat
open Go.RowKit Go.Shelf
def pipeN (s : SetT) : Int := s.pipe * (s.len / 1000)
theorem pipe_bd {p n : Int} (hp : 0 ≤ p ∧ p ≤ 1048576) (hl : 1000 ≤ n ∧ n ≤ 1048576) : 0 ≤ p * (n / 1000) ∧ p * (n / 1000) ≤ 1098907648 := by
 have h1 : 0 ≤ n / 1000 := by omega
 have h2 : n / 1000 ≤ 1048 := by omega
 have h3 := Int.mul_le_mul hp.2 h2 h1 (by decide)
 have h4 := Int.mul_nonneg hp.1 h1
 omega
set_option maxRecDepth 100000 in
set_option maxHeartbeats 1000000 in
theorem batPipe (v : Value) (s : SetT) (B : Nat) (w : World) (hv : SetAt w B v s) (hp : 0 ≤ s.pipe ∧ s.pipe ≤ 1048576) (hl : 1000 ≤ s.len ∧ s.len ≤ 1048576) :
  Calls Tryz.prog 186 #[v] w fun e w' => e = .returned (.int .i64 (pipeN s)) ∧ Below w.heap.size w w' := by
 obtain ⟨Al,cl,Ai,ci,Ab,cb,rfl,-,-,-⟩ := hv
 have hb := pipe_bd hp hl
 have HE : Hid (pipeN s = s.pipe * (s.len / 1000)) := rfl
 have v1 : IntKind.i64.wrap (s.pipe * (s.len / 1000)) = s.pipe * (s.len / 1000) := IntWalk.i64_in _ (by omega)
 have v2 : IntKind.i64.wrap (s.len / 1000) = s.len / 1000 := IntWalk.i64_in _ (by omega)
 have v3 : s.len.tdiv 1000 = s.len / 1000 := Int.tdiv_eq_ediv_of_nonneg (by omega)
 clear hp hl hb
 unfold setVal
 go_enter Tryz.func186,Tryz.ntmps186
 go_wp2
 go_ret
 exact ⟨by rw [HE.out];rfl,(Below.refl _ _).alloc (Nat.le_refl _) _⟩
def wtTo (s : SetT) (k : Nat) : Int := pipeN s + ((s.items.take k).map ItemT.wt).sum
def weightN (s : SetT) : Int := wtTo s s.items.length
theorem wtTo_succ (s : SetT) (k : Nat) (hk : k < s.items.length) : wtTo s (k + 1) = wtTo s k + s.items[k].wt := by
 unfold wtTo
 rw [take_snoc s.items k hk,List.map_append,List.sum_append]
 simp [Int.add_assoc]
theorem wtTo_bd {s : SetT} (hp : 0 ≤ pipeN s ∧ pipeN s ≤ 1098907648) (hi : ∀ x ∈ s.items,0 ≤ x.wt ∧ x.wt ≤ 1048576) : ∀ k,k ≤ s.items.length → 0 ≤ wtTo s k ∧ wtTo s k ≤ 1098907648 + 1048576 * k
 | 0,_ => by simp [wtTo];omega
 | k + 1,hk => by
  have h1 := wtTo_bd hp hi k (by omega)
  have h2 := hi _ (List.getElem_mem (show k < s.items.length by omega))
  rw [wtTo_succ s k (by omega)]
  omega
set_option maxRecDepth 100000 in
set_option maxHeartbeats 2000000 in
theorem batWeight1 (v : Value) (s : SetT) (w : World) (hv : SetAt w w.heap.size v s) (hp : 0 ≤ s.pipe ∧ s.pipe ≤ 1048576) (hl : 1000 ≤ s.len ∧ s.len ≤ 1048576) (hi : ∀ x ∈ s.items,0 ≤ x.wt ∧ x.wt ≤ 1048576) (h40 : s.items.length ≤ 40) :
  Calls Tryz.prog 170 #[v] w fun e w' => e = .returned (.int .i64 (weightN s)) ∧ Below w.heap.size w w' := by
 have hP := fun W (hb : Below w.heap.size w W) => batPipe v s W.heap.size W ((hv.below hb (Nat.le_refl _)).mono hb.size) hp hl
 have HBd := Lib.hid (wtTo_bd (s := s) (pipe_bd hp hl) hi)
 obtain ⟨Al,cl,Ai,ci,Ab,cb,rfl,hL,hI,hB⟩ := hv
 obtain ⟨_,_,e,hi1,hi2,hic⟩ := hI.open_
 injection e with e1 _ e2
 subst e1 e2
 have HI := Lib.hid hic
 have HD := Lib.hid (Blk.new w 26 #[.string s.name,.int .i64 s.depth,.int .i64 s.low,.int .i64 s.high,.int .i64 s.len,.slice Al s.lines.length cl,.int .i64 s.pipe,.int .i64 s.arbor,.int .i64 s.purch,.int .i64 s.most,.int .i64 s.brake,.slice Ai s.items.length ci,.slice Ab s.bricks.length cb])
 have HB1 := Lib.hid ((Below.refl _ w).alloc (Nat.le_refl _) (.cells #[.string s.name,.int .i64 s.depth,.int .i64 s.low,.int .i64 s.high,.int .i64 s.len,.slice Al s.lines.length cl,.int .i64 s.pipe,.int .i64 s.arbor,.int .i64 s.purch,.int .i64 s.most,.int .i64 s.brake,.slice Ai s.items.length ci,.slice Ab s.bricks.length cb] 26))
 unfold maxLen at hi2
 clear hL hI hB hic hp hl hi
 unfold setVal at *
 go_enter Tryz.func170,Tryz.ntmps170
 go_wp2_with (go_at_call 186;refine (hP _ HB1.out).mono ?_;rintro e w2 ⟨rfl,hb2⟩;have HB2 := Lib.hid (HB1.out.trans (hb2.mono HB1.out.size));have HD2 := Lib.hid (HD.out.below hb2 HD.out.lt);have z11 := HD2.out.cell 11;simp only [List.getElem?_toArray,List.getElem?_cons_succ,List.getElem?_cons_zero] at z11;clear hb2)
 go_loopw [11,3] (fun x t wr => ∃ k : Nat,k ≤ s.items.length ∧ x = .int .i64 k ∧ t = .int .i64 (wtTo s k) ∧ Below w.heap.size w wr) (fun x _ _ => s.items.length - (intOf x).toNat)
 case atStart => exact ⟨0,Nat.zero_le _,rfl,by simp [wtTo],HB2.out⟩
 case round =>
  obtain ⟨k,hk,rfl,rfl,hbel⟩ := hrel
  by_cases hkl : k < s.items.length
  ·obtain ⟨b1,off1,rfl,hb1,hc⟩ := HI.out k hkl
   have y0 := (hbel.cell (p := ⟨b1,off1 + k * 7,none⟩) hb1).trans (hc k hkl).1
   have y1 := (hbel.cell (p := ⟨b1,off1 + k * 7 + 1,none⟩) hb1).trans (hc k hkl).2.1
   have y2 := (hbel.cell (p := ⟨b1,off1 + k * 7 + 2,none⟩) hb1).trans (hc k hkl).2.2.1
   have y3 := (hbel.cell (p := ⟨b1,off1 + k * 7 + 3,none⟩) hb1).trans (hc k hkl).2.2.2.1
   have y4 := (hbel.cell (p := ⟨b1,off1 + k * 7 + 4,none⟩) hb1).trans (hc k hkl).2.2.2.2.1
   have y5 := (hbel.cell (p := ⟨b1,off1 + k * 7 + 5,none⟩) hb1).trans (hc k hkl).2.2.2.2.2.1
   have y6 := (hbel.cell (p := ⟨b1,off1 + k * 7 + 6,none⟩) hb1).trans (hc k hkl).2.2.2.2.2.2
   have h3 := HBd.out (k + 1) hkl
   have hs := wtTo_succ s k hkl
   have v1 : IntKind.i64.wrap (wtTo s k + s.items[k].wt) = wtTo s k + s.items[k].wt := IntWalk.i64_in _ (by rw [← hs];omega)
   have HS := Lib.hid hs
   have hba : Below w.heap.size w (wr.alloc (.cells #[.string s.items[k].name,.int .i64 s.items[k].pos,.int .i64 s.items[k].width,.int .i64 s.items[k].wt,.int .i64 s.items[k].hang,.int .i64 s.items[k].front,.int .i64 s.items[k].back] 64)) := hbel.alloc hbel.size _
   have i1 : (0 : Int) ≤ (k : Int) := Int.natCast_nonneg _
   have i2 : (k : Int) < (s.items.length : Int) := by omega
   clear hc hs h3
   go_wp2
   go_roundw
   case rel => exact ⟨k + 1,by omega,by go_num,by rw [HS.out],hba⟩
   case measure => simp [intOf];omega
  ·obtain rfl : k = s.items.length := by omega
   go_wp2
   go_ret
   exact ⟨rfl,hbel⟩
end Go.Proofs.YtfkikpbnigenhaaGreat

namespace Go.Proofs.YtfkikpbnigenhaaGreat
open Go.RowKit Go.Shelf
theorem alone_wt {x : ItemT} (h : alone1 x = true) : 0 ≤ x.wt ∧ x.wt ≤ 1048576 := by
 unfold alone1 at h
 simp only [Bool.and_eq_true] at h
 exact between_bd h.2.1
set_option maxRecDepth 100000 in
set_option maxHeartbeats 2000000 in
theorem batWeight (v : Value) (s : SetT) (w : World) (hv : SetAt w w.heap.size v s) (hn : SetNames s) :
  Calls Tryz.prog 140 #[v] w fun e w' => e = .returned (if setB s = true then .tuple #[.int .i64 (weightN s),.int .i64 0] else .tuple #[.int .i64 0,.int .i64 1]) ∧ Below w.heap.size w w' := by
 have HVa := fun W (hb : Below w.heap.size w W) => batValid v s W ((hv.below hb (Nat.le_refl _)).mono hb.size) hn
 have HWe := Lib.hid fun (hok : setB s = true) W (hb : Below w.heap.size w W) => batWeight1 v s W ((hv.below hb (Nat.le_refl _)).mono hb.size) (setB_ok hok).pipe (setB_ok hok).len (fun x hx => alone_wt ((setB_ok hok).wts.2 x hx).1) (setB_ok hok).wts.1
 obtain ⟨Al,cl,Ai,ci,Ab,cb,rfl,-,-,-⟩ := hv
 have HD := Lib.hid (Blk.new w 26 #[.string s.name,.int .i64 s.depth,.int .i64 s.low,.int .i64 s.high,.int .i64 s.len,.slice Al s.lines.length cl,.int .i64 s.pipe,.int .i64 s.arbor,.int .i64 s.purch,.int .i64 s.most,.int .i64 s.brake,.slice Ai s.items.length ci,.slice Ab s.bricks.length cb])
 have HB1 := Lib.hid ((Below.refl _ w).alloc (Nat.le_refl _) (.cells #[.string s.name,.int .i64 s.depth,.int .i64 s.low,.int .i64 s.high,.int .i64 s.len,.slice Al s.lines.length cl,.int .i64 s.pipe,.int .i64 s.arbor,.int .i64 s.purch,.int .i64 s.most,.int .i64 s.brake,.slice Ai s.items.length ci,.slice Ab s.bricks.length cb] 26))
 clear hn
 have hva := HVa _ HB1.out
 clear HVa
 unfold setVal at *
 rcases Bool.eq_false_or_eq_true (setB s) with hok | hok
 ·have hwe := HWe.out hok
  rw [hok] at hva
  rw [if_pos hok]
  clear hok HWe
  go_enter Tryz.func140,Tryz.ntmps140
  go_wp2_with (first | (go_at_call 21;refine hva.mono ?_;rintro e w2 ⟨rfl,hb2⟩;have hbx := HB1.out.trans (hb2.mono HB1.out.size);have HD2 := Lib.hid (HD.out.below hb2 HD.out.lt);have z0 := HD2.out.cell 0;have z1 := HD2.out.cell 1;have z2 := HD2.out.cell 2;have z3 := HD2.out.cell 3;have z4 := HD2.out.cell 4;have z5 := HD2.out.cell 5;have z6 := HD2.out.cell 6;have z7 := HD2.out.cell 7;have z8 := HD2.out.cell 8;have z9 := HD2.out.cell 9;have z10 := HD2.out.cell 10;have z11 := HD2.out.cell 11;have z12 := HD2.out.cell 12;simp only [List.getElem?_toArray,List.getElem?_cons_succ,List.getElem?_cons_zero] at z0 z1 z2 z3 z4 z5 z6 z7 z8 z9 z10 z11 z12) | (go_at_call 170;refine (hwe _ hbx).mono ?_;rintro e w3 ⟨rfl,hb3⟩))
  go_ret2
  exact ⟨rfl,hbx.trans (hb3.mono hbx.size)⟩
 ·rw [hok] at hva
  rw [if_neg (by rw [hok];simp)]
  clear hok HWe
  go_enter Tryz.func140,Tryz.ntmps140
  go_wp2_with (go_at_call 21;refine hva.mono ?_;rintro e w2 ⟨rfl,hb2⟩)
  go_ret2
  exact ⟨rfl,HB1.out.trans (hb2.mono HB1.out.size)⟩
end Go.Proofs.YtfkikpbnigenhaaGreat

namespace Go.Proofs.YtfkikpbnigenhaaGreat
open Go.RowKit Go.Shelf
def brickW (l : List BrickT) (k : Nat) : Int := ((l.take k).map fun x => x.wt * x.cnt).sum
theorem brickW_succ (l : List BrickT) (k : Nat) (hk : k < l.length) : brickW l (k + 1) = brickW l k + l[k].wt * l[k].cnt := by
 unfold brickW
 rw [take_snoc l k hk,List.map_append,List.sum_append]
 simp
theorem one_bd {a b : Int} (ha : 1 ≤ a ∧ a ≤ 1048576) (hb : 0 ≤ b ∧ b ≤ 60) : 0 ≤ a * b ∧ a * b ≤ 62914560 := by
 have h1 := Int.mul_le_mul ha.2 hb.2 hb.1 (by decide)
 have h2 := Int.mul_nonneg (show 0 ≤ a by omega) hb.1
 omega
theorem brickW_bd {l : List BrickT} (h : ∀ x ∈ l,(1 ≤ x.wt ∧ x.wt ≤ 1048576) ∧ (0 ≤ x.cnt ∧ x.cnt ≤ 60)) : ∀ k,k ≤ l.length → (0 ≤ brickW l k ∧ brickW l k ≤ 62914560 * k) ∧ (0 ≤ cntTo l k ∧ cntTo l k ≤ 60 * k)
 | 0,_ => by simp [brickW,cntTo]
 | k + 1,hk => by
  have h1 := brickW_bd h k (by omega)
  have h2 := h _ (List.getElem_mem (show k < l.length by omega))
  have h3 := one_bd h2.1 h2.2
  rw [brickW_succ l k (by omega),cntTo_succ l k (by omega)]
  omega
set_option maxRecDepth 100000 in
set_option maxHeartbeats 2000000 in
theorem arbThere (v : Value) (s : SetT) (w : World) (hv : SetAt w w.heap.size v s) (hi : ∀ x ∈ s.bricks,(1 ≤ x.wt ∧ x.wt ≤ 1048576) ∧ (0 ≤ x.cnt ∧ x.cnt ≤ 60)) (h8 : s.bricks.length ≤ 8) :
  Calls Tryz.prog 107 #[v] w fun e w' => e = .returned (.tuple #[.int .i64 (brickW s.bricks s.bricks.length),.int .i64 (cntTo s.bricks s.bricks.length)]) ∧ Below w.heap.size w w' := by
 have HBd := Lib.hid (brickW_bd hi)
 have HOne := Lib.hid fun k (hk : k < s.bricks.length) => one_bd (hi _ (List.getElem_mem hk)).1 (hi _ (List.getElem_mem hk)).2
 obtain ⟨Al,cl,Ai,ci,Ab,cb,rfl,hL,hI,hB⟩ := hv
 obtain ⟨_,_,e,hi1,hi2,hic⟩ := hB.open_
 injection e with e1 _ e2
 subst e1 e2
 have HI := Lib.hid hic
 have HD := Lib.hid (Blk.new w 26 #[.string s.name,.int .i64 s.depth,.int .i64 s.low,.int .i64 s.high,.int .i64 s.len,.slice Al s.lines.length cl,.int .i64 s.pipe,.int .i64 s.arbor,.int .i64 s.purch,.int .i64 s.most,.int .i64 s.brake,.slice Ai s.items.length ci,.slice Ab s.bricks.length cb])
 have HB1 := Lib.hid ((Below.refl _ w).alloc (Nat.le_refl _) (.cells #[.string s.name,.int .i64 s.depth,.int .i64 s.low,.int .i64 s.high,.int .i64 s.len,.slice Al s.lines.length cl,.int .i64 s.pipe,.int .i64 s.arbor,.int .i64 s.purch,.int .i64 s.most,.int .i64 s.brake,.slice Ai s.items.length ci,.slice Ab s.bricks.length cb] 26))
 unfold maxLen at hi2
 clear hL hI hB hic hi
 unfold setVal at *
 go_enter Tryz.func107,Tryz.ntmps107
 go_wp2
 go_loopw [9,2,3] (fun x t u wr => ∃ k : Nat,k ≤ s.bricks.length ∧ x = .int .i64 k ∧ t = .int .i64 (brickW s.bricks k) ∧ u = .int .i64 (cntTo s.bricks k) ∧ Below w.heap.size w wr) (fun x _ _ _ => s.bricks.length - (intOf x).toNat)
 case atStart => exact ⟨0,Nat.zero_le _,rfl,rfl,rfl,HB1.out⟩
 case round =>
  obtain ⟨k,hk,rfl,rfl,rfl,hbel⟩ := hrel
  by_cases hkl : k < s.bricks.length
  ·obtain ⟨b1,off1,rfl,hb1,hc⟩ := HI.out k hkl
   have y0 := (hbel.cell (p := ⟨b1,off1 + k * 3,none⟩) hb1).trans (hc k hkl).1
   have y1 := (hbel.cell (p := ⟨b1,off1 + k * 3 + 1,none⟩) hb1).trans (hc k hkl).2.1
   have y2 := (hbel.cell (p := ⟨b1,off1 + k * 3 + 2,none⟩) hb1).trans (hc k hkl).2.2
   have h3 := HBd.out (k + 1) hkl
   have h4 := HOne.out k hkl
   have hs := brickW_succ s.bricks k hkl
   have ht := cntTo_succ s.bricks k hkl
   have v0 : IntKind.i64.wrap (s.bricks[k].wt * s.bricks[k].cnt) = s.bricks[k].wt * s.bricks[k].cnt := IntWalk.i64_in _ (by omega)
   have v1 : IntKind.i64.wrap (brickW s.bricks k + s.bricks[k].wt * s.bricks[k].cnt) = brickW s.bricks k + s.bricks[k].wt * s.bricks[k].cnt := IntWalk.i64_in _ (by rw [← hs];omega)
   have v2 : IntKind.i64.wrap (cntTo s.bricks k + s.bricks[k].cnt) = cntTo s.bricks k + s.bricks[k].cnt := IntWalk.i64_in _ (by rw [← ht];omega)
   have HS := Lib.hid hs
   have HT := Lib.hid ht
   have hba : Below w.heap.size w (wr.alloc (.cells #[.string s.bricks[k].name,.int .i64 s.bricks[k].wt,.int .i64 s.bricks[k].cnt] 66)) := hbel.alloc hbel.size _
   have i1 : (0 : Int) ≤ (k : Int) := Int.natCast_nonneg _
   have i2 : (k : Int) < (s.bricks.length : Int) := by omega
   clear hc hs ht h3 h4
   go_wp2
   go_roundw
   case rel => exact ⟨k + 1,by omega,by go_num,by rw [HS.out],by rw [HT.out],hba⟩
   case measure => simp [intOf];omega
  ·obtain rfl : k = s.bricks.length := by omega
   go_wp2
   go_ret2
   exact ⟨rfl,hbel⟩
end Go.Proofs.YtfkikpbnigenhaaGreat

namespace Go.Proofs.YtfkikpbnigenhaaGreat
open Go.RowKit Go.Shelf
def neededN (s : SetT) : Int := weightN s * s.purch - s.arbor
theorem weight_bd {s : SetT} (h : setB s = true) : 0 ≤ weightN s ∧ weightN s ≤ 1140850688 := by
 have h1 := setB_ok h
 have h2 := wtTo_bd (s := s) (pipe_bd h1.pipe h1.len) (fun x hx => alone_wt (h1.wts.2 x hx).1) s.items.length (Nat.le_refl _)
 have := h1.wts.1
 unfold weightN
 omega
theorem needed_bd {n p : Int} (hn : 0 ≤ n ∧ n ≤ 1140850688) (hp : 1 ≤ p ∧ p ≤ 2) : 0 ≤ n * p ∧ n * p ≤ 2281701376 := by
 rcases (show p = 1 ∨ p = 2 by omega) with rfl | rfl <;> omega
set_option maxRecDepth 100000 in
set_option maxHeartbeats 2000000 in
theorem arbNeeded (v : Value) (s : SetT) (w : World) (hv : SetAt w w.heap.size v s) (hn : SetNames s) :
  Calls Tryz.prog 106 #[v] w fun e w' => e = .returned (if setB s = true then .tuple #[.int .i64 (neededN s),.int .i64 0] else .tuple #[.int .i64 0,.int .i64 1]) ∧ Below w.heap.size w w' := by
 have HWe := fun W (hb : Below w.heap.size w W) => batWeight v s W ((hv.below hb (Nat.le_refl _)).mono hb.size) hn
 obtain ⟨Al,cl,Ai,ci,Ab,cb,rfl,-,-,-⟩ := hv
 have HD := Lib.hid (Blk.new w 26 #[.string s.name,.int .i64 s.depth,.int .i64 s.low,.int .i64 s.high,.int .i64 s.len,.slice Al s.lines.length cl,.int .i64 s.pipe,.int .i64 s.arbor,.int .i64 s.purch,.int .i64 s.most,.int .i64 s.brake,.slice Ai s.items.length ci,.slice Ab s.bricks.length cb])
 have HB1 := Lib.hid ((Below.refl _ w).alloc (Nat.le_refl _) (.cells #[.string s.name,.int .i64 s.depth,.int .i64 s.low,.int .i64 s.high,.int .i64 s.len,.slice Al s.lines.length cl,.int .i64 s.pipe,.int .i64 s.arbor,.int .i64 s.purch,.int .i64 s.most,.int .i64 s.brake,.slice Ai s.items.length ci,.slice Ab s.bricks.length cb] 26))
 have hwe := HWe _ HB1.out
 clear HWe hn
 unfold setVal at *
 rcases Bool.eq_false_or_eq_true (setB s) with hok | hok
 ·have hb := weight_bd hok
  have hok' := setB_ok hok
  have hp := needed_bd hb hok'.purch
  have ha := hok'.arbor
  have v1 : IntKind.i64.wrap (weightN s * s.purch) = weightN s * s.purch := IntWalk.i64_in _ (by omega)
  have v2 : IntKind.i64.wrap (weightN s * s.purch - s.arbor) = weightN s * s.purch - s.arbor := IntWalk.i64_in _ (by omega)
  rw [if_pos hok] at hwe ⊢
  clear hok hok' hp ha hb
  go_enter Tryz.func106,Tryz.ntmps106
  go_wp2_with (go_at_call 140;refine hwe.mono ?_;rintro e w2 ⟨rfl,hb2⟩;have hbx := HB1.out.trans (hb2.mono HB1.out.size);have HD2 := Lib.hid (HD.out.below hb2 HD.out.lt);have z7 := HD2.out.cell 7;have z8 := HD2.out.cell 8;simp only [List.getElem?_toArray,List.getElem?_cons_succ,List.getElem?_cons_zero] at z7 z8)
  go_ret2
  exact ⟨rfl,hbx⟩
 ·rw [if_neg (by rw [hok];simp)] at hwe ⊢
  clear hok
  go_enter Tryz.func106,Tryz.ntmps106
  go_wp2_with (go_at_call 140;refine hwe.mono ?_;rintro e w2 ⟨rfl,hb2⟩)
  go_ret2
  exact ⟨rfl,HB1.out.trans (hb2.mono HB1.out.size)⟩
end Go.Proofs.YtfkikpbnigenhaaGreat

namespace Go.Proofs.YtfkikpbnigenhaaGreat
open Go.RowKit Go.Shelf
def balanceN (s : SetT) : Int := neededN s - brickW s.bricks s.bricks.length
theorem SetOk.brk {s : SetT} (h : SetOk s) : s.bricks.length ≤ 8 ∧ ∀ x ∈ s.bricks,(1 ≤ x.wt ∧ x.wt ≤ 1048576) ∧ (0 ≤ x.cnt ∧ x.cnt ≤ 60) := by
 have h1 := h.bricks
 unfold bricksB at h1
 simp only [Bool.and_eq_true,decide_eq_true_eq,List.all_eq_true] at h1
 refine ⟨h1.1,fun x hx => ?_⟩
 have h2 := h1.2.2.1 x hx
 unfold brickB at h2
 simp only [Bool.and_eq_true] at h2
 exact ⟨between_bd h2.2.1,between_bd h2.2.2⟩
set_option maxRecDepth 100000 in
set_option maxHeartbeats 2000000 in
theorem arbBalance (v : Value) (s : SetT) (w : World) (hv : SetAt w w.heap.size v s) (hn : SetNames s) :
  Calls Tryz.prog 64 #[v] w fun e w' => e = .returned (if setB s = true then .tuple #[.int .i64 (balanceN s),.int .i64 0] else .tuple #[.int .i64 0,.int .i64 1]) ∧ Below w.heap.size w w' := by
 have HNe := fun W (hb : Below w.heap.size w W) => arbNeeded v s W ((hv.below hb (Nat.le_refl _)).mono hb.size) hn
 have HTh := Lib.hid fun (hok : setB s = true) W (hb : Below w.heap.size w W) => arbThere v s W ((hv.below hb (Nat.le_refl _)).mono hb.size) (setB_ok hok).brk.2 (setB_ok hok).brk.1
 obtain ⟨Al,cl,Ai,ci,Ab,cb,rfl,-,-,-⟩ := hv
 have HD := Lib.hid (Blk.new w 26 #[.string s.name,.int .i64 s.depth,.int .i64 s.low,.int .i64 s.high,.int .i64 s.len,.slice Al s.lines.length cl,.int .i64 s.pipe,.int .i64 s.arbor,.int .i64 s.purch,.int .i64 s.most,.int .i64 s.brake,.slice Ai s.items.length ci,.slice Ab s.bricks.length cb])
 have HB1 := Lib.hid ((Below.refl _ w).alloc (Nat.le_refl _) (.cells #[.string s.name,.int .i64 s.depth,.int .i64 s.low,.int .i64 s.high,.int .i64 s.len,.slice Al s.lines.length cl,.int .i64 s.pipe,.int .i64 s.arbor,.int .i64 s.purch,.int .i64 s.most,.int .i64 s.brake,.slice Ai s.items.length ci,.slice Ab s.bricks.length cb] 26))
 have hwe := HNe _ HB1.out
 clear HNe hn
 unfold setVal at *
 rcases Bool.eq_false_or_eq_true (setB s) with hok | hok
 ·have hth := HTh.out hok
  have hb := weight_bd hok
  have hok' := setB_ok hok
  have hp := needed_bd hb hok'.purch
  have ha := hok'.arbor
  have hw := (brickW_bd hok'.brk.2 _ (Nat.le_refl _)).1
  have h8 := hok'.brk.1
  have v2 : IntKind.i64.wrap (neededN s - brickW s.bricks s.bricks.length) = neededN s - brickW s.bricks s.bricks.length := IntWalk.i64_in _ (by unfold neededN;omega)
  rw [if_pos hok] at hwe ⊢
  clear hok hok' hp ha hb hw h8 HTh
  go_enter Tryz.func64,Tryz.ntmps64
  go_wp2_with (first | (go_at_call 106;refine hwe.mono ?_;rintro e w2 ⟨rfl,hb2⟩;have hbx := HB1.out.trans (hb2.mono HB1.out.size);have HD2 := Lib.hid (HD.out.below hb2 HD.out.lt);have z0 := HD2.out.cell 0;have z1 := HD2.out.cell 1;have z2 := HD2.out.cell 2;have z3 := HD2.out.cell 3;have z4 := HD2.out.cell 4;have z5 := HD2.out.cell 5;have z6 := HD2.out.cell 6;have z7 := HD2.out.cell 7;have z8 := HD2.out.cell 8;have z9 := HD2.out.cell 9;have z10 := HD2.out.cell 10;have z11 := HD2.out.cell 11;have z12 := HD2.out.cell 12;simp only [List.getElem?_toArray,List.getElem?_cons_succ,List.getElem?_cons_zero] at z0 z1 z2 z3 z4 z5 z6 z7 z8 z9 z10 z11 z12) | (go_at_call 107;refine (hth _ hbx).mono ?_;rintro e w3 ⟨rfl,hb3⟩))
  go_ret2
  exact ⟨rfl,hbx.trans (hb3.mono hbx.size)⟩
 ·rw [if_neg (by rw [hok];simp)] at hwe ⊢
  clear hok HTh
  go_enter Tryz.func64,Tryz.ntmps64
  go_wp2_with (go_at_call 106;refine hwe.mono ?_;rintro e w2 ⟨rfl,hb2⟩)
  go_ret2
  exact ⟨rfl,HB1.out.trans (hb2.mono HB1.out.size)⟩
end Go.Proofs.YtfkikpbnigenhaaGreat

namespace Go.Proofs.YtfkikpbnigenhaaGreat
open Go.RowKit Go.Shelf
theorem balance_bd {s : SetT} (h : setB s = true) : -604045312 ≤ balanceN s ∧ balanceN s ≤ 2281701376 := by
 have hb := weight_bd h
 have hok' := setB_ok h
 have hp := needed_bd hb hok'.purch
 have ha := hok'.arbor
 have hw := (brickW_bd hok'.brk.2 _ (Nat.le_refl _)).1
 have h8 := hok'.brk.1
 unfold balanceN neededN
 omega
end Go.Proofs.YtfkikpbnigenhaaGreat

namespace Go.Proofs.YtfkikpbnigenhaaGreat
open Go.RowKit Go.Shelf
def AnsB (w : World) (e : Ending) (w' : World) : Prop := ∃ q : Bool,e = .returned (.bool q) ∧ Below w.heap.size w w'
set_option maxRecDepth 100000 in
set_option maxHeartbeats 4000000 in
theorem refSmall (v : Value) (s : SetT) (n : Int) (w : World) (hv : SetAt w w.heap.size v s) (_hsz : s.name.size ≤ maxLen) (hnm : ∀ x ∈ s.items,x.name.size ≤ maxLen) (hbm : ∀ x ∈ s.bricks,x.name.size ≤ maxLen) :
  Calls Tryz.prog 6 #[v,.int .i64 n] w (AnsB w) := by
 obtain ⟨Al,cl,Ai,ci,Ab,cb,rfl,hL,hI,hB⟩ := hv
 obtain ⟨_,_,e,hl1,hl2,-⟩ := hL.open_
 injection e with e1 _ e2
 subst e1 e2
 obtain ⟨_,_,e,hi1,hi2,hic⟩ := hI.open_
 injection e with e1 _ e2
 subst e1 e2
 obtain ⟨_,_,e,hk1,hk2,hkc⟩ := hB.open_
 injection e with e1 _ e2
 subst e1 e2
 have HI := Lib.hid hic
 have HK := Lib.hid hkc
 have HN := Lib.hid hnm
 have HM := Lib.hid hbm
 have HD := Lib.hid (Blk.new w 26 #[.string s.name,.int .i64 s.depth,.int .i64 s.low,.int .i64 s.high,.int .i64 s.len,.slice Al s.lines.length cl,.int .i64 s.pipe,.int .i64 s.arbor,.int .i64 s.purch,.int .i64 s.most,.int .i64 s.brake,.slice Ai s.items.length ci,.slice Ab s.bricks.length cb])
 have HB1 := Lib.hid ((Below.refl _ w).alloc (Nat.le_refl _) (.cells #[.string s.name,.int .i64 s.depth,.int .i64 s.low,.int .i64 s.high,.int .i64 s.len,.slice Al s.lines.length cl,.int .i64 s.pipe,.int .i64 s.arbor,.int .i64 s.purch,.int .i64 s.most,.int .i64 s.brake,.slice Ai s.items.length ci,.slice Ab s.bricks.length cb] 26))
 unfold maxLen at hl2 hi2 hk2 _hsz
 unfold setVal
 clear hL hI hB hic hkc hnm hbm
 by_cases c0 : 60 < (s.name.size : Int)
 ·have d0 : decide (60 < (s.name.size : Int)) = true := decide_eq_true c0
  go_enter Tryz.func6,Tryz.ntmps6
  go_wp2
  go_ret
  exact ⟨_,rfl,HB1.out⟩
 have d0 : decide (60 < (s.name.size : Int)) = false := decide_eq_false c0
 by_cases c1 : 12 < (s.lines.length : Int)
 ·have d1 : decide (12 < (s.lines.length : Int)) = true := decide_eq_true c1
  go_enter Tryz.func6,Tryz.ntmps6
  go_wp2
  go_ret
  exact ⟨_,rfl,HB1.out⟩
 have d1 : decide (12 < (s.lines.length : Int)) = false := decide_eq_false c1
 by_cases c2 : n < (s.items.length : Int)
 ·have d2 : decide (n < (s.items.length : Int)) = true := decide_eq_true c2
  by_cases c3 : (s.items.length : Int) ≤ 40
  ·have d3 : decide ((s.items.length : Int) ≤ 40) = true := decide_eq_true c3
   go_enter Tryz.func6,Tryz.ntmps6
   go_wp2
   go_ret
   exact ⟨_,rfl,HB1.out⟩
  have d3 : decide ((s.items.length : Int) ≤ 40) = false := decide_eq_false c3
  by_cases c4 : 45 < (s.items.length : Int)
  ·have d4 : decide (45 < (s.items.length : Int)) = true := decide_eq_true c4
   go_enter Tryz.func6,Tryz.ntmps6
   go_wp2
   go_ret
   exact ⟨_,rfl,HB1.out⟩
  have d4 : decide (45 < (s.items.length : Int)) = false := decide_eq_false c4
  by_cases c5 : 10 < (s.bricks.length : Int)
  ·have d5 : decide (10 < (s.bricks.length : Int)) = true := decide_eq_true c5
   go_enter Tryz.func6,Tryz.ntmps6
   go_wp2
   go_ret
   exact ⟨_,rfl,HB1.out⟩
  have d5 : decide (10 < (s.bricks.length : Int)) = false := decide_eq_false c5
  go_enter Tryz.func6,Tryz.ntmps6
  go_wp2
  generalize w.alloc (.cells #[.string s.name,.int .i64 s.depth,.int .i64 s.low,.int .i64 s.high,.int .i64 s.len,.slice Al s.lines.length cl,.int .i64 s.pipe,.int .i64 s.arbor,.int .i64 s.purch,.int .i64 s.most,.int .i64 s.brake,.slice Ai s.items.length ci,.slice Ab s.bricks.length cb] 26) = W1 at *
  have z11 := HD.out.cell 11
  have z12 := HD.out.cell 12
  simp only [List.getElem?_toArray,List.getElem?_cons_succ,List.getElem?_cons_zero] at z11 z12
  go_loopw [5] (fun x wr => ∃ k : Nat,k ≤ s.items.length ∧ x = .int .i64 k ∧ W1 = wr) (fun x _ => s.items.length - (intOf x).toNat)
  case atStart => exact ⟨0,Nat.zero_le _,rfl,rfl⟩
  case round =>
   obtain ⟨k,hk,rfl,rfl⟩ := hrel
   by_cases hkl : k < s.items.length
   ·obtain ⟨b,off,rfl,hb,hc⟩ := HI.out k hkl
    have y0 := (HB1.out.cell (p := ⟨b,off + k * 7,none⟩) hb).trans (hc k hkl).1
    have hz := HN.out _ (List.getElem_mem hkl)
    unfold maxLen at hz
    have i1 : (0 : Int) ≤ (k : Int) := Int.natCast_nonneg _
    have i2 : (k : Int) < (s.items.length : Int) := by omega
    clear hc
    by_cases g : 60 < (s.items[k].name.size : Int)
    ·have gd := decide_eq_true g
     go_wp2
     go_ret
     exact ⟨_,rfl,HB1.out⟩
    ·have gd := decide_eq_false g
     go_wp2
     go_roundw
     case rel => exact ⟨k + 1,by omega,by go_num,by trivial⟩
     case measure => simp [intOf];omega
   ·obtain rfl : k = s.items.length := by omega
    go_wp2
    go_loopw [6] (fun x wr => ∃ k : Nat,k ≤ s.bricks.length ∧ x = .int .i64 k ∧ W1 = wr) (fun x _ => s.bricks.length - (intOf x).toNat)
    case atStart => exact ⟨0,Nat.zero_le _,rfl,rfl⟩
    case round =>
     obtain ⟨k,hk,rfl,rfl⟩ := hrel
     by_cases hkl : k < s.bricks.length
     ·obtain ⟨b,off,rfl,hb,hc⟩ := HK.out k hkl
      have y0 := (HB1.out.cell (p := ⟨b,off + k * 3,none⟩) hb).trans (hc k hkl).1
      have hz := HM.out _ (List.getElem_mem hkl)
      unfold maxLen at hz
      have i1 : (0 : Int) ≤ (k : Int) := Int.natCast_nonneg _
      have i2 : (k : Int) < (s.bricks.length : Int) := by omega
      clear hc
      by_cases g : 60 < (s.bricks[k].name.size : Int)
      ·have gd := decide_eq_true g
       go_wp2
       go_ret
       exact ⟨_,rfl,HB1.out⟩
      ·have gd := decide_eq_false g
       go_wp2
       go_roundw
       case rel => exact ⟨k + 1,by omega,by go_num,by trivial⟩
       case measure => simp [intOf];omega
     ·obtain rfl : k = s.bricks.length := by omega
      go_wp2
      go_ret
      exact ⟨_,rfl,HB1.out⟩
 have d2 : decide (n < (s.items.length : Int)) = false := decide_eq_false c2
 by_cases c4 : 45 < (s.items.length : Int)
 ·have d4 : decide (45 < (s.items.length : Int)) = true := decide_eq_true c4
  go_enter Tryz.func6,Tryz.ntmps6
  go_wp2
  go_ret
  exact ⟨_,rfl,HB1.out⟩
 have d4 : decide (45 < (s.items.length : Int)) = false := decide_eq_false c4
 by_cases c5 : 10 < (s.bricks.length : Int)
 ·have d5 : decide (10 < (s.bricks.length : Int)) = true := decide_eq_true c5
  go_enter Tryz.func6,Tryz.ntmps6
  go_wp2
  go_ret
  exact ⟨_,rfl,HB1.out⟩
 have d5 : decide (10 < (s.bricks.length : Int)) = false := decide_eq_false c5
 go_enter Tryz.func6,Tryz.ntmps6
 go_wp2
 generalize w.alloc (.cells #[.string s.name,.int .i64 s.depth,.int .i64 s.low,.int .i64 s.high,.int .i64 s.len,.slice Al s.lines.length cl,.int .i64 s.pipe,.int .i64 s.arbor,.int .i64 s.purch,.int .i64 s.most,.int .i64 s.brake,.slice Ai s.items.length ci,.slice Ab s.bricks.length cb] 26) = W1 at *
 have z11 := HD.out.cell 11
 have z12 := HD.out.cell 12
 simp only [List.getElem?_toArray,List.getElem?_cons_succ,List.getElem?_cons_zero] at z11 z12
 go_loopw [5] (fun x wr => ∃ k : Nat,k ≤ s.items.length ∧ x = .int .i64 k ∧ W1 = wr) (fun x _ => s.items.length - (intOf x).toNat)
 case atStart => exact ⟨0,Nat.zero_le _,rfl,rfl⟩
 case round =>
  obtain ⟨k,hk,rfl,rfl⟩ := hrel
  by_cases hkl : k < s.items.length
  ·obtain ⟨b,off,rfl,hb,hc⟩ := HI.out k hkl
   have y0 := (HB1.out.cell (p := ⟨b,off + k * 7,none⟩) hb).trans (hc k hkl).1
   have hz := HN.out _ (List.getElem_mem hkl)
   unfold maxLen at hz
   have i1 : (0 : Int) ≤ (k : Int) := Int.natCast_nonneg _
   have i2 : (k : Int) < (s.items.length : Int) := by omega
   clear hc
   by_cases g : 60 < (s.items[k].name.size : Int)
   ·have gd := decide_eq_true g
    go_wp2
    go_ret
    exact ⟨_,rfl,HB1.out⟩
   ·have gd := decide_eq_false g
    go_wp2
    go_roundw
    case rel => exact ⟨k + 1,by omega,by go_num,by trivial⟩
    case measure => simp [intOf];omega
  ·obtain rfl : k = s.items.length := by omega
   go_wp2
   go_loopw [6] (fun x wr => ∃ k : Nat,k ≤ s.bricks.length ∧ x = .int .i64 k ∧ W1 = wr) (fun x _ => s.bricks.length - (intOf x).toNat)
   case atStart => exact ⟨0,Nat.zero_le _,rfl,rfl⟩
   case round =>
    obtain ⟨k,hk,rfl,rfl⟩ := hrel
    by_cases hkl : k < s.bricks.length
    ·obtain ⟨b,off,rfl,hb,hc⟩ := HK.out k hkl
     have y0 := (HB1.out.cell (p := ⟨b,off + k * 3,none⟩) hb).trans (hc k hkl).1
     have hz := HM.out _ (List.getElem_mem hkl)
     unfold maxLen at hz
     have i1 : (0 : Int) ≤ (k : Int) := Int.natCast_nonneg _
     have i2 : (k : Int) < (s.bricks.length : Int) := by omega
     clear hc
     by_cases g : 60 < (s.bricks[k].name.size : Int)
     ·have gd := decide_eq_true g
      go_wp2
      go_ret
      exact ⟨_,rfl,HB1.out⟩
     ·have gd := decide_eq_false g
      go_wp2
      go_roundw
      case rel => exact ⟨k + 1,by omega,by go_num,by trivial⟩
      case measure => simp [intOf];omega
    ·obtain rfl : k = s.bricks.length := by omega
     go_wp2
     go_ret
     exact ⟨_,rfl,HB1.out⟩
end Go.Proofs.YtfkikpbnigenhaaGreat
