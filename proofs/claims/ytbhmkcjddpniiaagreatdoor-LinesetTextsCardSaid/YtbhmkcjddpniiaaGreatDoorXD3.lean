/- Parts of the proof, laid into one text: SetF, BatW, BatX, RegF, LsE, Small, ArbA, ArbB, ArbC, ArbD, LsT. -/
import Derived.BigQuiet
import Derived.Deep.AppendLies
import Derived.Deep.Draws
import Derived.Deep.LoopGhost
import Derived.Deep.QuietTactic
import Derived.IntWalk
import Derived.Laws.Bits64b
import Derived.Lib.Hide
import Derived.Maps.AppendAt
import Derived.Maps.Own
import Derived.Maps.OwnOps
import Derived.Maps.OwnSet
import Derived.Maps.Views
import Derived.PlainAid
import Derived.Shelf.Abstract
import Derived.StillTailTactics
import Derived.Test.YtbhmkcjddpniiaaGreatDoorProg
import Derived.Test.YtbhmkcjddpniiaaGreatDoorXC1
import Derived.Test.YtbhmkcjddpniiaaGreatDoorXC2
import Derived.Test.YtbhmkcjddpniiaaGreatDoorXD1
import Derived.Test.YtbhmkcjddpniiaaGreatDoorXD2
import Derived.Test.YtbhmkcjddpniiaaGreatDoorXG1
import Derived.WalkKit
import Derived.WalkLawsBesides
import Derived.WalkSpells

namespace Go.Proofs.YtbhmkcjddpniiaaGreatDoor
structure SetOk (s : SetT) : Prop where
 len : 1000 ≤ s.len ∧ s.len ≤ 1048576
 pipe : 0 ≤ s.pipe ∧ s.pipe ≤ 1048576
 arbor : 0 ≤ s.arbor ∧ s.arbor ≤ 1048576
 purch : 1 ≤ s.purch ∧ s.purch ≤ 2
 most : 1 ≤ s.most ∧ s.most ≤ 67108864
 brake : 0 ≤ s.brake ∧ s.brake ≤ 67108864
 depth : 0 ≤ s.depth ∧ s.depth ≤ 1048576
 low : 0 ≤ s.low ∧ s.low ≤ s.high ∧ s.high ≤ 1048576
 lines : linesB s.lines s.len = true
 items : itemsB s.items s.len = true
 bricks : bricksB s.bricks = true
theorem setB_ok {s : SetT} (h : setB s = true) : SetOk s := by
 unfold setB at h
 simp only [Bool.and_eq_true,decide_eq_true_eq] at h
 obtain ⟨-,h1,h2,h3,h4,h5,-,h7,h8,h9,h10,h11,h12,h13,h14⟩ := h
 exact ⟨between_bd h5,between_bd h8,between_bd h9,between_bd h10,between_bd h11,between_bd h12,between_bd h1,⟨h2,h3,h4⟩,h7,h13,h14⟩
theorem SetOk.wts {s : SetT} (h : SetOk s) : s.items.length ≤ 40 ∧ ∀ x ∈ s.items,alone1 x = true ∧ inside1 x s.len = true := by
 have h1 := h.items
 unfold itemsB at h1
 simp only [Bool.and_eq_true,decide_eq_true_eq] at h1
 refine ⟨h1.1,fun x hx => ?_⟩
 obtain ⟨i,hi,rfl⟩ := List.getElem_of_mem hx
 have h2 := h1.2.2
 unfold itTo at h2
 rw [decide_eq_true_iff] at h2
 have h3 := h2 i hi
 rw [itGood_eq hi] at h3
 simp only [Bool.and_eq_true] at h3
 exact ⟨h3.1,h3.2.1⟩
end Go.Proofs.YtbhmkcjddpniiaaGreatDoor

namespace Go.Proofs.YtbhmkcjddpniiaaGreatDoor
open Go.RowKit Go.Shelf
def pipeN (s : SetT) : Int := s.pipe * (s.len / 1000)
theorem pipe_bd {p n : Int} (hp : 0 ≤ p ∧ p ≤ 1048576) (hl : 1000 ≤ n ∧ n ≤ 1048576) : 0 ≤ p * (n / 1000) ∧ p * (n / 1000) ≤ 1098907648 := by
 have h1 : 0 ≤ n / 1000 := by omega
 have h2 : n / 1000 ≤ 1048 := by omega
 have h3 := Int.mul_le_mul hp.2 h2 h1 (by decide)
 have h4 := Int.mul_nonneg hp.1 h1
 omega
set_option maxRecDepth 100000 in
set_option maxHeartbeats 1000000 in
theorem batPipe (v : Value) (s : SetT) (B : Nat) (w : World) (hv : SetAt w B v s) (hp : 0 ≤ s.pipe ∧ s.pipe ≤ 1048576) (hl : 1000 ≤ s.len ∧ s.len ≤ 1048576) :
  Calls Tryz.prog 158 #[v] w fun e w' => e = .returned (.int .i64 (pipeN s)) ∧ Below w.heap.size w w' := by
 obtain ⟨Al,cl,Ai,ci,Ab,cb,rfl,-,-,-⟩ := hv
 have hb := pipe_bd hp hl
 have HE : Hid (pipeN s = s.pipe * (s.len / 1000)) := rfl
 have v1 : IntKind.i64.wrap (s.pipe * (s.len / 1000)) = s.pipe * (s.len / 1000) := IntWalk.i64_in _ (by omega)
 have v2 : IntKind.i64.wrap (s.len / 1000) = s.len / 1000 := IntWalk.i64_in _ (by omega)
 have v3 : s.len.tdiv 1000 = s.len / 1000 := Int.tdiv_eq_ediv_of_nonneg (by omega)
 clear hp hl hb
 unfold setVal
 go_enter Tryz.func158,Tryz.ntmps158
 go_wp2
 go_ret
 exact ⟨by rw [HE.out];rfl,(Below.refl _ _).alloc (Nat.le_refl _) _⟩
def wtTo (s : SetT) (k : Nat) : Int := pipeN s + ((s.items.take k).map ItemT.wt).sum
def weightN (s : SetT) : Int := wtTo s s.items.length
theorem wtTo_succ (s : SetT) (k : Nat) (hk : k < s.items.length) : wtTo s (k + 1) = wtTo s k + s.items[k].wt := by
 unfold wtTo
 rw [take_snoc s.items k hk,List.map_append,List.sum_append]
 simp [Int.add_assoc]
theorem wtTo_bd {s : SetT} (hp : 0 ≤ pipeN s ∧ pipeN s ≤ 1098907648) (hi : ∀ x ∈ s.items,0 ≤ x.wt ∧ x.wt ≤ 1048576) : ∀ k,k ≤ s.items.length → 0 ≤ wtTo s k ∧ wtTo s k ≤ 1098907648 + 1048576 * k
 | 0,_ => by simp [wtTo];omega
 | k + 1,hk => by
  have h1 := wtTo_bd hp hi k (by omega)
  have h2 := hi _ (List.getElem_mem (show k < s.items.length by omega))
  rw [wtTo_succ s k (by omega)]
  omega
set_option maxRecDepth 100000 in
set_option maxHeartbeats 2000000 in
theorem batWeight1 (v : Value) (s : SetT) (w : World) (hv : SetAt w w.heap.size v s) (hp : 0 ≤ s.pipe ∧ s.pipe ≤ 1048576) (hl : 1000 ≤ s.len ∧ s.len ≤ 1048576) (hi : ∀ x ∈ s.items,0 ≤ x.wt ∧ x.wt ≤ 1048576) (h40 : s.items.length ≤ 40) :
  Calls Tryz.prog 112 #[v] w fun e w' => e = .returned (.int .i64 (weightN s)) ∧ Below w.heap.size w w' := by
 have hP := fun W (hb : Below w.heap.size w W) => batPipe v s W.heap.size W ((hv.below hb (Nat.le_refl _)).mono hb.size) hp hl
 have HBd := Lib.hid (wtTo_bd (s := s) (pipe_bd hp hl) hi)
 obtain ⟨Al,cl,Ai,ci,Ab,cb,rfl,hL,hI,hB⟩ := hv
 obtain ⟨_,_,e,hi1,hi2,hic⟩ := hI.open_
 injection e with e1 _ e2
 subst e1 e2
 have HI := Lib.hid hic
 have HD := Lib.hid (Blk.new w 26 #[.string s.name,.int .i64 s.depth,.int .i64 s.low,.int .i64 s.high,.int .i64 s.len,.slice Al s.lines.length cl,.int .i64 s.pipe,.int .i64 s.arbor,.int .i64 s.purch,.int .i64 s.most,.int .i64 s.brake,.slice Ai s.items.length ci,.slice Ab s.bricks.length cb])
 have HB1 := Lib.hid ((Below.refl _ w).alloc (Nat.le_refl _) (.cells #[.string s.name,.int .i64 s.depth,.int .i64 s.low,.int .i64 s.high,.int .i64 s.len,.slice Al s.lines.length cl,.int .i64 s.pipe,.int .i64 s.arbor,.int .i64 s.purch,.int .i64 s.most,.int .i64 s.brake,.slice Ai s.items.length ci,.slice Ab s.bricks.length cb] 26))
 unfold maxLen at hi2
 clear hL hI hB hic hp hl hi
 unfold setVal at *
 go_enter Tryz.func112,Tryz.ntmps112
 go_wp2_with (go_at_call 158;refine (hP _ HB1.out).mono ?_;rintro e w2 ⟨rfl,hb2⟩;have HB2 := Lib.hid (HB1.out.trans (hb2.mono HB1.out.size));have HD2 := Lib.hid (HD.out.below hb2 HD.out.lt);have z11 := HD2.out.cell 11;simp only [List.getElem?_toArray,List.getElem?_cons_succ,List.getElem?_cons_zero] at z11;clear hb2)
 go_loopw [11,3] (fun x t wr => ∃ k : Nat,k ≤ s.items.length ∧ x = .int .i64 k ∧ t = .int .i64 (wtTo s k) ∧ Below w.heap.size w wr) (fun x _ _ => s.items.length - (intOf x).toNat)
 case atStart => exact ⟨0,Nat.zero_le _,rfl,by simp [wtTo],HB2.out⟩
 case round =>
  obtain ⟨k,hk,rfl,rfl,hbel⟩ := hrel
  by_cases hkl : k < s.items.length
  ·obtain ⟨b1,off1,rfl,hb1,hc⟩ := HI.out k hkl
   have y0 := (hbel.cell (p := ⟨b1,off1 + k * 7,none⟩) hb1).trans (hc k hkl).1
   have y1 := (hbel.cell (p := ⟨b1,off1 + k * 7 + 1,none⟩) hb1).trans (hc k hkl).2.1
   have y2 := (hbel.cell (p := ⟨b1,off1 + k * 7 + 2,none⟩) hb1).trans (hc k hkl).2.2.1
   have y3 := (hbel.cell (p := ⟨b1,off1 + k * 7 + 3,none⟩) hb1).trans (hc k hkl).2.2.2.1
   have y4 := (hbel.cell (p := ⟨b1,off1 + k * 7 + 4,none⟩) hb1).trans (hc k hkl).2.2.2.2.1
   have y5 := (hbel.cell (p := ⟨b1,off1 + k * 7 + 5,none⟩) hb1).trans (hc k hkl).2.2.2.2.2.1
   have y6 := (hbel.cell (p := ⟨b1,off1 + k * 7 + 6,none⟩) hb1).trans (hc k hkl).2.2.2.2.2.2
   have h3 := HBd.out (k + 1) hkl
   have hs := wtTo_succ s k hkl
   have v1 : IntKind.i64.wrap (wtTo s k + s.items[k].wt) = wtTo s k + s.items[k].wt := IntWalk.i64_in _ (by rw [← hs];omega)
   have HS := Lib.hid hs
   have hba : Below w.heap.size w (wr.alloc (.cells #[.string s.items[k].name,.int .i64 s.items[k].pos,.int .i64 s.items[k].width,.int .i64 s.items[k].wt,.int .i64 s.items[k].hang,.int .i64 s.items[k].front,.int .i64 s.items[k].back] 47)) := hbel.alloc hbel.size _
   have i1 : (0 : Int) ≤ (k : Int) := Int.natCast_nonneg _
   have i2 : (k : Int) < (s.items.length : Int) := by omega
   clear hc hs h3
   go_wp2
   go_roundw
   case rel => exact ⟨k + 1,by omega,by go_num,by rw [HS.out],hba⟩
   case measure => simp [intOf];omega
  ·obtain rfl : k = s.items.length := by omega
   go_wp2
   go_ret
   exact ⟨rfl,hbel⟩
end Go.Proofs.YtbhmkcjddpniiaaGreatDoor

namespace Go.Proofs.YtbhmkcjddpniiaaGreatDoor
open Go.RowKit Go.Shelf
theorem alone_wt {x : ItemT} (h : alone1 x = true) : 0 ≤ x.wt ∧ x.wt ≤ 1048576 := by
 unfold alone1 at h
 simp only [Bool.and_eq_true] at h
 exact between_bd h.2.1
set_option maxRecDepth 100000 in
set_option maxHeartbeats 2000000 in
theorem batWeight (v : Value) (s : SetT) (w : World) (hv : SetAt w w.heap.size v s) (hn : SetNames s) :
  Calls Tryz.prog 61 #[v] w fun e w' => e = .returned (if setB s = true then .tuple #[.int .i64 (weightN s),.int .i64 0] else .tuple #[.int .i64 0,.int .i64 1]) ∧ Below w.heap.size w w' := by
 have HVa := fun W (hb : Below w.heap.size w W) => batValid v s W ((hv.below hb (Nat.le_refl _)).mono hb.size) hn
 have HWe := Lib.hid fun (hok : setB s = true) W (hb : Below w.heap.size w W) => batWeight1 v s W ((hv.below hb (Nat.le_refl _)).mono hb.size) (setB_ok hok).pipe (setB_ok hok).len (fun x hx => alone_wt ((setB_ok hok).wts.2 x hx).1) (setB_ok hok).wts.1
 obtain ⟨Al,cl,Ai,ci,Ab,cb,rfl,-,-,-⟩ := hv
 have HD := Lib.hid (Blk.new w 26 #[.string s.name,.int .i64 s.depth,.int .i64 s.low,.int .i64 s.high,.int .i64 s.len,.slice Al s.lines.length cl,.int .i64 s.pipe,.int .i64 s.arbor,.int .i64 s.purch,.int .i64 s.most,.int .i64 s.brake,.slice Ai s.items.length ci,.slice Ab s.bricks.length cb])
 have HB1 := Lib.hid ((Below.refl _ w).alloc (Nat.le_refl _) (.cells #[.string s.name,.int .i64 s.depth,.int .i64 s.low,.int .i64 s.high,.int .i64 s.len,.slice Al s.lines.length cl,.int .i64 s.pipe,.int .i64 s.arbor,.int .i64 s.purch,.int .i64 s.most,.int .i64 s.brake,.slice Ai s.items.length ci,.slice Ab s.bricks.length cb] 26))
 clear hn
 have hva := HVa _ HB1.out
 clear HVa
 unfold setVal at *
 rcases Bool.eq_false_or_eq_true (setB s) with hok | hok
 ·have hwe := HWe.out hok
  rw [hok] at hva
  rw [if_pos hok]
  clear hok HWe
  go_enter Tryz.func61,Tryz.ntmps61
  go_wp2_with (first | (go_at_call 24;refine hva.mono ?_;rintro e w2 ⟨rfl,hb2⟩;have hbx := HB1.out.trans (hb2.mono HB1.out.size);have HD2 := Lib.hid (HD.out.below hb2 HD.out.lt);have z0 := HD2.out.cell 0;have z1 := HD2.out.cell 1;have z2 := HD2.out.cell 2;have z3 := HD2.out.cell 3;have z4 := HD2.out.cell 4;have z5 := HD2.out.cell 5;have z6 := HD2.out.cell 6;have z7 := HD2.out.cell 7;have z8 := HD2.out.cell 8;have z9 := HD2.out.cell 9;have z10 := HD2.out.cell 10;have z11 := HD2.out.cell 11;have z12 := HD2.out.cell 12;simp only [List.getElem?_toArray,List.getElem?_cons_succ,List.getElem?_cons_zero] at z0 z1 z2 z3 z4 z5 z6 z7 z8 z9 z10 z11 z12) | (go_at_call 112;refine (hwe _ hbx).mono ?_;rintro e w3 ⟨rfl,hb3⟩))
  go_ret2
  exact ⟨rfl,hbx.trans (hb3.mono hbx.size)⟩
 ·rw [hok] at hva
  rw [if_neg (by rw [hok];simp)]
  clear hok HWe
  go_enter Tryz.func61,Tryz.ntmps61
  go_wp2_with (go_at_call 24;refine hva.mono ?_;rintro e w2 ⟨rfl,hb2⟩)
  go_ret2
  exact ⟨rfl,HB1.out.trans (hb2.mono HB1.out.size)⟩
end Go.Proofs.YtbhmkcjddpniiaaGreatDoor

namespace Go.Proofs.YtbhmkcjddpniiaaGreatDoor
open Go.RowKit Go.Shelf
def waitsB (md : Region.Mode) (ops : Array Oper) (i j : Nat) : Bool :=
 match ops[i]? with
 | some o => o.after.any fun e => Region.binds md e && e.on == j
 | none => false
def okM (md : Region.Mode) (ops : Array Oper) (S : List Nat) (i m : Nat) : Bool :=
 (List.range S.length).all fun k => (!waitsB md ops i (S.getD k 0) || decide (k < m)) && (!waitsB md ops (S.getD k 0) i || decide (m ≤ k))
def freeRegB (md : Region.Mode) (ops : Array Oper) (_S : List Nat) : Bool :=
 Region.noSelect ops && ops.all (fun o => o.guard.isNone) &&
 (List.range ops.size).all fun i => match ops[i]? with
  | none => false
  | some o => (o.after.all fun e => !Region.binds md e || decide (e.on < i)) &&
   (List.range ops.size).all fun j => match ops[j]? with
    | none => false
    | some p => match p.dst with
     | none => true
     | some d => (!(o.looksAt ops).contains d || waitsB md ops i j) && (decide (i = j) || !(o.dst == some d))
def freeStB (md : Region.Mode) (ops : Array Oper) (S : List Nat) : Bool :=
 (List.range S.length).all fun k => decide (S.getD k 0 < ops.size) && (decide (k = 0) || waitsB md ops (S.getD k 0) (S.getD (k - 1) 0)) && (match ops[S.getD k 0]? with | some o => o.dst.isNone | none => false)
section
variable {P : Program} {ops : Array Oper} {md : Region.Mode} {V : Nat → Value} {Wd : Nat → World} {S : List Nat}
theorem waits_iff {i j : Nat} {o : Oper} (ho : ops[i]? = some o) : waitsB md ops i j = true ↔ ∃ e ∈ o.after,Region.binds md e = true ∧ e.on = j := by
 unfold waitsB
 rw [ho]
 dsimp only
 rw [← Array.any_toList,List.any_eq_true]
 simp only [Bool.and_eq_true,beq_iff_eq,Array.mem_toList_iff]
def dstOf (ops : Array Oper) (i : Nat) : Option Tmp := (ops[i]?).bind (·.dst)
def pend (ops : Array Oper) (V : Nat → Value) (done : Array Bool) : List Nat → Act → Act
 | [],a => a
 | i :: r,a => pend ops V done r (if done.getD i true = false then a.put (dstOf ops i) (V i) else a)
theorem pend_set_out {done : Array Bool} {i : Nat} : ∀ (L : List Nat) (a : Act),i ∉ L → pend ops V (done.setIfInBounds i true) L a = pend ops V done L a
 | [],_,_ => rfl
 | j :: r,a,h => by
  have hji : i ≠ j := fun e => h (by rw [e];simp)
  unfold pend
  rw [getD_set_ne true hji,pend_set_out r _ (fun hh => h (by simp [hh]))]
theorem pend_step {done : Array Bool} {i : Nat} (hi : done.getD i true = false) (hlt : i < done.size) (hd : ∀ j,j ≠ i → ∀ d,dstOf ops i = some d → dstOf ops j ≠ some d) : ∀ (L : List Nat) (a : Act),L.Nodup → i ∈ L →
  pend ops V (done.setIfInBounds i true) L (a.put (dstOf ops i) (V i)) = pend ops V done L a
 | [],_,_,h => by cases h
 | j :: r,a,hn,hm => by
  rw [List.nodup_cons] at hn
  unfold pend
  by_cases e : j = i
  ·subst e
   have h1 : (done.setIfInBounds j true).getD j true = true := by
    simp [Array.getD,hlt]
   rw [if_neg (by rw [h1];simp),if_pos hi,pend_set_out r _ hn.1]
  ·rw [getD_set_ne true (Ne.symm e)]
   have hm' : i ∈ r := by
    rcases List.mem_cons.1 hm with h | h
    ·exact absurd h.symm e
    ·exact h
   by_cases hj : done.getD j true = false
   ·rw [if_pos hj,if_pos hj,Act.put_comm a (V i) (V j) (hd j e),pend_step hi hlt hd r _ hn.2 hm']
   ·rw [if_neg hj,if_neg hj,pend_step hi hlt hd r _ hn.2 hm']
theorem exec_pend {done : Array Bool} {o : Oper} (hs : ∀ cs b,o.op ≠ .select cs b) : ∀ (L : List Nat) (a : Act),(∀ j ∈ L,done.getD j true = false → ∀ d,dstOf ops j = some d → d ∉ o.looksAt ops) → execOp (pend ops V done L a).eval o = execOp a.eval o
 | [],_,_ => rfl
 | j :: r,a,h => by
  unfold pend
  by_cases hj : done.getD j true = false
  ·rw [if_pos hj,exec_pend hs r _ (fun j hj => h j (by simp [hj])),execOp_put (ops := ops) o hs a _ _ (h j (by simp) hj)]
  ·rw [if_neg hj,exec_pend hs r _ (fun j hj => h j (by simp [hj]))]
def left (done : Array Bool) (n : Nat) : Nat := ((List.range n).filter fun i => !done.getD i true).length
theorem left_set {done : Array Bool} {i : Nat} (hi : done.getD i true = false) (hlt : i < done.size) : ∀ L : List Nat,L.Nodup → i ∈ L → (L.filter fun i => !done.getD i true).length = (L.filter fun j => !(done.setIfInBounds i true).getD j true).length + 1
 | [],_,h => by cases h
 | j :: r,hn,hm => by
  rw [List.nodup_cons] at hn
  have hout : ∀ r : List Nat,i ∉ r → (r.filter fun j => !(done.setIfInBounds i true).getD j true) = r.filter fun j => !done.getD j true := fun r hr =>
   List.filter_congr fun x hx => by rw [getD_set_ne true (fun e => hr (by rw [e];exact hx))]
  by_cases e : j = i
  ·subst e
   have h1 : (done.setIfInBounds j true).getD j true = true := by
    simp [Array.getD,hlt]
   rw [List.filter_cons_of_pos (by rw [hi];rfl),List.filter_cons_of_neg (by rw [h1];simp),hout r hn.1]
   rfl
  ·have hm' : i ∈ r := by
    rcases List.mem_cons.1 hm with h | h
    ·exact absurd h.symm e
    ·exact h
   have ih := left_set hi hlt r hn.2 hm'
   have h2 := getD_set_ne (listed := done) true (Ne.symm e)
   cases hj : done.getD j true with
   | false =>
    rw [List.filter_cons_of_pos (by rw [hj];rfl),List.filter_cons_of_pos (by rw [h2,hj];rfl),List.length_cons,List.length_cons,ih]
   | true =>
    rw [List.filter_cons_of_neg (by rw [hj];simp),List.filter_cons_of_neg (by rw [h2,hj];simp),ih]
structure FInv (md : Region.Mode) (ops : Array Oper) (V : Nat → Value) (Wd : Nat → World) (S : List Nat) (aF : Act) (done : Array Bool) (a : Act) (w : World) : Prop where
 size : done.size = ops.size
 act : pend ops V done (List.range ops.size) a = aF
 closed : ∀ j,done.getD j false = true → ∀ i,waitsB md ops j i = true → done.getD i false = true
 world : ∃ m,m ≤ S.length ∧ w = Wd m ∧ ∀ k,k < S.length → done.getD (S.getD k 0) false = decide (k < m)
theorem getD_two {done : Array Bool} {i : Nat} (h : i < done.size) : done.getD i true = done.getD i false := by
 simp [Array.getD,h]
def freeAt (P : Program) (md : Region.Mode) (ops : Array Oper) (V : Nat → Value) (Wd : Nat → World) (S : List Nat) (aF : Act) (i : Nat) (o : Oper) : Prop :=
 (i ∉ S ∧ ∀ m,m ≤ S.length → okM md ops S i m = true → (execOp aF.eval o).run P (Wd m) = .ok (.value (V i)) (Wd m)) ∨ (∃ k,S[k]? = some i ∧ (execOp aF.eval o).run P (Wd k) = .ok .skip (Wd (k + 1)))
theorem free_any {Q : Exit → Act → World → Prop} {aF : Act} (hF : freeRegB md ops S = true) (hS : freeStB md ops S = true) (hN : S.Nodup)
  (hW : ∀ i o,ops[i]? = some o → freeAt P md ops V Wd S aF i o) (hQ : Q .normal aF (Wd S.length)) :
  ∀ (f : Nat) (done : Array Bool) (a : Act) (w : World),FInv md ops V Wd S aF done a w → left done ops.size = f → wpAny P md ops Q f done a w := by
 unfold freeRegB at hF
 simp only [Bool.and_eq_true,List.all_eq_true,List.mem_range] at hF
 obtain ⟨⟨hsel,hgd⟩,hF⟩ := hF
 unfold freeStB at hS
 simp only [Bool.and_eq_true,List.all_eq_true,List.mem_range,decide_eq_true_eq,Bool.or_eq_true] at hS
 have hlow : ∀ i j,waitsB md ops i j = true → j < i := fun i j h => by
  unfold waitsB at h
  cases ho : ops[i]? with
  | none => rw [ho] at h;cases h
  | some o =>
   obtain ⟨e,he,h1,h2⟩ := (waits_iff ho).1 (by unfold waitsB;exact h)
   have hi := hF i (Array.getElem?_eq_some_iff.1 ho).1
   rw [ho] at hi
   simp only [Bool.and_eq_true] at hi
   have h3 := Array.all_eq_true_iff_forall_mem.1 hi.1 e he
   simp only [Bool.or_eq_true,Bool.not_eq_true',decide_eq_true_eq] at h3
   rcases h3 with h3 | h3
   ·rw [h1] at h3;cases h3
   ·omega
 have hready : ∀ done : Array Bool,done.size = ops.size → ∀ i,i ∈ Region.ready md ops done ↔ (i < ops.size ∧ done.getD i false = false ∧ ∀ j,waitsB md ops i j = true → done.getD j false = true) := fun done hsz i => by
  rw [mem_ready]
  constructor
  ·rintro ⟨h1,o,ho,h2⟩
   have hi := (Array.getElem?_eq_some_iff.1 ho).1
   refine ⟨hi,by rw [← getD_two (by omega)];exact h1,fun j hj => ?_⟩
   obtain ⟨e,he,h3,rfl⟩ := (waits_iff ho).1 hj
   exact h2 e he h3
  ·rintro ⟨hi,h1,h2⟩
   refine ⟨by rw [getD_two (by omega)];exact h1,ops[i],Array.getElem?_eq_getElem hi,fun e he hb => h2 _ ((waits_iff (Array.getElem?_eq_getElem hi)).2 ⟨e,he,hb,rfl⟩)⟩
 have hend : ∀ (done : Array Bool) (a : Act) (w : World),FInv md ops V Wd S aF done a w → Region.ready md ops done = [] → Q .normal a w := fun done a w inv hr => by
  have hall : ∀ i,i < ops.size → done.getD i false = true := fun i => by
   induction i using Nat.strongRecOn with
   | _ i ih =>
    intro hi
    cases h : done.getD i false with
    | true => rfl
    | false =>
     have : i ∈ Region.ready md ops done := (hready done inv.size i).2 ⟨hi,h,fun j hj => ih j (hlow i j hj) (by have := hlow i j hj;omega)⟩
     rw [hr] at this
     cases this
  have hp : ∀ L : List Nat,(∀ i ∈ L,i < ops.size) → ∀ b,pend ops V done L b = b := fun L => by
   induction L with
   | nil => intro _ _;rfl
   | cons i r ih =>
    intro h b
    unfold pend
    have h1 : done.getD i true = true := by rw [getD_two (by rw [inv.size];exact h i (by simp))];exact hall i (h i (by simp))
    rw [if_neg (by rw [h1];simp)]
    exact ih (fun j hj => h j (by simp [hj])) b
  have ha := inv.act
  rw [hp _ (fun i hi => List.mem_range.1 hi)] at ha
  obtain ⟨m,hm,rfl,hd⟩ := inv.world
  have hmS : m = S.length := by
   rcases Nat.lt_or_ge m S.length with h | h
   ·have h1 := hd m h
    rw [hall _ (hS m h).1.1] at h1
    exact absurd (of_decide_eq_true h1.symm) (Nat.lt_irrefl _)
   ·omega
  rw [ha,hmS]
  exact hQ
 intro f
 induction f with
 | zero =>
  intro done a w inv hl
  have hr : Region.ready md ops done = [] := by
   rw [List.eq_nil_iff_forall_not_mem]
   intro i hi
   obtain ⟨h1,h2,-⟩ := (hready done inv.size i).1 hi
   have h3 : i ∈ (List.range ops.size).filter fun i => !done.getD i true := List.mem_filter.2 ⟨List.mem_range.2 h1,by rw [getD_two (by rw [inv.size];exact h1),h2];rfl⟩
   unfold left at hl
   rw [List.length_eq_zero_iff] at hl
   rw [hl] at h3
   cases h3
  exact ⟨hr,hend done a w inv hr⟩
 | succ f ih =>
  intro done a w inv hl
  refine ⟨hend done a w inv,fun i hi => ?_⟩
  obtain ⟨hilt,hiu,hiw⟩ := (hready done inv.size i).1 hi
  have hit : done.getD i true = false := by rw [getD_two (by rw [inv.size];exact hilt)];exact hiu
  have ho := Array.getElem?_eq_getElem hilt
  generalize hoo : ops[i] = o at ho
  unfold wpOp
  rw [ho]
  dsimp only
  have hg := Array.all_eq_true_iff_forall_mem.1 hgd o (by rw [← hoo];exact Array.getElem_mem hilt)
  have hw : Region.wanted o (yielded ops a.tmps) = true := by
   unfold Region.wanted
   rw [Option.isNone_iff_eq_none.1 hg]
  rw [if_pos hw]
  refine .inl ?_
  have hFi := hF i hilt
  rw [ho] at hFi
  simp only [Bool.and_eq_true] at hFi
  have hSel := Region.noSelect_spec hsel
  have hex : execOp aF.eval o = execOp a.eval o := by
   rw [← inv.act]
   refine exec_pend (ops := ops) (fun cs b => hSel i o cs b ho) _ _ fun j hj hju d hd hmem => ?_
   have hjl := List.mem_range.1 hj
   have h1 := List.all_eq_true.1 hFi.2 j (List.mem_range.2 hjl)
   rw [Array.getElem?_eq_getElem hjl] at h1
   unfold dstOf at hd
   rw [Array.getElem?_eq_getElem hjl] at hd
   simp only [Option.bind_some] at hd
   dsimp only at h1
   rw [hd] at h1
   simp only [Bool.and_eq_true,Bool.or_eq_true,Bool.not_eq_true',List.contains_eq_mem,decide_eq_false_iff_not] at h1
   rcases h1.1 with h2 | h2
   ·exact h2 hmem
   ·have h3 := hiw j h2
    rw [getD_two (by rw [inv.size];exact hjl),h3] at hju
    cases hju
  have hdist : ∀ j,j ≠ i → ∀ d,dstOf ops i = some d → dstOf ops j ≠ some d := fun j hji d hd hdj => by
   unfold dstOf at hdj
   cases hjo : ops[j]? with
   | none => rw [hjo] at hdj;cases hdj
   | some p =>
    have hjl := (Array.getElem?_eq_some_iff.1 hjo).1
    rw [hjo] at hdj
    simp only [Option.bind_some] at hdj
    have h1 := List.all_eq_true.1 hFi.2 j (List.mem_range.2 hjl)
    rw [hjo] at h1
    dsimp only at h1
    rw [hdj] at h1
    unfold dstOf at hd
    rw [ho] at hd
    simp only [Option.bind_some] at hd
    simp only [Bool.and_eq_true,Bool.or_eq_true,Bool.not_eq_true',decide_eq_true_eq,beq_eq_false_iff_ne] at h1
    rcases h1.2 with h2 | h2
    ·exact hji h2.symm
    ·exact h2 hd
  have hnext : ∀ u w',(∃ m,m ≤ S.length ∧ w' = Wd m ∧ ∀ k,k < S.length → (done.setIfInBounds i true).getD (S.getD k 0) false = decide (k < m)) → (dstOf ops i = none ∨ u = V i) → wpAny P md ops Q f (done.setIfInBounds i true) (a.put o.dst u) w' := fun u w' hw' hu => by
   refine ih _ _ _ ⟨by rw [Array.size_setIfInBounds];exact inv.size,?_,fun j hj k hk => ?_,hw'⟩ ?_
   ·have hdo : o.dst = dstOf ops i := by unfold dstOf;rw [ho];rfl
    have h2 := pend_step (V := V) hit (by rw [inv.size];exact hilt) hdist (List.range ops.size) a List.nodup_range (List.mem_range.2 hilt)
    rw [hdo]
    rcases hu with hu | hu
    ·rw [hu] at h2 ⊢
     exact h2.trans inv.act
    ·rw [hu]
     exact h2.trans inv.act
   ·by_cases e : i = j
    ·subst e
     exact getD_set_true (hiw k hk)
    ·rw [getD_set_ne false e] at hj
     exact getD_set_true (inv.closed j hj k hk)
   ·unfold left at hl ⊢
    have := left_set hit (by rw [inv.size];exact hilt) (List.range ops.size) List.nodup_range (List.mem_range.2 hilt)
    omega
  obtain ⟨m,hm,rfl,hd⟩ := inv.world
  unfold Oper.wp
  rcases hW i o ho with ⟨hns,h1⟩ | ⟨k,hk,h1⟩
  ·have hrun := h1 m hm (by
    unfold okM
    rw [List.all_eq_true]
    intro k hk
    have hkl := List.mem_range.1 hk
    simp only [Bool.and_eq_true,Bool.or_eq_true,Bool.not_eq_true',decide_eq_true_eq]
    constructor
    ·cases hwt : waitsB md ops i (S.getD k 0) with
     | false => exact .inl rfl
     | true =>
      have h2 := hd k hkl
      rw [hiw _ hwt] at h2
      exact .inr (of_decide_eq_true h2.symm)
    ·cases hwt : waitsB md ops (S.getD k 0) i with
     | false => exact .inl rfl
     | true =>
      refine .inr (Nat.le_of_not_lt fun hlt => ?_)
      have h2 := hd k hkl
      rw [decide_eq_true hlt] at h2
      have h3 := inv.closed _ h2 i hwt
      rw [hiu] at h3
      cases h3)
   rw [← hex,hrun]
   exact hnext _ _ ⟨m,hm,rfl,fun k hk => by
    have hne : i ≠ S.getD k 0 := fun e => hns (by rw [e,List.getD_eq_getElem?_getD,List.getElem?_eq_getElem hk];exact List.getElem_mem hk)
    rw [getD_set_ne false hne]
    exact hd k hk⟩ (.inr rfl)
  ·have hkl := (List.getElem?_eq_some_iff.1 hk).1
   have hki : S.getD k 0 = i := by rw [List.getD_eq_getElem?_getD,hk];rfl
   have hmk : m = k := by
    have h2 := hd k hkl
    rw [hki,hiu] at h2
    have h3 := of_decide_eq_false h2.symm
    rcases Nat.eq_zero_or_pos k with h0 | h0
    ·omega
    ·rcases (hS k hkl).1.2 with h4 | h4
     ·omega
     ·rw [hki] at h4
      have h5 := hd (k - 1) (by omega)
      rw [hiw _ h4] at h5
      have := of_decide_eq_true h5.symm
      omega
   subst hmk
   have hdn : dstOf ops i = none := by
    have h4 := (hS m hkl).2
    rw [hki,ho] at h4
    unfold dstOf
    rw [ho]
    exact Option.isNone_iff_eq_none.1 h4
   rw [← hex,h1]
   exact hnext _ _ ⟨m + 1,hkl,rfl,fun k2 hk2 => by
    by_cases e : i = S.getD k2 0
    ·have hkk : k2 = m := by
      have e1 : S[k2] = S[m] := by
       rw [List.getD_eq_getElem?_getD,List.getElem?_eq_getElem hk2] at e
       rw [List.getD_eq_getElem?_getD,List.getElem?_eq_getElem hkl] at hki
       exact (e.symm.trans hki.symm)
      exact (List.getElem_inj hN).1 e1
     subst hkk
     rw [← e]
     have h9 : i < done.size := by rw [inv.size];exact hilt
     simp [Array.getD,h9]
    ·rw [getD_set_ne false e,hd k2 hk2]
     have hne : k2 ≠ m := fun e2 => e (by rw [e2];exact hki.symm)
     rw [decide_eq_decide]
     omega⟩ (.inl hdn)
theorem wp_region_free {id : Nat} {Q : Exit → Act → World → Prop} {a : Act} {w : World} {l : List Oper} (V : Nat → Value) (Wd : Nat → World) (S : List Nat) (hm : P.follows .mixedOrders = true)
  (hF : freeRegB .any l.toArray S = true) (hS : freeStB .any l.toArray S = true) (hN : S.Nodup) (h0 : Wd 0 = w.drew)
  (h : ∀ aF,pend l.toArray V (Array.replicate l.toArray.size false) (List.range l.toArray.size) a = aF → (∀ i o,l.toArray[i]? = some o → freeAt P .any l.toArray V Wd S aF i o) ∧ Q .normal aF (Wd S.length)) : (Code.region id l.toArray true).wp P Q a w := by
 refine wp_region_any hm ?_
 obtain ⟨h1,h2⟩ := h _ rfl
 refine free_any (V := V) (Wd := Wd) (S := S) hF hS hN h1 h2 _ _ _ _ ⟨by simp,rfl,fun j hj => ?_,0,Nat.zero_le _,h0.symm,fun k hk => ?_⟩ ?_
 ·rw [getD_replicate_false] at hj
  cases hj
 ·rw [getD_replicate_false]
  simp
 ·unfold left
  rw [List.filter_eq_self.2 (fun i hi => by rw [getD_in (by simpa using List.mem_range.1 hi) (getD_replicate_false _ _)];rfl),List.length_range]
def putAll : List Oper → List Value → Act → Act
 | o :: r,v :: vs,a => putAll r vs (a.put o.dst v)
 | _,_,a => a
def freeOne (P : Program) (ops : Array Oper) (Wd : Nat → World) (S : List Nat) (aF : Act) (i : Nat) (o : Oper) (v : Value) : Prop :=
 (i ∉ S ∧ ∀ m,m ≤ S.length → okM .any ops S i m = true → (execOp aF.eval o).run P (Wd m) = .ok (.value v) (Wd m)) ∨ (∃ k,S[k]? = some i ∧ (execOp aF.eval o).run P (Wd k) = .ok .skip (Wd (k + 1)))
def freeAll (P : Program) (ops : Array Oper) (Wd : Nat → World) (S : List Nat) (aF : Act) : Nat → List Oper → List Value → Prop
 | i,o :: r,v :: vs => freeOne P ops Wd S aF i o v ∧ freeAll P ops Wd S aF (i + 1) r vs
 | _,_,_ => True
theorem pend_all {l : List Oper} {Vs : List Value} : ∀ (r : List Oper) (vs : List Value) (k : Nat) (a : Act),r.length = vs.length → (∀ j,r[j]? = l[k + j]?) → (∀ j,vs[j]? = Vs[k + j]?) → k + r.length = l.length →
  pend l.toArray (fun i => Vs.getD i undef) (Array.replicate l.toArray.size false) (List.range' k r.length) a = putAll r vs a
 | [],[],_,_,_,_,_,_ => rfl
 | [],_ :: _,_,_,h,_,_,_ => by cases h
 | _ :: _,[],_,_,h,_,_,_ => by cases h
 | o :: r,v :: vs,k,a,h,h1,h2,h3 => by
  have ho : l[k]? = some o := by simpa using (h1 0).symm
  have hv : Vs[k]? = some v := by simpa using (h2 0).symm
  have hkl : k < l.length := (List.getElem?_eq_some_iff.1 ho).1
  rw [List.length_cons,List.range'_succ]
  unfold pend putAll
  rw [if_pos (getD_in (by simpa using hkl) (getD_replicate_false _ _))]
  have hd : dstOf l.toArray k = o.dst := by unfold dstOf;rw [List.getElem?_toArray,ho];rfl
  have hV : Vs.getD k undef = v := by rw [List.getD_eq_getElem?_getD,hv];rfl
  rw [hd,hV]
  refine pend_all r vs (k + 1) _ (by simpa using h) (fun j => ?_) (fun j => ?_) (by rw [List.length_cons] at h3;omega)
  ·have := h1 (j + 1)
   rw [List.getElem?_cons_succ] at this
   rw [this,show k + (j + 1) = k + 1 + j by omega]
  ·have := h2 (j + 1)
   rw [List.getElem?_cons_succ] at this
   rw [this,show k + (j + 1) = k + 1 + j by omega]
theorem free_all {P : Program} {l : List Oper} {Vs : List Value} {Wd : Nat → World} {S : List Nat} {aF : Act} : ∀ (r : List Oper) (vs : List Value) (k : Nat),r.length = vs.length → (∀ j,r[j]? = l[k + j]?) → (∀ j,vs[j]? = Vs[k + j]?) → freeAll P l.toArray Wd S aF k r vs →
  ∀ j o,r[j]? = some o → freeAt P .any l.toArray (fun i => Vs.getD i undef) Wd S aF (k + j) o
 | [],_,_,_,_,_,_,_,_,h => by simp at h
 | _ :: _,[],_,h,_,_,_,_,_,_ => by cases h
 | o :: r,v :: vs,k,h,h1,h2,hF,j,o',ho' => by
  unfold freeAll at hF
  cases j with
  | zero =>
   obtain rfl : o = o' := by simpa using ho'
   have hv : Vs[k]? = some v := by simpa using (h2 0).symm
   have hV : Vs.getD k undef = v := by rw [List.getD_eq_getElem?_getD,hv];rfl
   have h4 := hF.1
   unfold freeOne at h4
   unfold freeAt
   rw [Nat.add_zero]
   dsimp only
   rw [hV]
   exact h4
  | succ j =>
   rw [List.getElem?_cons_succ] at ho'
   rw [show k + (j + 1) = k + 1 + j by omega]
   refine free_all r vs (k + 1) (by simpa using h) (fun j => ?_) (fun j => ?_) hF.2 j o' ho'
   ·have := h1 (j + 1)
    rw [List.getElem?_cons_succ] at this
    rw [this,show k + (j + 1) = k + 1 + j by omega]
   ·have := h2 (j + 1)
    rw [List.getElem?_cons_succ] at this
    rw [this,show k + (j + 1) = k + 1 + j by omega]
theorem wp_region_freeL {P : Program} {id : Nat} {Q : Exit → Act → World → Prop} {a : Act} {w : World} {l : List Oper} (Vs : List Value) (Wd : Nat → World) (S : List Nat) (hm : P.follows .mixedOrders = true)
  (hF : freeRegB .any l.toArray S = true) (hS : freeStB .any l.toArray S = true) (hN : S.Nodup) (hl : l.length = Vs.length) (h0 : Wd 0 = w.drew)
  (h1 : freeAll P l.toArray Wd S (putAll l Vs a) 0 l Vs) (h2 : Q .normal (putAll l Vs a) (Wd S.length)) : (Code.region id l.toArray true).wp P Q a w := by
 refine wp_region_free (fun i => Vs.getD i undef) Wd S hm hF hS hN h0 ?_
 rintro aF rfl
 have e : pend l.toArray (fun i => Vs.getD i undef) (Array.replicate l.toArray.size false) (List.range l.toArray.size) a = putAll l Vs a := by
  rw [List.size_toArray,List.range_eq_range']
  exact pend_all l Vs 0 a hl (fun j => by rw [Nat.zero_add]) (fun j => by rw [Nat.zero_add]) (by omega)
 rw [e]
 refine ⟨fun i o ho => ?_,h2⟩
 rw [List.getElem?_toArray] at ho
 have := free_all (P := P) l Vs 0 hl (fun j => by rw [Nat.zero_add]) (fun j => by rw [Nat.zero_add]) h1 i o ho
 rwa [Nat.zero_add] at this
end
end Go.Proofs.YtbhmkcjddpniiaaGreatDoor

namespace Go.Proofs.YtbhmkcjddpniiaaGreatDoor
open Go.RowKit Go.Shelf
def mxTo (f : ItemT → Int) (l : List ItemT) (k : Nat) : Int := (l.take k).foldl (fun a x => max a (f x)) 0
def mxN (f : ItemT → Int) (l : List ItemT) : Int := mxTo f l l.length
theorem mxTo_succ (f : ItemT → Int) (l : List ItemT) (k : Nat) (hk : k < l.length) : mxTo f l (k + 1) = max (mxTo f l k) (f l[k]) := by
 unfold mxTo
 rw [take_snoc l k hk,List.foldl_append]
 rfl
theorem mxTo_bd {f : ItemT → Int} {l : List ItemT} (h : ∀ x ∈ l,0 ≤ f x ∧ f x ≤ 1048576) : ∀ k,k ≤ l.length → 0 ≤ mxTo f l k ∧ mxTo f l k ≤ 1048576
 | 0,_ => by simp [mxTo]
 | k + 1,hk => by
  have h1 := mxTo_bd h k (by omega)
  have h2 := h _ (List.getElem_mem (show k < l.length by omega))
  rw [mxTo_succ f l k (by omega)]
  omega
def trimB (s : SetT) (trim : Int) : Bool := decide (trim < s.low) || decide (s.high < trim)
abbrev spanV (a b : Int) : Value := .agg #[.int .i64 a,.int .i64 b]
def extV (s : SetT) (trim : Int) : Value :=
 if setB s then (if trimB s trim then .tuple #[spanV 0 0,spanV 0 0,.int .i64 2] else .tuple #[spanV (trim - mxN ItemT.hang s.items) trim,spanV (s.depth - mxN ItemT.back s.items) (s.depth + mxN ItemT.front s.items),.int .i64 0]) else .tuple #[spanV 0 0,spanV 0 0,.int .i64 1]
theorem ext_no {s : SetT} {trim : Int} (h : setB s = false) : extV s trim = .tuple #[spanV 0 0,spanV 0 0,.int .i64 1] := by unfold extV;rw [h];rfl
theorem ext_out {s : SetT} {trim : Int} (h : setB s = true) (h2 : trimB s trim = true) : extV s trim = .tuple #[spanV 0 0,spanV 0 0,.int .i64 2] := by unfold extV;rw [h,h2];rfl
theorem ext_in {s : SetT} {trim : Int} (h : setB s = true) (h2 : trimB s trim = false) : extV s trim = .tuple #[spanV (trim - mxN ItemT.hang s.items) trim,spanV (s.depth - mxN ItemT.back s.items) (s.depth + mxN ItemT.front s.items),.int .i64 0] := by unfold extV;rw [h,h2];rfl
theorem alone_all {x : ItemT} (h : alone1 x = true) : (0 ≤ x.hang ∧ x.hang ≤ 1048576) ∧ (0 ≤ x.front ∧ x.front ≤ 1048576) ∧ (0 ≤ x.back ∧ x.back ≤ 1048576) := by
 unfold alone1 at h
 simp only [Bool.and_eq_true] at h
 exact ⟨between_bd h.2.2.1,between_bd h.2.2.2.1,between_bd h.2.2.2.2⟩
structure ExSt (w W : World) (bx : Array Value) (l : List ItemT) (D k : Nat) : Prop where
 d0 : Blk W w.heap.size 26 bx
 d1 : Blk W (w.heap.size + 1) 91 #[.int .i64 0,.int .i64 0]
 d2 : Blk W (w.heap.size + 1 + 1) 91 #[.int .i64 0,.int .i64 0]
 d3 : Blk W D 47 #[.string ⟨#[]⟩,.int .i64 0,.int .i64 0,.int .i64 0,.int .i64 (mxTo ItemT.hang l k),.int .i64 (mxTo ItemT.front l k),.int .i64 (mxTo ItemT.back l k)]
 bel : Below w.heap.size w W
 far : w.heap.size + 1 + 1 < D
section
variable {w W W' : World} {bx : Array Value} {l : List ItemT} {D k : Nat}
theorem ExSt.below (h : ExSt w W bx l D k) (hb : Below W.heap.size W W') : ExSt w W' bx l D k :=
 ⟨h.d0.below hb h.d0.lt,h.d1.below hb h.d1.lt,h.d2.below hb h.d2.lt,h.d3.below hb h.d3.lt,h.bel.trans (hb.mono h.bel.size),h.far⟩
theorem ExSt.step (h : ExSt w W bx l D k) {a b c : Int} (ha : mxTo ItemT.hang l (k + 1) = a) (hb : mxTo ItemT.front l (k + 1) = b) (hc : mxTo ItemT.back l (k + 1) = c) :
  ExSt w (((W.setCell ⟨D,4,none⟩ (.int .i64 a)).setCell ⟨D,5,none⟩ (.int .i64 b)).setCell ⟨D,6,none⟩ (.int .i64 c)) bx l D (k + 1) := by
 have hf := h.far
 subst ha hb hc
 have k3 := fun {g : Nat} {t : TypeId} {c : Array Value} (hb : Blk W g t c) (hg : g ≠ D) (x0 x1 x2 : Value) => ((hb.far (p := ⟨D,4,none⟩) hg x0).far (p := ⟨D,5,none⟩) hg x1).far (p := ⟨D,6,none⟩) hg x2
 refine ⟨k3 h.d0 (by omega) _ _ _,k3 h.d1 (by omega) _ _ _,k3 h.d2 (by omega) _ _ _,((h.d3.set_ 4 _).set_ 5 _).set_ 6 _,((h.bel.setCell (by show w.heap.size ≤ D;omega) _).setCell (by show w.heap.size ≤ D;omega) _).setCell (by show w.heap.size ≤ D;omega) _,h.far⟩
end
theorem spans_stored {W : World} {B g : Nat} {o : World} (hB : Below B o W) (hg : B ≤ g) (b1 : Blk W g 91 #[.int .i64 0,.int .i64 0]) (b2 : Blk W (g + 1) 91 #[.int .i64 0,.int .i64 0]) (x0 x1 y0 y1 : Value) :
  Below B o ((((W.setCell ⟨g,0,none⟩ x0).setCell ⟨g,1,none⟩ x1).setCell ⟨g + 1,0,none⟩ y0).setCell ⟨g + 1,1,none⟩ y1) ∧
  ((((W.setCell ⟨g,0,none⟩ x0).setCell ⟨g,1,none⟩ x1).setCell ⟨g + 1,0,none⟩ y0).setCell ⟨g + 1,1,none⟩ y1).cell? ⟨g,0,none⟩ = some x0 ∧
  ((((W.setCell ⟨g,0,none⟩ x0).setCell ⟨g,1,none⟩ x1).setCell ⟨g + 1,0,none⟩ y0).setCell ⟨g + 1,1,none⟩ y1).cell? ⟨g,1,none⟩ = some x1 ∧
  ((((W.setCell ⟨g,0,none⟩ x0).setCell ⟨g,1,none⟩ x1).setCell ⟨g + 1,0,none⟩ y0).setCell ⟨g + 1,1,none⟩ y1).cell? ⟨g + 1,0,none⟩ = some y0 ∧
  ((((W.setCell ⟨g,0,none⟩ x0).setCell ⟨g,1,none⟩ x1).setCell ⟨g + 1,0,none⟩ y0).setCell ⟨g + 1,1,none⟩ y1).cell? ⟨g + 1,1,none⟩ = some y1 := by
 have h1 : Blk ((((W.setCell ⟨g,0,none⟩ x0).setCell ⟨g,1,none⟩ x1).setCell ⟨g + 1,0,none⟩ y0).setCell ⟨g + 1,1,none⟩ y1) g 91 #[x0,x1] := (((b1.set_ 0 x0).set_ 1 x1).far (p := ⟨g + 1,0,none⟩) (by show g ≠ g + 1;omega) y0).far (p := ⟨g + 1,1,none⟩) (by show g ≠ g + 1;omega) y1
 have h2 : Blk ((((W.setCell ⟨g,0,none⟩ x0).setCell ⟨g,1,none⟩ x1).setCell ⟨g + 1,0,none⟩ y0).setCell ⟨g + 1,1,none⟩ y1) (g + 1) 91 #[y0,y1] := (((b2.far (p := ⟨g,0,none⟩) (by show g + 1 ≠ g;omega) x0).far (p := ⟨g,1,none⟩) (by show g + 1 ≠ g;omega) x1).set_ 0 y0).set_ 1 y1
 exact ⟨(((hB.setCell (by show B ≤ g;omega) _).setCell (by show B ≤ g;omega) _).setCell (by show B ≤ g + 1;omega) _).setCell (by show B ≤ g + 1;omega) _,h1.cell 0,h1.cell 1,h2.cell 0,h2.cell 1⟩
set_option maxRecDepth 100000 in
set_option maxHeartbeats 4000000 in
theorem lsExtent (v : Value) (s : SetT) (trim : Int) (w : World) (hv : SetAt w w.heap.size v s) (hn : SetNames s) :
  Calls Tryz.prog 47 #[v,.int .i64 trim] w fun e w' => e = .returned (extV s trim) ∧ Below w.heap.size w w' := by
 have HVa := fun W (hb : Below w.heap.size w W) => batValid v s W ((hv.below hb (Nat.le_refl _)).mono hb.size) hn
 obtain ⟨Al,cl,Ai,ci,Ab,cb,rfl,-,hI,-⟩ := hv
 obtain ⟨_,_,e,hi1,hi2,hic⟩ := hI.open_
 injection e with e1 _ e2
 subst e1 e2
 have HI := Lib.hid hic
 unfold maxLen at hi2
 clear hI hic hn
 unfold setVal at *
 go_enter Tryz.func47,Tryz.ntmps47
 go_wp2_with (exact Go.WalkKit.wp_stop)
 obtain ⟨B1,B2,B3,HbW⟩ := three_boxes w 26 91 91 #[.string s.name,.int .i64 s.depth,.int .i64 s.low,.int .i64 s.high,.int .i64 s.len,.slice Al s.lines.length cl,.int .i64 s.pipe,.int .i64 s.arbor,.int .i64 s.purch,.int .i64 s.most,.int .i64 s.brake,.slice Ai s.items.length ci,.slice Ab s.bricks.length cb] #[.int .i64 0,.int .i64 0] #[.int .i64 0,.int .i64 0]
 have hs3 : (((w.alloc (.cells #[.string s.name,.int .i64 s.depth,.int .i64 s.low,.int .i64 s.high,.int .i64 s.len,.slice Al s.lines.length cl,.int .i64 s.pipe,.int .i64 s.arbor,.int .i64 s.purch,.int .i64 s.most,.int .i64 s.brake,.slice Ai s.items.length ci,.slice Ab s.bricks.length cb] 26)).alloc (.cells #[.int .i64 0,.int .i64 0] 91)).alloc (.cells #[.int .i64 0,.int .i64 0] 91)).heap.size = w.heap.size + 1 + 1 + 1 := by simp
 generalize ((w.alloc (.cells #[.string s.name,.int .i64 s.depth,.int .i64 s.low,.int .i64 s.high,.int .i64 s.len,.slice Al s.lines.length cl,.int .i64 s.pipe,.int .i64 s.arbor,.int .i64 s.purch,.int .i64 s.most,.int .i64 s.brake,.slice Ai s.items.length ci,.slice Ab s.bricks.length cb] 26)).alloc (.cells #[.int .i64 0,.int .i64 0] 91)).alloc (.cells #[.int .i64 0,.int .i64 0] 91) = W3 at *
 have hva := HVa W3 HbW
 have hA : Hid (∀ w2,Below W3.heap.size W3 w2 → Blk w2 w.heap.size 26 #[.string s.name,.int .i64 s.depth,.int .i64 s.low,.int .i64 s.high,.int .i64 s.len,.slice Al s.lines.length cl,.int .i64 s.pipe,.int .i64 s.arbor,.int .i64 s.purch,.int .i64 s.most,.int .i64 s.brake,.slice Ai s.items.length ci,.slice Ab s.bricks.length cb] ∧ Blk w2 (w.heap.size + 1) 91 #[.int .i64 0,.int .i64 0] ∧ Blk w2 (w.heap.size + 1 + 1) 91 #[.int .i64 0,.int .i64 0] ∧ Below w.heap.size w w2 ∧ w.heap.size + 1 + 1 < w2.heap.size) := fun w2 hb => ⟨B1.below hb B1.lt,B2.below hb B2.lt,B3.below hb B3.lt,HbW.trans (hb.mono HbW.size),by have := hb.size;omega⟩
 have z0 := B1.cell 0
 have z1 := B1.cell 1
 have z2 := B1.cell 2
 have z3 := B1.cell 3
 have z4 := B1.cell 4
 have z5 := B1.cell 5
 have z6 := B1.cell 6
 have z7 := B1.cell 7
 have z8 := B1.cell 8
 have z9 := B1.cell 9
 have z10 := B1.cell 10
 have z11 := B1.cell 11
 have z12 := B1.cell 12
 simp only [List.getElem?_toArray,List.getElem?_cons_succ,List.getElem?_cons_zero] at z0 z1 z2 z3 z4 z5 z6 z7 z8 z9 z10 z11 z12
 clear HVa hs3 B1 B2 B3 HbW
 rcases Bool.eq_false_or_eq_true (setB s) with hok | hok
 rotate_left
 ·rw [hok] at hva
  have HV := Lib.hid (ext_no (trim := trim) hok)
  clear hok z0 z1 z2 z3 z4 z5 z6 z7 z8 z9 z10 z11 z12
  refine hva.mono ?_
  rintro e w2 ⟨rfl,hb2⟩
  obtain ⟨b1,b2,b3,hbx,-⟩ := hA.out w2 hb2
  have y0 := b2.cell 0
  have y1 := b2.cell 1
  have y2 := b3.cell 0
  have y3 := b3.cell 1
  have f0 := b2.frozen 0
  have f1 := b2.frozen 1
  have f2 := b3.frozen 0
  have f3 := b3.frozen 1
  simp only [List.getElem?_toArray,List.getElem?_cons_succ,List.getElem?_cons_zero] at y0 y1 y2 y3
  obtain ⟨hB,p0,p1,p2,p3⟩ := spans_stored hbx (by omega) b2 b3 (.int .i64 0) (.int .i64 0) (.int .i64 0) (.int .i64 0)
  have HB := Lib.hid hB
  clear hB
  clear b1 b2 b3 hbx hva
  go_wp2_with fail
  refine bodyPost_ret (v := .tuple #[spanV 0 0,spanV 0 0,.int .i64 1]) (by simp [results,Tryz.results47,go_sem,p0,p1,p2,p3]) rfl ?_
  exact ⟨by rw [HV.out],HB.out⟩
 have hk := setB_ok hok
 rcases Bool.eq_false_or_eq_true (trimB s trim) with ht | ht
 ·have HV := Lib.hid (ext_out hok ht)
  rw [hok] at hva
  have hcs : decide (trim < s.low) = true ∨ (decide (trim < s.low) = false ∧ decide (s.high < trim) = true) := by
   unfold trimB at ht
   cases h : decide (trim < s.low)
   ·rw [h,Bool.false_or] at ht
    exact .inr ⟨rfl,ht⟩
   ·exact .inl rfl
  clear hok ht hk
  rcases hcs with d1 | ⟨d1,d2⟩
  all_goals
   refine hva.mono ?_
   rintro e w2 ⟨rfl,hb2⟩
   obtain ⟨b1,b2,b3,hbx,-⟩ := hA.out w2 hb2
   have y0 := b2.cell 0
   have y1 := b2.cell 1
   have y2 := b3.cell 0
   have y3 := b3.cell 1
   have f0 := b2.frozen 0
   have f1 := b2.frozen 1
   have f2 := b3.frozen 0
   have f3 := b3.frozen 1
   have q2 := b1.cell 2
   have q3 := b1.cell 3
   simp only [List.getElem?_toArray,List.getElem?_cons_succ,List.getElem?_cons_zero] at y0 y1 y2 y3 q2 q3
   obtain ⟨hB,p0,p1,p2,p3⟩ := spans_stored hbx (by omega) b2 b3 (.int .i64 0) (.int .i64 0) (.int .i64 0) (.int .i64 0)
   have HB := Lib.hid hB
   clear hB b1 b2 b3 hbx hva z0 z1 z2 z3 z4 z5 z6 z7 z8 z9 z10 z11 z12
   go_wp2_with fail
   refine bodyPost_ret (v := .tuple #[spanV 0 0,spanV 0 0,.int .i64 2]) (by simp [results,Tryz.results47,go_sem,p0,p1,p2,p3]) rfl ?_
   exact ⟨by rw [HV.out],HB.out⟩
 ·have HV := Lib.hid (ext_in hok ht)
  rw [hok] at hva
  have hcs : decide (trim < s.low) = false ∧ decide (s.high < trim) = false := by
   unfold trimB at ht
   simpa only [Bool.or_eq_false_iff] using ht
  have htr : 0 ≤ trim ∧ trim ≤ 1048576 := by
   have h1 := of_decide_eq_false hcs.1
   have h2 := of_decide_eq_false hcs.2
   have h3 := hk.low
   omega
  have hdp := hk.depth
  have hal := fun x (hx : x ∈ s.items) => alone_all (hk.wts.2 x hx).1
  have HB1 := Lib.hid (mxTo_bd (f := ItemT.hang) (l := s.items) fun x hx => (hal x hx).1)
  have HB2 := Lib.hid (mxTo_bd (f := ItemT.front) (l := s.items) fun x hx => (hal x hx).2.1)
  have HB3 := Lib.hid (mxTo_bd (f := ItemT.back) (l := s.items) fun x hx => (hal x hx).2.2)
  have h40 := hk.wts.1
  obtain ⟨d1,d2⟩ := hcs
  clear hok ht hk hal
  refine hva.mono ?_
  rintro e w2 ⟨rfl,hb2⟩
  obtain ⟨b1,b2,b3,hbx,hfar⟩ := hA.out w2 hb2
  have q2 := b1.cell 2
  have q3 := b1.cell 3
  have q11 := fun o => (b1.alloc o).cell 11
  simp only [List.getElem?_toArray,List.getElem?_cons_succ,List.getElem?_cons_zero] at q2 q3 q11
  have hEx : ExSt w (w2.alloc (.cells #[.string ⟨#[]⟩,.int .i64 0,.int .i64 0,.int .i64 0,.int .i64 0,.int .i64 0,.int .i64 0] 47)) #[.string s.name,.int .i64 s.depth,.int .i64 s.low,.int .i64 s.high,.int .i64 s.len,.slice Al s.lines.length cl,.int .i64 s.pipe,.int .i64 s.arbor,.int .i64 s.purch,.int .i64 s.most,.int .i64 s.brake,.slice Ai s.items.length ci,.slice Ab s.bricks.length cb] s.items w2.heap.size 0 := ⟨b1.alloc _,b2.alloc _,b3.alloc _,Blk.new _ _ _,hbx.alloc hbx.size _,hfar⟩
  have HEx := Lib.hid hEx
  clear hEx b1 b2 b3 hbx hva hfar z0 z1 z2 z3 z4 z5 z6 z7 z8 z9 z10 z11 z12
  go_wp2_with (exact Go.WalkKit.wp_stop)
  generalize w2.alloc (.cells #[.string ⟨#[]⟩,.int .i64 0,.int .i64 0,.int .i64 0,.int .i64 0,.int .i64 0,.int .i64 0] 47) = w4 at *
  generalize w2.heap.size = D at *
  clear q2 q3 q11
  go_loopw [32] (fun ix wr => ∃ k : Nat,k ≤ s.items.length ∧ ix = .int .i64 k ∧ Hid (ExSt w wr #[.string s.name,.int .i64 s.depth,.int .i64 s.low,.int .i64 s.high,.int .i64 s.len,.slice Al s.lines.length cl,.int .i64 s.pipe,.int .i64 s.arbor,.int .i64 s.purch,.int .i64 s.most,.int .i64 s.brake,.slice Ai s.items.length ci,.slice Ab s.bricks.length cb] s.items D k)) (fun ix _ => s.items.length - (intOf ix).toNat)
  case atStart => exact ⟨0,Nat.zero_le _,rfl,HEx⟩
  case round =>
   clear HEx
   obtain ⟨k,hk,rfl,HT⟩ := hrel
   have k0 : (0 : Int) ≤ (k : Int) := Int.natCast_nonneg _
   by_cases hkl : k < s.items.length
   ·have k1 : (k : Int) < (s.items.length : Int) := by omega
    obtain ⟨b1,off1,rfl,hb1,hc⟩ := HI.out k hkl
    have hbel := HT.out.bel
    have y0 := (hbel.cell (p := ⟨b1,off1 + k * 7,none⟩) hb1).trans (hc k hkl).1
    have y1 := (hbel.cell (p := ⟨b1,off1 + k * 7 + 1,none⟩) hb1).trans (hc k hkl).2.1
    have y2 := (hbel.cell (p := ⟨b1,off1 + k * 7 + 2,none⟩) hb1).trans (hc k hkl).2.2.1
    have y3 := (hbel.cell (p := ⟨b1,off1 + k * 7 + 3,none⟩) hb1).trans (hc k hkl).2.2.2.1
    have y4 := (hbel.cell (p := ⟨b1,off1 + k * 7 + 4,none⟩) hb1).trans (hc k hkl).2.2.2.2.1
    have y5 := (hbel.cell (p := ⟨b1,off1 + k * 7 + 5,none⟩) hb1).trans (hc k hkl).2.2.2.2.2.1
    have y6 := (hbel.cell (p := ⟨b1,off1 + k * 7 + 6,none⟩) hb1).trans (hc k hkl).2.2.2.2.2.2
    have HM1 := Lib.hid (mxTo_succ ItemT.hang s.items k hkl)
    have HM2 := Lib.hid (mxTo_succ ItemT.front s.items k hkl)
    have HM3 := Lib.hid (mxTo_succ ItemT.back s.items k hkl)
    clear hc hbel
    generalize s.items[k] = x at *
    obtain ⟨nm,pos,width,wt,hang,front,back⟩ := x
    simp only at y0 y1 y2 y3 y4 y5 y6 HM1 HM2 HM3
    go_wp2_with (exact Go.WalkKit.wp_stop)
    have hDi := Blk.new wr 47 #[.string nm,.int .i64 pos,.int .i64 width,.int .i64 wt,.int .i64 hang,.int .i64 front,.int .i64 back]
    have hT5 := HT.out.below ((Below.refl _ wr).alloc (Nat.le_refl _) (.cells #[.string nm,.int .i64 pos,.int .i64 width,.int .i64 wt,.int .i64 hang,.int .i64 front,.int .i64 back] 47))
    have hne : wr.heap.size ≠ D := by
     have := HT.out.d3.lt
     omega
    clear HT y0 y1 y2 y3 y4 y5 y6
    generalize wr.alloc (.cells #[.string nm,.int .i64 pos,.int .i64 width,.int .i64 wt,.int .i64 hang,.int .i64 front,.int .i64 back] 47) = w5 at *
    generalize wr.heap.size = D5 at *
    have HT := Lib.hid hT5
    have i4 := hDi.cell 4
    have i5 := hDi.cell 5
    have i6 := hDi.cell 6
    have m4 := hT5.d3.cell 4
    have m5 := hT5.d3.cell 5
    have m6 := hT5.d3.cell 6
    have f4 := hT5.d3.frozen 4
    have f5 := hT5.d3.frozen 5
    have f6 := hT5.d3.frozen 6
    simp only [List.getElem?_toArray,List.getElem?_cons_succ,List.getElem?_cons_zero] at i4 i5 i6 m4 m5 m6
    have HDi := Lib.hid hDi
    have HDm := Lib.hid hT5.d3
    clear hDi hT5
    generalize mxTo ItemT.hang s.items k = a1 at *
    generalize mxTo ItemT.front s.items k = a2 at *
    generalize mxTo ItemT.back s.items k = a3 at *
    obtain ⟨c1,hc1⟩ : ∃ c1,(if a1 < hang then hang else a1) = c1 := ⟨_,rfl⟩
    obtain ⟨c2,hc2⟩ : ∃ c2,(if a2 < front then front else a2) = c2 := ⟨_,rfl⟩
    obtain ⟨c3,hc3⟩ : ∃ c3,(if a3 < back then back else a3) = c3 := ⟨_,rfl⟩
    obtain ⟨Wd,w0,w1,w2',w3⟩ : ∃ Wd : Nat → World,Wd 0 = w5.drew ∧ (Wd 0).setCell ⟨D,4,none⟩ (.int .i64 c1) = Wd 1 ∧ (Wd 1).setCell ⟨D,5,none⟩ (.int .i64 c2) = Wd 2 ∧ (Wd 2).setCell ⟨D,6,none⟩ (.int .i64 c3) = Wd 3 :=
     ⟨fun | 0 => w5.drew | 1 => w5.drew.setCell ⟨D,4,none⟩ (.int .i64 c1) | 2 => (w5.drew.setCell ⟨D,4,none⟩ (.int .i64 c1)).setCell ⟨D,5,none⟩ (.int .i64 c2) | _ => ((w5.drew.setCell ⟨D,4,none⟩ (.int .i64 c1)).setCell ⟨D,5,none⟩ (.int .i64 c2)).setCell ⟨D,6,none⟩ (.int .i64 c3),rfl,rfl,rfl,rfl⟩
    have k0 : Blk (Wd 0) D5 47 #[.string nm,.int .i64 pos,.int .i64 width,.int .i64 wt,.int .i64 hang,.int .i64 front,.int .i64 back] := by rw [w0];exact HDi.out
    have k1 := k0.far (p := ⟨D,4,none⟩) hne (.int .i64 c1)
    rw [w1] at k1
    have k2 := k1.far (p := ⟨D,5,none⟩) hne (.int .i64 c2)
    rw [w2'] at k2
    have k3 := k2.far (p := ⟨D,6,none⟩) hne (.int .i64 c3)
    rw [w3] at k3
    have e0 : Blk (Wd 0) D 47 #[.string ⟨#[]⟩,.int .i64 0,.int .i64 0,.int .i64 0,.int .i64 a1,.int .i64 a2,.int .i64 a3] := by rw [w0];exact HDm.out
    have e1 := e0.set_ 4 (.int .i64 c1)
    rw [w1] at e1
    have e2 := e1.set_ 5 (.int .i64 c2)
    rw [w2'] at e2
    have hK : ∀ m,m ≤ 3 → Blk (Wd m) D5 47 #[.string nm,.int .i64 pos,.int .i64 width,.int .i64 wt,.int .i64 hang,.int .i64 front,.int .i64 back] := fun m hm => by
     rcases (show m = 0 ∨ m = 1 ∨ m = 2 ∨ m = 3 by omega) with rfl | rfl | rfl | rfl
     ·exact k0
     ·exact k1
     ·exact k2
     ·exact k3
    have i4' : ∀ m,m ≤ 3 → (Wd m).cell? ⟨D5,4,none⟩ = some (.int .i64 hang) := fun m hm => (hK m hm).cell 4
    have i5' : ∀ m,m ≤ 3 → (Wd m).cell? ⟨D5,5,none⟩ = some (.int .i64 front) := fun m hm => (hK m hm).cell 5
    have i6' : ∀ m,m ≤ 3 → (Wd m).cell? ⟨D5,6,none⟩ = some (.int .i64 back) := fun m hm => (hK m hm).cell 6
    have m4' : (Wd 0).cell? ⟨D,4,none⟩ = some (.int .i64 a1) := e0.cell 4
    have m5' : (Wd 0).cell? ⟨D,5,none⟩ = some (.int .i64 a2) := e0.cell 5
    have m6' : (Wd 0).cell? ⟨D,6,none⟩ = some (.int .i64 a3) := e0.cell 6
    have n5' : (Wd 1).cell? ⟨D,5,none⟩ = some (.int .i64 a2) := e1.cell 5
    have n6' : (Wd 2).cell? ⟨D,6,none⟩ = some (.int .i64 a3) := e2.cell 6
    have f4' : (Wd 0).frozen? ⟨D,4,none⟩ = false := e0.frozen 4
    have f5' : (Wd 1).frozen? ⟨D,5,none⟩ = false := e1.frozen 5
    have f6' : (Wd 2).frozen? ⟨D,6,none⟩ = false := e2.frozen 6
    have HE : Hid (ExSt w (Wd 3) #[.string s.name,.int .i64 s.depth,.int .i64 s.low,.int .i64 s.high,.int .i64 s.len,.slice Al s.lines.length cl,.int .i64 s.pipe,.int .i64 s.arbor,.int .i64 s.purch,.int .i64 s.most,.int .i64 s.brake,.slice (some ⟨b1,off1,none⟩) s.items.length ci,.slice Ab s.bricks.length cb] s.items D (k + 1)) := by
     have h := (HT.out.below ((Below.refl _ w5).drew)).step (a := c1) (b := c2) (c := c3) (by rw [HM1.out,← hc1];split <;> omega) (by rw [HM2.out,← hc2];split <;> omega) (by rw [HM3.out,← hc3];split <;> omega)
     rw [← w0,w1,w2',w3] at h
     exact h
    have W0 := Lib.hid w0
    clear w0 k0 k1 k2 k3 e0 e1 e2 hK HT HDi HDm HM1 HM2 HM3 hne
    refine wp_region_freeL [.pointer (some ⟨D,4,none⟩),.int .i64 a1,.pointer (some ⟨D5,4,none⟩),.int .i64 hang,.int .i64 c1,.pointer (some ⟨D,5,none⟩),.int .i64 a2,.pointer (some ⟨D5,5,none⟩),.int .i64 front,.int .i64 c2,.pointer (some ⟨D,6,none⟩),.int .i64 a3,.pointer (some ⟨D5,6,none⟩),.int .i64 back,.int .i64 c3,.pointer (some ⟨D,4,none⟩),undef,.pointer (some ⟨D,5,none⟩),undef,.pointer (some ⟨D,6,none⟩),undef] Wd [16,18,20] (by kernel_rfl) (by kernel_rfl) (by kernel_rfl) (by decide) (by rfl) W0.out ?_ ?_
    ·simp only [putAll,Act.put,List.setIfInBounds_toArray,List.set_cons_zero,List.set_cons_succ]
     simp only [freeAll]
     refine ⟨?_,?_,?_,?_,?_,?_,?_,?_,?_,?_,?_,?_,?_,?_,?_,?_,?_,?_,?_,?_,?_,trivial⟩
     ·exact .inl ⟨by decide,fun m hm hok => by go_simp⟩
     ·exact .inl ⟨by decide,fun m hm hok => by
      have hm0 : m = 0 := by
       rcases m with _ | _ | _ | _ | m
       ·rfl
       ·exact absurd (Eq.trans (a := false) (by kernel_rfl) hok) Bool.false_ne_true
       ·exact absurd (Eq.trans (a := false) (by kernel_rfl) hok) Bool.false_ne_true
       ·exact absurd (Eq.trans (a := false) (by kernel_rfl) hok) Bool.false_ne_true
       ·exact absurd hm (by show ¬ m + 4 ≤ 3;omega)
      subst hm0
      go_simp⟩
     ·exact .inl ⟨by decide,fun m hm hok => by go_simp⟩
     ·exact .inl ⟨by decide,fun m hm hok => by have h := i4' m hm;go_simp⟩
     ·exact .inl ⟨by decide,fun m hm hok => by go_simp⟩
     ·exact .inl ⟨by decide,fun m hm hok => by go_simp⟩
     ·exact .inl ⟨by decide,fun m hm hok => by
      have hm0 : m = 0 := by
       rcases m with _ | _ | _ | _ | m
       ·rfl
       ·exact absurd (Eq.trans (a := false) (by kernel_rfl) hok) Bool.false_ne_true
       ·exact absurd (Eq.trans (a := false) (by kernel_rfl) hok) Bool.false_ne_true
       ·exact absurd (Eq.trans (a := false) (by kernel_rfl) hok) Bool.false_ne_true
       ·exact absurd hm (by show ¬ m + 4 ≤ 3;omega)
      subst hm0
      go_simp⟩
     ·exact .inl ⟨by decide,fun m hm hok => by go_simp⟩
     ·exact .inl ⟨by decide,fun m hm hok => by have h := i5' m hm;go_simp⟩
     ·exact .inl ⟨by decide,fun m hm hok => by go_simp⟩
     ·exact .inl ⟨by decide,fun m hm hok => by go_simp⟩
     ·exact .inl ⟨by decide,fun m hm hok => by
      have hm0 : m = 0 := by
       rcases m with _ | _ | _ | _ | m
       ·rfl
       ·exact absurd (Eq.trans (a := false) (by kernel_rfl) hok) Bool.false_ne_true
       ·exact absurd (Eq.trans (a := false) (by kernel_rfl) hok) Bool.false_ne_true
       ·exact absurd (Eq.trans (a := false) (by kernel_rfl) hok) Bool.false_ne_true
       ·exact absurd hm (by show ¬ m + 4 ≤ 3;omega)
      subst hm0
      go_simp⟩
     ·exact .inl ⟨by decide,fun m hm hok => by go_simp⟩
     ·exact .inl ⟨by decide,fun m hm hok => by have h := i6' m hm;go_simp⟩
     ·exact .inl ⟨by decide,fun m hm hok => by go_simp⟩
     ·exact .inl ⟨by decide,fun m hm hok => by go_simp⟩
     ·exact .inr ⟨0,rfl,by go_simp⟩
     ·exact .inl ⟨by decide,fun m hm hok => by go_simp⟩
     ·exact .inr ⟨1,rfl,by go_simp⟩
     ·exact .inl ⟨by decide,fun m hm hok => by go_simp⟩
     ·exact .inr ⟨2,rfl,by go_simp⟩
    ·simp only [putAll,Act.put,List.setIfInBounds_toArray,List.set_cons_zero,List.set_cons_succ]
     clear i4' i5' i6' m4' m5' m6' n5' n6' f4' f5' f6' w1 w2' w3 hc1 hc2 hc3
     go_wp2_with fail
     refine ⟨⟨k + 1,by omega,by go_num,HE⟩,?_⟩
     simp [intOf]
     omega
   ·obtain rfl : k = s.items.length := by omega
    have bd1 := HB1.out s.items.length (Nat.le_refl _)
    have bd2 := HB2.out s.items.length (Nat.le_refl _)
    have bd3 := HB3.out s.items.length (Nat.le_refl _)
    unfold mxN at HV
    have HD0 := Lib.hid HT.out.d0
    have HD1 := Lib.hid HT.out.d1
    have HD2 := Lib.hid HT.out.d2
    have HD3 := Lib.hid HT.out.d3
    have HBel := Lib.hid HT.out.bel
    have hfar := HT.out.far
    clear HT HB1 HB2 HB3
    generalize mxTo ItemT.hang s.items s.items.length = hg at *
    generalize mxTo ItemT.front s.items s.items.length = fr at *
    generalize mxTo ItemT.back s.items s.items.length = bk at *
    have v1 : IntKind.i64.wrap (trim - hg) = trim - hg := IntWalk.i64_in _ (by omega)
    have v2 : IntKind.i64.wrap (s.depth - bk) = s.depth - bk := IntWalk.i64_in _ (by omega)
    have v3 : IntKind.i64.wrap (s.depth + fr) = s.depth + fr := IntWalk.i64_in _ (by omega)
    have hne0 : w.heap.size ≠ w.heap.size + 1 := by omega
    have hne1 : w.heap.size ≠ w.heap.size + 1 + 1 := by omega
    have hne2 : D ≠ w.heap.size + 1 := by omega
    have hne3 : D ≠ w.heap.size + 1 + 1 := by omega
    go_wp2_with (exact Go.WalkKit.wp_stop)
    obtain ⟨Wd,w0,w1,w2'⟩ : ∃ Wd : Nat → World,Wd 0 = wr.drew ∧ ((Wd 0).setCell ⟨w.heap.size + 1,0,none⟩ (.int .i64 (trim - hg))).setCell ⟨w.heap.size + 1,1,none⟩ (.int .i64 trim) = Wd 1 ∧ ((Wd 1).setCell ⟨w.heap.size + 1 + 1,0,none⟩ (.int .i64 (s.depth - bk))).setCell ⟨w.heap.size + 1 + 1,1,none⟩ (.int .i64 (s.depth + fr)) = Wd 2 :=
     ⟨fun | 0 => wr.drew | 1 => (wr.drew.setCell ⟨w.heap.size + 1,0,none⟩ (.int .i64 (trim - hg))).setCell ⟨w.heap.size + 1,1,none⟩ (.int .i64 trim) | _ => (((wr.drew.setCell ⟨w.heap.size + 1,0,none⟩ (.int .i64 (trim - hg))).setCell ⟨w.heap.size + 1,1,none⟩ (.int .i64 trim)).setCell ⟨w.heap.size + 1 + 1,0,none⟩ (.int .i64 (s.depth - bk))).setCell ⟨w.heap.size + 1 + 1,1,none⟩ (.int .i64 (s.depth + fr)),rfl,rfl,rfl⟩
    have far2 := fun {W : World} {g : Nat} {t : TypeId} {c : Array Value} (h : Blk W g t c) (x : Nat) (hx : g ≠ x) (u0 u1 : Value) => (h.far (p := ⟨x,0,none⟩) hx u0).far (p := ⟨x,1,none⟩) hx u1
    have s0 : Blk (Wd 0) w.heap.size 26 #[.string s.name,.int .i64 s.depth,.int .i64 s.low,.int .i64 s.high,.int .i64 s.len,.slice Al s.lines.length cl,.int .i64 s.pipe,.int .i64 s.arbor,.int .i64 s.purch,.int .i64 s.most,.int .i64 s.brake,.slice Ai s.items.length ci,.slice Ab s.bricks.length cb] := by rw [w0];exact HD0.out
    have s1 := far2 s0 _ hne0 (.int .i64 (trim - hg)) (.int .i64 trim)
    rw [w1] at s1
    have s2 := far2 s1 _ hne1 (.int .i64 (s.depth - bk)) (.int .i64 (s.depth + fr))
    rw [w2'] at s2
    have d0 : Blk (Wd 0) D 47 #[.string ⟨#[]⟩,.int .i64 0,.int .i64 0,.int .i64 0,.int .i64 hg,.int .i64 fr,.int .i64 bk] := by rw [w0];exact HD3.out
    have d1' := far2 d0 _ hne2 (.int .i64 (trim - hg)) (.int .i64 trim)
    rw [w1] at d1'
    have d2' := far2 d1' _ hne3 (.int .i64 (s.depth - bk)) (.int .i64 (s.depth + fr))
    rw [w2'] at d2'
    have a0 : Blk (Wd 0) (w.heap.size + 1) 91 #[.int .i64 0,.int .i64 0] := by rw [w0];exact HD1.out
    have a0' := a0.set_ 0 (.int .i64 (trim - hg))
    have b0 : Blk (Wd 0) (w.heap.size + 1 + 1) 91 #[.int .i64 0,.int .i64 0] := by rw [w0];exact HD2.out
    have b1' := far2 b0 (w.heap.size + 1) (by omega) (.int .i64 (trim - hg)) (.int .i64 trim)
    rw [w1] at b1'
    have b1'' := b1'.set_ 0 (.int .i64 (s.depth - bk))
    have hK : ∀ m,m ≤ 2 → Blk (Wd m) D 47 #[.string ⟨#[]⟩,.int .i64 0,.int .i64 0,.int .i64 0,.int .i64 hg,.int .i64 fr,.int .i64 bk] ∧ Blk (Wd m) w.heap.size 26 #[.string s.name,.int .i64 s.depth,.int .i64 s.low,.int .i64 s.high,.int .i64 s.len,.slice Al s.lines.length cl,.int .i64 s.pipe,.int .i64 s.arbor,.int .i64 s.purch,.int .i64 s.most,.int .i64 s.brake,.slice Ai s.items.length ci,.slice Ab s.bricks.length cb] := fun m hm => by
     rcases (show m = 0 ∨ m = 1 ∨ m = 2 by omega) with rfl | rfl | rfl
     ·exact ⟨d0,s0⟩
     ·exact ⟨d1',s1⟩
     ·exact ⟨d2',s2⟩
    have g4 : ∀ m,m ≤ 2 → (Wd m).cell? ⟨D,4,none⟩ = some (.int .i64 hg) := fun m hm => (hK m hm).1.cell 4
    have g5 : ∀ m,m ≤ 2 → (Wd m).cell? ⟨D,5,none⟩ = some (.int .i64 fr) := fun m hm => (hK m hm).1.cell 5
    have g6 : ∀ m,m ≤ 2 → (Wd m).cell? ⟨D,6,none⟩ = some (.int .i64 bk) := fun m hm => (hK m hm).1.cell 6
    have q1 : ∀ m,m ≤ 2 → (Wd m).cell? ⟨w.heap.size,1,none⟩ = some (.int .i64 s.depth) := fun m hm => (hK m hm).2.cell 1
    have ca0 : (Wd 0).cell? ⟨w.heap.size + 1,0,none⟩ = some (.int .i64 0) := a0.cell 0
    have fa0 : (Wd 0).frozen? ⟨w.heap.size + 1,0,none⟩ = false := a0.frozen 0
    have ca1 : ((Wd 0).setCell ⟨w.heap.size + 1,0,none⟩ (.int .i64 (trim - hg))).cell? ⟨w.heap.size + 1,1,none⟩ = some (.int .i64 0) := a0'.cell 1
    have fa1 : ((Wd 0).setCell ⟨w.heap.size + 1,0,none⟩ (.int .i64 (trim - hg))).frozen? ⟨w.heap.size + 1,1,none⟩ = false := a0'.frozen 1
    have cb0 : (Wd 1).cell? ⟨w.heap.size + 1 + 1,0,none⟩ = some (.int .i64 0) := b1'.cell 0
    have fb0 : (Wd 1).frozen? ⟨w.heap.size + 1 + 1,0,none⟩ = false := b1'.frozen 0
    have cb1 : ((Wd 1).setCell ⟨w.heap.size + 1 + 1,0,none⟩ (.int .i64 (s.depth - bk))).cell? ⟨w.heap.size + 1 + 1,1,none⟩ = some (.int .i64 0) := b1''.cell 1
    have fb1 : ((Wd 1).setCell ⟨w.heap.size + 1 + 1,0,none⟩ (.int .i64 (s.depth - bk))).frozen? ⟨w.heap.size + 1 + 1,1,none⟩ = false := b1''.frozen 1
    obtain ⟨hBe,z0,z1,z2,z3⟩ := spans_stored (HBel.out.drew) (by omega) (show Blk wr.drew (w.heap.size + 1) 91 #[.int .i64 0,.int .i64 0] from HD1.out) (show Blk wr.drew (w.heap.size + 1 + 1) 91 #[.int .i64 0,.int .i64 0] from HD2.out) (.int .i64 (trim - hg)) (.int .i64 trim) (.int .i64 (s.depth - bk)) (.int .i64 (s.depth + fr))
    rw [← w0,w1,w2'] at hBe z0 z1 z2 z3
    have HBe := Lib.hid hBe
    have W0 := Lib.hid w0
    have Z0 := Lib.hid z0
    have Z1 := Lib.hid z1
    have Z2 := Lib.hid z2
    have Z3 := Lib.hid z3
    clear far2 hBe w0 z0 z1 z2 z3 s0 s1 s2 d0 d1' d2' a0 a0' b0 b1' b1'' hK HD0 HD1 HD2 HD3 HBel hne0 hne1 hne2 hne3 hfar bd1 bd2 bd3
    refine wp_region_freeL [.int .i64 trim,.pointer (some ⟨D,4,none⟩),.int .i64 hg,.int .i64 (trim - hg),.int .i64 trim,spanV (trim - hg) trim,.pointer (some ⟨w.heap.size,1,none⟩),.int .i64 s.depth,.pointer (some ⟨D,6,none⟩),.int .i64 bk,.int .i64 (s.depth - bk),.pointer (some ⟨w.heap.size,1,none⟩),.int .i64 s.depth,.pointer (some ⟨D,5,none⟩),.int .i64 fr,.int .i64 (s.depth + fr),spanV (s.depth - bk) (s.depth + fr),undef,undef,.int .i64 0] Wd [17,18] (by kernel_rfl) (by kernel_rfl) (by kernel_rfl) (by decide) (by rfl) W0.out ?_ ?_
    ·simp only [putAll,Act.put,List.setIfInBounds_toArray,List.set_cons_zero,List.set_cons_succ]
     simp only [freeAll]
     refine ⟨?_,?_,?_,?_,?_,?_,?_,?_,?_,?_,?_,?_,?_,?_,?_,?_,?_,?_,?_,?_,trivial⟩
     ·exact .inl ⟨by decide,fun m hm hok => by go_simp⟩
     ·exact .inl ⟨by decide,fun m hm hok => by go_simp⟩
     ·exact .inl ⟨by decide,fun m hm hok => by have h := g4 m hm;go_simp⟩
     ·exact .inl ⟨by decide,fun m hm hok => by go_simp⟩
     ·exact .inl ⟨by decide,fun m hm hok => by go_simp⟩
     ·exact .inl ⟨by decide,fun m hm hok => by go_simp⟩
     ·exact .inl ⟨by decide,fun m hm hok => by go_simp⟩
     ·exact .inl ⟨by decide,fun m hm hok => by have h := q1 m hm;go_simp⟩
     ·exact .inl ⟨by decide,fun m hm hok => by go_simp⟩
     ·exact .inl ⟨by decide,fun m hm hok => by have h := g6 m hm;go_simp⟩
     ·exact .inl ⟨by decide,fun m hm hok => by go_simp⟩
     ·exact .inl ⟨by decide,fun m hm hok => by go_simp⟩
     ·exact .inl ⟨by decide,fun m hm hok => by have h := q1 m hm;go_simp⟩
     ·exact .inl ⟨by decide,fun m hm hok => by go_simp⟩
     ·exact .inl ⟨by decide,fun m hm hok => by have h := g5 m hm;go_simp⟩
     ·exact .inl ⟨by decide,fun m hm hok => by go_simp⟩
     ·exact .inl ⟨by decide,fun m hm hok => by go_simp⟩
     ·exact .inr ⟨0,rfl,by go_simp⟩
     ·exact .inr ⟨1,rfl,by go_simp⟩
     ·exact .inl ⟨by decide,fun m hm hok => by go_simp⟩
    ·simp only [putAll,Act.put,List.setIfInBounds_toArray,List.set_cons_zero,List.set_cons_succ]
     have z0 := Z0.out
     have z1 := Z1.out
     have z2 := Z2.out
     have z3 := Z3.out
     clear g4 g5 g6 q1 ca0 fa0 ca1 fa1 cb0 fb0 cb1 fb1 w1 w2'
     go_wp2_with fail
     refine bodyPost_ret (v := .tuple #[spanV (trim - hg) trim,spanV (s.depth - bk) (s.depth + fr),.int .i64 0]) (by simp [results,Tryz.results47,go_sem,z0,z1,z2,z3]) rfl ?_
     exact ⟨by rw [HV.out],HBe.out⟩
end Go.Proofs.YtbhmkcjddpniiaaGreatDoor

namespace Go.Proofs.YtbhmkcjddpniiaaGreatDoor
open Go.RowKit Go.Shelf
def AnsB (w : World) (e : Ending) (w' : World) : Prop := ∃ q : Bool,e = .returned (.bool q) ∧ Below w.heap.size w w'
set_option maxRecDepth 100000 in
set_option maxHeartbeats 4000000 in
theorem refSmall (v : Value) (s : SetT) (n : Int) (w : World) (hv : SetAt w w.heap.size v s) (_hsz : s.name.size ≤ maxLen) (hnm : ∀ x ∈ s.items,x.name.size ≤ maxLen) (hbm : ∀ x ∈ s.bricks,x.name.size ≤ maxLen) :
  Calls Tryz.prog 23 #[v,.int .i64 n] w (AnsB w) := by
 obtain ⟨Al,cl,Ai,ci,Ab,cb,rfl,hL,hI,hB⟩ := hv
 obtain ⟨_,_,e,hl1,hl2,-⟩ := hL.open_
 injection e with e1 _ e2
 subst e1 e2
 obtain ⟨_,_,e,hi1,hi2,hic⟩ := hI.open_
 injection e with e1 _ e2
 subst e1 e2
 obtain ⟨_,_,e,hk1,hk2,hkc⟩ := hB.open_
 injection e with e1 _ e2
 subst e1 e2
 have HI := Lib.hid hic
 have HK := Lib.hid hkc
 have HN := Lib.hid hnm
 have HM := Lib.hid hbm
 have HD := Lib.hid (Blk.new w 26 #[.string s.name,.int .i64 s.depth,.int .i64 s.low,.int .i64 s.high,.int .i64 s.len,.slice Al s.lines.length cl,.int .i64 s.pipe,.int .i64 s.arbor,.int .i64 s.purch,.int .i64 s.most,.int .i64 s.brake,.slice Ai s.items.length ci,.slice Ab s.bricks.length cb])
 have HB1 := Lib.hid ((Below.refl _ w).alloc (Nat.le_refl _) (.cells #[.string s.name,.int .i64 s.depth,.int .i64 s.low,.int .i64 s.high,.int .i64 s.len,.slice Al s.lines.length cl,.int .i64 s.pipe,.int .i64 s.arbor,.int .i64 s.purch,.int .i64 s.most,.int .i64 s.brake,.slice Ai s.items.length ci,.slice Ab s.bricks.length cb] 26))
 unfold maxLen at hl2 hi2 hk2
 unfold setVal
 clear hL hI hB hic hkc hnm hbm
 by_cases c0 : 60 < (s.name.size : Int)
 ·have d0 : decide (60 < (s.name.size : Int)) = true := decide_eq_true c0
  go_enter Tryz.func23,Tryz.ntmps23
  go_wp2
  go_ret
  exact ⟨_,rfl,HB1.out⟩
 have d0 : decide (60 < (s.name.size : Int)) = false := decide_eq_false c0
 by_cases c1 : 12 < (s.lines.length : Int)
 ·have d1 : decide (12 < (s.lines.length : Int)) = true := decide_eq_true c1
  go_enter Tryz.func23,Tryz.ntmps23
  go_wp2
  go_ret
  exact ⟨_,rfl,HB1.out⟩
 have d1 : decide (12 < (s.lines.length : Int)) = false := decide_eq_false c1
 by_cases c2 : n < (s.items.length : Int)
 ·have d2 : decide (n < (s.items.length : Int)) = true := decide_eq_true c2
  by_cases c3 : (s.items.length : Int) ≤ 40
  ·have d3 : decide ((s.items.length : Int) ≤ 40) = true := decide_eq_true c3
   go_enter Tryz.func23,Tryz.ntmps23
   go_wp2
   go_ret
   exact ⟨_,rfl,HB1.out⟩
  have d3 : decide ((s.items.length : Int) ≤ 40) = false := decide_eq_false c3
  by_cases c4 : 45 < (s.items.length : Int)
  ·have d4 : decide (45 < (s.items.length : Int)) = true := decide_eq_true c4
   go_enter Tryz.func23,Tryz.ntmps23
   go_wp2
   go_ret
   exact ⟨_,rfl,HB1.out⟩
  have d4 : decide (45 < (s.items.length : Int)) = false := decide_eq_false c4
  by_cases c5 : 10 < (s.bricks.length : Int)
  ·have d5 : decide (10 < (s.bricks.length : Int)) = true := decide_eq_true c5
   go_enter Tryz.func23,Tryz.ntmps23
   go_wp2
   go_ret
   exact ⟨_,rfl,HB1.out⟩
  have d5 : decide (10 < (s.bricks.length : Int)) = false := decide_eq_false c5
  go_enter Tryz.func23,Tryz.ntmps23
  go_wp2
  generalize w.alloc (.cells #[.string s.name,.int .i64 s.depth,.int .i64 s.low,.int .i64 s.high,.int .i64 s.len,.slice Al s.lines.length cl,.int .i64 s.pipe,.int .i64 s.arbor,.int .i64 s.purch,.int .i64 s.most,.int .i64 s.brake,.slice Ai s.items.length ci,.slice Ab s.bricks.length cb] 26) = W1 at *
  have z11 := HD.out.cell 11
  have z12 := HD.out.cell 12
  simp only [List.getElem?_toArray,List.getElem?_cons_succ,List.getElem?_cons_zero] at z11 z12
  go_loopw [5] (fun x wr => ∃ k : Nat,k ≤ s.items.length ∧ x = .int .i64 k ∧ W1 = wr) (fun x _ => s.items.length - (intOf x).toNat)
  case atStart => exact ⟨0,Nat.zero_le _,rfl,rfl⟩
  case round =>
   obtain ⟨k,hk,rfl,rfl⟩ := hrel
   by_cases hkl : k < s.items.length
   ·obtain ⟨b,off,rfl,hb,hc⟩ := HI.out k hkl
    have y0 := (HB1.out.cell (p := ⟨b,off + k * 7,none⟩) hb).trans (hc k hkl).1
    have hz := HN.out _ (List.getElem_mem hkl)
    unfold maxLen at hz
    have i1 : (0 : Int) ≤ (k : Int) := Int.natCast_nonneg _
    have i2 : (k : Int) < (s.items.length : Int) := by omega
    clear hc
    by_cases g : 60 < (s.items[k].name.size : Int)
    ·have gd := decide_eq_true g
     go_wp2
     go_ret
     exact ⟨_,rfl,HB1.out⟩
    ·have gd := decide_eq_false g
     go_wp2
     go_roundw
     case rel => exact ⟨k + 1,by omega,by go_num,by trivial⟩
     case measure => simp [intOf];omega
   ·obtain rfl : k = s.items.length := by omega
    go_wp2
    go_loopw [6] (fun x wr => ∃ k : Nat,k ≤ s.bricks.length ∧ x = .int .i64 k ∧ W1 = wr) (fun x _ => s.bricks.length - (intOf x).toNat)
    case atStart => exact ⟨0,Nat.zero_le _,rfl,rfl⟩
    case round =>
     obtain ⟨k,hk,rfl,rfl⟩ := hrel
     by_cases hkl : k < s.bricks.length
     ·obtain ⟨b,off,rfl,hb,hc⟩ := HK.out k hkl
      have y0 := (HB1.out.cell (p := ⟨b,off + k * 3,none⟩) hb).trans (hc k hkl).1
      have hz := HM.out _ (List.getElem_mem hkl)
      unfold maxLen at hz
      have i1 : (0 : Int) ≤ (k : Int) := Int.natCast_nonneg _
      have i2 : (k : Int) < (s.bricks.length : Int) := by omega
      clear hc
      by_cases g : 60 < (s.bricks[k].name.size : Int)
      ·have gd := decide_eq_true g
       go_wp2
       go_ret
       exact ⟨_,rfl,HB1.out⟩
      ·have gd := decide_eq_false g
       go_wp2
       go_roundw
       case rel => exact ⟨k + 1,by omega,by go_num,by trivial⟩
       case measure => simp [intOf];omega
     ·obtain rfl : k = s.bricks.length := by omega
      go_wp2
      go_ret
      exact ⟨_,rfl,HB1.out⟩
 have d2 : decide (n < (s.items.length : Int)) = false := decide_eq_false c2
 by_cases c4 : 45 < (s.items.length : Int)
 ·have d4 : decide (45 < (s.items.length : Int)) = true := decide_eq_true c4
  go_enter Tryz.func23,Tryz.ntmps23
  go_wp2
  go_ret
  exact ⟨_,rfl,HB1.out⟩
 have d4 : decide (45 < (s.items.length : Int)) = false := decide_eq_false c4
 by_cases c5 : 10 < (s.bricks.length : Int)
 ·have d5 : decide (10 < (s.bricks.length : Int)) = true := decide_eq_true c5
  go_enter Tryz.func23,Tryz.ntmps23
  go_wp2
  go_ret
  exact ⟨_,rfl,HB1.out⟩
 have d5 : decide (10 < (s.bricks.length : Int)) = false := decide_eq_false c5
 go_enter Tryz.func23,Tryz.ntmps23
 go_wp2
 generalize w.alloc (.cells #[.string s.name,.int .i64 s.depth,.int .i64 s.low,.int .i64 s.high,.int .i64 s.len,.slice Al s.lines.length cl,.int .i64 s.pipe,.int .i64 s.arbor,.int .i64 s.purch,.int .i64 s.most,.int .i64 s.brake,.slice Ai s.items.length ci,.slice Ab s.bricks.length cb] 26) = W1 at *
 have z11 := HD.out.cell 11
 have z12 := HD.out.cell 12
 simp only [List.getElem?_toArray,List.getElem?_cons_succ,List.getElem?_cons_zero] at z11 z12
 go_loopw [5] (fun x wr => ∃ k : Nat,k ≤ s.items.length ∧ x = .int .i64 k ∧ W1 = wr) (fun x _ => s.items.length - (intOf x).toNat)
 case atStart => exact ⟨0,Nat.zero_le _,rfl,rfl⟩
 case round =>
  obtain ⟨k,hk,rfl,rfl⟩ := hrel
  by_cases hkl : k < s.items.length
  ·obtain ⟨b,off,rfl,hb,hc⟩ := HI.out k hkl
   have y0 := (HB1.out.cell (p := ⟨b,off + k * 7,none⟩) hb).trans (hc k hkl).1
   have hz := HN.out _ (List.getElem_mem hkl)
   unfold maxLen at hz
   have i1 : (0 : Int) ≤ (k : Int) := Int.natCast_nonneg _
   have i2 : (k : Int) < (s.items.length : Int) := by omega
   clear hc
   by_cases g : 60 < (s.items[k].name.size : Int)
   ·have gd := decide_eq_true g
    go_wp2
    go_ret
    exact ⟨_,rfl,HB1.out⟩
   ·have gd := decide_eq_false g
    go_wp2
    go_roundw
    case rel => exact ⟨k + 1,by omega,by go_num,by trivial⟩
    case measure => simp [intOf];omega
  ·obtain rfl : k = s.items.length := by omega
   go_wp2
   go_loopw [6] (fun x wr => ∃ k : Nat,k ≤ s.bricks.length ∧ x = .int .i64 k ∧ W1 = wr) (fun x _ => s.bricks.length - (intOf x).toNat)
   case atStart => exact ⟨0,Nat.zero_le _,rfl,rfl⟩
   case round =>
    obtain ⟨k,hk,rfl,rfl⟩ := hrel
    by_cases hkl : k < s.bricks.length
    ·obtain ⟨b,off,rfl,hb,hc⟩ := HK.out k hkl
     have y0 := (HB1.out.cell (p := ⟨b,off + k * 3,none⟩) hb).trans (hc k hkl).1
     have hz := HM.out _ (List.getElem_mem hkl)
     unfold maxLen at hz
     have i1 : (0 : Int) ≤ (k : Int) := Int.natCast_nonneg _
     have i2 : (k : Int) < (s.bricks.length : Int) := by omega
     clear hc
     by_cases g : 60 < (s.bricks[k].name.size : Int)
     ·have gd := decide_eq_true g
      go_wp2
      go_ret
      exact ⟨_,rfl,HB1.out⟩
     ·have gd := decide_eq_false g
      go_wp2
      go_roundw
      case rel => exact ⟨k + 1,by omega,by go_num,by trivial⟩
      case measure => simp [intOf];omega
    ·obtain rfl : k = s.bricks.length := by omega
     go_wp2
     go_ret
     exact ⟨_,rfl,HB1.out⟩
end Go.Proofs.YtbhmkcjddpniiaaGreatDoor

namespace Go.Proofs.YtbhmkcjddpniiaaGreatDoor
open Go.RowKit Go.Shelf
def brickW (l : List BrickT) (k : Nat) : Int := ((l.take k).map fun x => x.wt * x.cnt).sum
theorem brickW_succ (l : List BrickT) (k : Nat) (hk : k < l.length) : brickW l (k + 1) = brickW l k + l[k].wt * l[k].cnt := by
 unfold brickW
 rw [take_snoc l k hk,List.map_append,List.sum_append]
 simp
theorem one_bd {a b : Int} (ha : 1 ≤ a ∧ a ≤ 1048576) (hb : 0 ≤ b ∧ b ≤ 60) : 0 ≤ a * b ∧ a * b ≤ 62914560 := by
 have h1 := Int.mul_le_mul ha.2 hb.2 hb.1 (by decide)
 have h2 := Int.mul_nonneg (show 0 ≤ a by omega) hb.1
 omega
theorem brickW_bd {l : List BrickT} (h : ∀ x ∈ l,(1 ≤ x.wt ∧ x.wt ≤ 1048576) ∧ (0 ≤ x.cnt ∧ x.cnt ≤ 60)) : ∀ k,k ≤ l.length → (0 ≤ brickW l k ∧ brickW l k ≤ 62914560 * k) ∧ (0 ≤ cntTo l k ∧ cntTo l k ≤ 60 * k)
 | 0,_ => by simp [brickW,cntTo]
 | k + 1,hk => by
  have h1 := brickW_bd h k (by omega)
  have h2 := h _ (List.getElem_mem (show k < l.length by omega))
  have h3 := one_bd h2.1 h2.2
  rw [brickW_succ l k (by omega),cntTo_succ l k (by omega)]
  omega
set_option maxRecDepth 100000 in
set_option maxHeartbeats 2000000 in
theorem arbThere (v : Value) (s : SetT) (w : World) (hv : SetAt w w.heap.size v s) (hi : ∀ x ∈ s.bricks,(1 ≤ x.wt ∧ x.wt ≤ 1048576) ∧ (0 ≤ x.cnt ∧ x.cnt ≤ 60)) (h8 : s.bricks.length ≤ 8) :
  Calls Tryz.prog 154 #[v] w fun e w' => e = .returned (.tuple #[.int .i64 (brickW s.bricks s.bricks.length),.int .i64 (cntTo s.bricks s.bricks.length)]) ∧ Below w.heap.size w w' := by
 have HBd := Lib.hid (brickW_bd hi)
 have HOne := Lib.hid fun k (hk : k < s.bricks.length) => one_bd (hi _ (List.getElem_mem hk)).1 (hi _ (List.getElem_mem hk)).2
 obtain ⟨Al,cl,Ai,ci,Ab,cb,rfl,hL,hI,hB⟩ := hv
 obtain ⟨_,_,e,hi1,hi2,hic⟩ := hB.open_
 injection e with e1 _ e2
 subst e1 e2
 have HI := Lib.hid hic
 have HD := Lib.hid (Blk.new w 26 #[.string s.name,.int .i64 s.depth,.int .i64 s.low,.int .i64 s.high,.int .i64 s.len,.slice Al s.lines.length cl,.int .i64 s.pipe,.int .i64 s.arbor,.int .i64 s.purch,.int .i64 s.most,.int .i64 s.brake,.slice Ai s.items.length ci,.slice Ab s.bricks.length cb])
 have HB1 := Lib.hid ((Below.refl _ w).alloc (Nat.le_refl _) (.cells #[.string s.name,.int .i64 s.depth,.int .i64 s.low,.int .i64 s.high,.int .i64 s.len,.slice Al s.lines.length cl,.int .i64 s.pipe,.int .i64 s.arbor,.int .i64 s.purch,.int .i64 s.most,.int .i64 s.brake,.slice Ai s.items.length ci,.slice Ab s.bricks.length cb] 26))
 unfold maxLen at hi2
 clear hL hI hB hic hi
 unfold setVal at *
 go_enter Tryz.func154,Tryz.ntmps154
 go_wp2
 go_loopw [9,2,3] (fun x t u wr => ∃ k : Nat,k ≤ s.bricks.length ∧ x = .int .i64 k ∧ t = .int .i64 (brickW s.bricks k) ∧ u = .int .i64 (cntTo s.bricks k) ∧ Below w.heap.size w wr) (fun x _ _ _ => s.bricks.length - (intOf x).toNat)
 case atStart => exact ⟨0,Nat.zero_le _,rfl,rfl,rfl,HB1.out⟩
 case round =>
  obtain ⟨k,hk,rfl,rfl,rfl,hbel⟩ := hrel
  by_cases hkl : k < s.bricks.length
  ·obtain ⟨b1,off1,rfl,hb1,hc⟩ := HI.out k hkl
   have y0 := (hbel.cell (p := ⟨b1,off1 + k * 3,none⟩) hb1).trans (hc k hkl).1
   have y1 := (hbel.cell (p := ⟨b1,off1 + k * 3 + 1,none⟩) hb1).trans (hc k hkl).2.1
   have y2 := (hbel.cell (p := ⟨b1,off1 + k * 3 + 2,none⟩) hb1).trans (hc k hkl).2.2
   have h3 := HBd.out (k + 1) hkl
   have h4 := HOne.out k hkl
   have hs := brickW_succ s.bricks k hkl
   have ht := cntTo_succ s.bricks k hkl
   have v0 : IntKind.i64.wrap (s.bricks[k].wt * s.bricks[k].cnt) = s.bricks[k].wt * s.bricks[k].cnt := IntWalk.i64_in _ (by omega)
   have v1 : IntKind.i64.wrap (brickW s.bricks k + s.bricks[k].wt * s.bricks[k].cnt) = brickW s.bricks k + s.bricks[k].wt * s.bricks[k].cnt := IntWalk.i64_in _ (by rw [← hs];omega)
   have v2 : IntKind.i64.wrap (cntTo s.bricks k + s.bricks[k].cnt) = cntTo s.bricks k + s.bricks[k].cnt := IntWalk.i64_in _ (by rw [← ht];omega)
   have HS := Lib.hid hs
   have HT := Lib.hid ht
   have hba : Below w.heap.size w (wr.alloc (.cells #[.string s.bricks[k].name,.int .i64 s.bricks[k].wt,.int .i64 s.bricks[k].cnt] 49)) := hbel.alloc hbel.size _
   have i1 : (0 : Int) ≤ (k : Int) := Int.natCast_nonneg _
   have i2 : (k : Int) < (s.bricks.length : Int) := by omega
   clear hc hs ht h3 h4
   go_wp2
   go_roundw
   case rel => exact ⟨k + 1,by omega,by go_num,by rw [HS.out],by rw [HT.out],hba⟩
   case measure => simp [intOf];omega
  ·obtain rfl : k = s.bricks.length := by omega
   go_wp2
   go_ret2
   exact ⟨rfl,hbel⟩
end Go.Proofs.YtbhmkcjddpniiaaGreatDoor

namespace Go.Proofs.YtbhmkcjddpniiaaGreatDoor
open Go.RowKit Go.Shelf
def neededN (s : SetT) : Int := weightN s * s.purch - s.arbor
theorem weight_bd {s : SetT} (h : setB s = true) : 0 ≤ weightN s ∧ weightN s ≤ 1140850688 := by
 have h1 := setB_ok h
 have h2 := wtTo_bd (s := s) (pipe_bd h1.pipe h1.len) (fun x hx => alone_wt (h1.wts.2 x hx).1) s.items.length (Nat.le_refl _)
 have := h1.wts.1
 unfold weightN
 omega
theorem needed_bd {n p : Int} (hn : 0 ≤ n ∧ n ≤ 1140850688) (hp : 1 ≤ p ∧ p ≤ 2) : 0 ≤ n * p ∧ n * p ≤ 2281701376 := by
 rcases (show p = 1 ∨ p = 2 by omega) with rfl | rfl <;> omega
set_option maxRecDepth 100000 in
set_option maxHeartbeats 2000000 in
theorem arbNeeded (v : Value) (s : SetT) (w : World) (hv : SetAt w w.heap.size v s) (hn : SetNames s) :
  Calls Tryz.prog 153 #[v] w fun e w' => e = .returned (if setB s = true then .tuple #[.int .i64 (neededN s),.int .i64 0] else .tuple #[.int .i64 0,.int .i64 1]) ∧ Below w.heap.size w w' := by
 have HWe := fun W (hb : Below w.heap.size w W) => batWeight v s W ((hv.below hb (Nat.le_refl _)).mono hb.size) hn
 obtain ⟨Al,cl,Ai,ci,Ab,cb,rfl,-,-,-⟩ := hv
 have HD := Lib.hid (Blk.new w 26 #[.string s.name,.int .i64 s.depth,.int .i64 s.low,.int .i64 s.high,.int .i64 s.len,.slice Al s.lines.length cl,.int .i64 s.pipe,.int .i64 s.arbor,.int .i64 s.purch,.int .i64 s.most,.int .i64 s.brake,.slice Ai s.items.length ci,.slice Ab s.bricks.length cb])
 have HB1 := Lib.hid ((Below.refl _ w).alloc (Nat.le_refl _) (.cells #[.string s.name,.int .i64 s.depth,.int .i64 s.low,.int .i64 s.high,.int .i64 s.len,.slice Al s.lines.length cl,.int .i64 s.pipe,.int .i64 s.arbor,.int .i64 s.purch,.int .i64 s.most,.int .i64 s.brake,.slice Ai s.items.length ci,.slice Ab s.bricks.length cb] 26))
 have hwe := HWe _ HB1.out
 clear HWe hn
 unfold setVal at *
 rcases Bool.eq_false_or_eq_true (setB s) with hok | hok
 ·have hb := weight_bd hok
  have hok' := setB_ok hok
  have hp := needed_bd hb hok'.purch
  have ha := hok'.arbor
  have v1 : IntKind.i64.wrap (weightN s * s.purch) = weightN s * s.purch := IntWalk.i64_in _ (by omega)
  have v2 : IntKind.i64.wrap (weightN s * s.purch - s.arbor) = weightN s * s.purch - s.arbor := IntWalk.i64_in _ (by omega)
  rw [if_pos hok] at hwe ⊢
  clear hok hok' hp ha hb
  go_enter Tryz.func153,Tryz.ntmps153
  go_wp2_with (go_at_call 61;refine hwe.mono ?_;rintro e w2 ⟨rfl,hb2⟩;have hbx := HB1.out.trans (hb2.mono HB1.out.size);have HD2 := Lib.hid (HD.out.below hb2 HD.out.lt);have z7 := HD2.out.cell 7;have z8 := HD2.out.cell 8;simp only [List.getElem?_toArray,List.getElem?_cons_succ,List.getElem?_cons_zero] at z7 z8)
  go_ret2
  exact ⟨rfl,hbx⟩
 ·rw [if_neg (by rw [hok];simp)] at hwe ⊢
  clear hok
  go_enter Tryz.func153,Tryz.ntmps153
  go_wp2_with (go_at_call 61;refine hwe.mono ?_;rintro e w2 ⟨rfl,hb2⟩)
  go_ret2
  exact ⟨rfl,HB1.out.trans (hb2.mono HB1.out.size)⟩
end Go.Proofs.YtbhmkcjddpniiaaGreatDoor

namespace Go.Proofs.YtbhmkcjddpniiaaGreatDoor
open Go.RowKit Go.Shelf
def balanceN (s : SetT) : Int := neededN s - brickW s.bricks s.bricks.length
theorem SetOk.brk {s : SetT} (h : SetOk s) : s.bricks.length ≤ 8 ∧ ∀ x ∈ s.bricks,(1 ≤ x.wt ∧ x.wt ≤ 1048576) ∧ (0 ≤ x.cnt ∧ x.cnt ≤ 60) := by
 have h1 := h.bricks
 unfold bricksB at h1
 simp only [Bool.and_eq_true,decide_eq_true_eq,List.all_eq_true] at h1
 refine ⟨h1.1,fun x hx => ?_⟩
 have h2 := h1.2.2.1 x hx
 unfold brickB at h2
 simp only [Bool.and_eq_true] at h2
 exact ⟨between_bd h2.2.1,between_bd h2.2.2⟩
set_option maxRecDepth 100000 in
set_option maxHeartbeats 2000000 in
theorem arbBalance (v : Value) (s : SetT) (w : World) (hv : SetAt w w.heap.size v s) (hn : SetNames s) :
  Calls Tryz.prog 106 #[v] w fun e w' => e = .returned (if setB s = true then .tuple #[.int .i64 (balanceN s),.int .i64 0] else .tuple #[.int .i64 0,.int .i64 1]) ∧ Below w.heap.size w w' := by
 have HNe := fun W (hb : Below w.heap.size w W) => arbNeeded v s W ((hv.below hb (Nat.le_refl _)).mono hb.size) hn
 have HTh := Lib.hid fun (hok : setB s = true) W (hb : Below w.heap.size w W) => arbThere v s W ((hv.below hb (Nat.le_refl _)).mono hb.size) (setB_ok hok).brk.2 (setB_ok hok).brk.1
 obtain ⟨Al,cl,Ai,ci,Ab,cb,rfl,-,-,-⟩ := hv
 have HD := Lib.hid (Blk.new w 26 #[.string s.name,.int .i64 s.depth,.int .i64 s.low,.int .i64 s.high,.int .i64 s.len,.slice Al s.lines.length cl,.int .i64 s.pipe,.int .i64 s.arbor,.int .i64 s.purch,.int .i64 s.most,.int .i64 s.brake,.slice Ai s.items.length ci,.slice Ab s.bricks.length cb])
 have HB1 := Lib.hid ((Below.refl _ w).alloc (Nat.le_refl _) (.cells #[.string s.name,.int .i64 s.depth,.int .i64 s.low,.int .i64 s.high,.int .i64 s.len,.slice Al s.lines.length cl,.int .i64 s.pipe,.int .i64 s.arbor,.int .i64 s.purch,.int .i64 s.most,.int .i64 s.brake,.slice Ai s.items.length ci,.slice Ab s.bricks.length cb] 26))
 have hwe := HNe _ HB1.out
 clear HNe hn
 unfold setVal at *
 rcases Bool.eq_false_or_eq_true (setB s) with hok | hok
 ·have hth := HTh.out hok
  have hb := weight_bd hok
  have hok' := setB_ok hok
  have hp := needed_bd hb hok'.purch
  have ha := hok'.arbor
  have hw := (brickW_bd hok'.brk.2 _ (Nat.le_refl _)).1
  have h8 := hok'.brk.1
  have v2 : IntKind.i64.wrap (neededN s - brickW s.bricks s.bricks.length) = neededN s - brickW s.bricks s.bricks.length := IntWalk.i64_in _ (by unfold neededN;omega)
  rw [if_pos hok] at hwe ⊢
  clear hok hok' hp ha hb hw h8 HTh
  go_enter Tryz.func106,Tryz.ntmps106
  go_wp2_with (first | (go_at_call 153;refine hwe.mono ?_;rintro e w2 ⟨rfl,hb2⟩;have hbx := HB1.out.trans (hb2.mono HB1.out.size);have HD2 := Lib.hid (HD.out.below hb2 HD.out.lt);have z0 := HD2.out.cell 0;have z1 := HD2.out.cell 1;have z2 := HD2.out.cell 2;have z3 := HD2.out.cell 3;have z4 := HD2.out.cell 4;have z5 := HD2.out.cell 5;have z6 := HD2.out.cell 6;have z7 := HD2.out.cell 7;have z8 := HD2.out.cell 8;have z9 := HD2.out.cell 9;have z10 := HD2.out.cell 10;have z11 := HD2.out.cell 11;have z12 := HD2.out.cell 12;simp only [List.getElem?_toArray,List.getElem?_cons_succ,List.getElem?_cons_zero] at z0 z1 z2 z3 z4 z5 z6 z7 z8 z9 z10 z11 z12) | (go_at_call 154;refine (hth _ hbx).mono ?_;rintro e w3 ⟨rfl,hb3⟩))
  go_ret2
  exact ⟨rfl,hbx.trans (hb3.mono hbx.size)⟩
 ·rw [if_neg (by rw [hok];simp)] at hwe ⊢
  clear hok HTh
  go_enter Tryz.func106,Tryz.ntmps106
  go_wp2_with (go_at_call 153;refine hwe.mono ?_;rintro e w2 ⟨rfl,hb2⟩)
  go_ret2
  exact ⟨rfl,HB1.out.trans (hb2.mono HB1.out.size)⟩
end Go.Proofs.YtbhmkcjddpniiaaGreatDoor

namespace Go.Proofs.YtbhmkcjddpniiaaGreatDoor
open Go.RowKit Go.Shelf
def holdsB (s : SetT) : Bool := decide (max (balanceN s) (-balanceN s) ≤ s.brake)
theorem balance_bd {s : SetT} (h : setB s = true) : -604045312 ≤ balanceN s ∧ balanceN s ≤ 2281701376 := by
 have hb := weight_bd h
 have hok' := setB_ok h
 have hp := needed_bd hb hok'.purch
 have ha := hok'.arbor
 have hw := (brickW_bd hok'.brk.2 _ (Nat.le_refl _)).1
 have h8 := hok'.brk.1
 unfold balanceN neededN
 omega
set_option maxRecDepth 100000 in
set_option maxHeartbeats 2000000 in
theorem arbHolds (v : Value) (s : SetT) (w : World) (hv : SetAt w w.heap.size v s) (hn : SetNames s) :
    Calls Tryz.prog 55 #[v] w fun e w' => e = .returned (if setB s = true then .tuple #[.bool (holdsB s),.int .i64 0] else .tuple #[.bool false,.int .i64 1]) ∧ Below w.heap.size w w' := by
  have HBa := fun W (hb : Below w.heap.size w W) => arbBalance v s W ((hv.below hb (Nat.le_refl _)).mono hb.size) hn
  obtain ⟨Al,cl,Ai,ci,Ab,cb,rfl,-,-,-⟩ := hv
  have HD := Lib.hid (Blk.new w 26 #[.string s.name,.int .i64 s.depth,.int .i64 s.low,.int .i64 s.high,.int .i64 s.len,.slice Al s.lines.length cl,.int .i64 s.pipe,.int .i64 s.arbor,.int .i64 s.purch,.int .i64 s.most,.int .i64 s.brake,.slice Ai s.items.length ci,.slice Ab s.bricks.length cb])
  have HB1 := Lib.hid ((Below.refl _ w).alloc (Nat.le_refl _) (.cells #[.string s.name,.int .i64 s.depth,.int .i64 s.low,.int .i64 s.high,.int .i64 s.len,.slice Al s.lines.length cl,.int .i64 s.pipe,.int .i64 s.arbor,.int .i64 s.purch,.int .i64 s.most,.int .i64 s.brake,.slice Ai s.items.length ci,.slice Ab s.bricks.length cb] 26))
  have hba := HBa _ HB1.out
  clear HBa hn
  unfold setVal at *
  rcases Bool.eq_false_or_eq_true (setB s) with hok | hok
  · have hb := balance_bd hok
    have v1 : IntKind.i64.wrap (-balanceN s) = -balanceN s := IntWalk.i64_in _ (by omega)
    have HV : Hid (holdsB s = decide (max (balanceN s) (-balanceN s) ≤ s.brake)) := rfl
    rw [if_pos hok] at hba ⊢
    clear hok hb
    generalize balanceN s = bn at *
    go_enter Tryz.func55,Tryz.ntmps55
    go_wp2_with (go_at_call 106;refine hba.mono ?_;rintro e w2 ⟨rfl,hb2⟩;have hbx := HB1.out.trans (hb2.mono HB1.out.size);have HD2 := Lib.hid (HD.out.below hb2 HD.out.lt);have z10 := HD2.out.cell 10;simp only [List.getElem?_toArray,List.getElem?_cons_succ,List.getElem?_cons_zero] at z10)
    all_goals
      have hv := HV.out
      first
        | (have hmx : max bn (-bn) = bn := by omega
           rw [hmx] at hv)
        | (have hmx : max bn (-bn) = -bn := by omega
           rw [hmx] at hv)
      go_ret2
      exact ⟨by rw [hv];rfl,hbx⟩
  · rw [if_neg (by rw [hok];simp)] at hba ⊢
    clear hok
    go_enter Tryz.func55,Tryz.ntmps55
    go_wp2_with (go_at_call 106;refine hba.mono ?_;rintro e w2 ⟨rfl,hb2⟩)
    go_ret2
    exact ⟨rfl,HB1.out.trans (hb2.mono HB1.out.size)⟩
end Go.Proofs.YtbhmkcjddpniiaaGreatDoor

namespace Go.Proofs.YtbhmkcjddpniiaaGreatDoor
open Go.RowKit Go.Shelf
def totalTo (s : SetT) (k : Nat) : Int := weightN s + s.arbor + brickW s.bricks k
def totalN (s : SetT) : Int := totalTo s s.bricks.length
set_option maxRecDepth 100000 in
set_option maxHeartbeats 2000000 in
theorem lsTotal (v : Value) (s : SetT) (w : World) (hv : SetAt w w.heap.size v s) (hn : SetNames s) :
  Calls Tryz.prog 15 #[v] w fun e w' => e = .returned (if setB s = true then .tuple #[.int .i64 (totalN s),.int .i64 0] else .tuple #[.int .i64 0,.int .i64 1]) ∧ Below w.heap.size w w' := by
 have HWe := fun W (hb : Below w.heap.size w W) => batWeight v s W ((hv.below hb (Nat.le_refl _)).mono hb.size) hn
 obtain ⟨Al,cl,Ai,ci,Ab,cb,rfl,-,-,hB⟩ := hv
 obtain ⟨_,_,e,hi1,hi2,hic⟩ := hB.open_
 injection e with e1 _ e2
 subst e1 e2
 have HI := Lib.hid hic
 have HD := Lib.hid (Blk.new w 26 #[.string s.name,.int .i64 s.depth,.int .i64 s.low,.int .i64 s.high,.int .i64 s.len,.slice Al s.lines.length cl,.int .i64 s.pipe,.int .i64 s.arbor,.int .i64 s.purch,.int .i64 s.most,.int .i64 s.brake,.slice Ai s.items.length ci,.slice Ab s.bricks.length cb])
 have HB1 := Lib.hid ((Below.refl _ w).alloc (Nat.le_refl _) (.cells #[.string s.name,.int .i64 s.depth,.int .i64 s.low,.int .i64 s.high,.int .i64 s.len,.slice Al s.lines.length cl,.int .i64 s.pipe,.int .i64 s.arbor,.int .i64 s.purch,.int .i64 s.most,.int .i64 s.brake,.slice Ai s.items.length ci,.slice Ab s.bricks.length cb] 26))
 have hwe := HWe _ HB1.out
 unfold maxLen at hi2
 clear HWe hn hB hic
 unfold setVal at *
 rcases Bool.eq_false_or_eq_true (setB s) with hok | hok
 ·have hb := weight_bd hok
  have hok' := setB_ok hok
  have hbr := hok'.brk
  have ha := hok'.arbor
  have HBd := Lib.hid (brickW_bd hbr.2)
  have HOne := Lib.hid fun k (hk : k < s.bricks.length) => one_bd (hbr.2 _ (List.getElem_mem hk)).1 (hbr.2 _ (List.getElem_mem hk)).2
  have h8 := hbr.1
  have v1 : IntKind.i64.wrap (weightN s + s.arbor) = weightN s + s.arbor := IntWalk.i64_in _ (by omega)
  have HZ : Hid (totalTo s 0 = weightN s + s.arbor) := by unfold Hid totalTo brickW;simp
  have Hb := Lib.hid hb
  have Ha := Lib.hid ha
  rw [if_pos hok] at hwe ⊢
  clear hok hok' hb ha hbr
  go_enter Tryz.func15,Tryz.ntmps15
  go_wp2_with (go_at_call 61;refine hwe.mono ?_;rintro e w2 ⟨rfl,hb2⟩;have HB2 := Lib.hid (HB1.out.trans (hb2.mono HB1.out.size));have HD2 := Lib.hid (HD.out.below hb2 HD.out.lt);have z7 := HD2.out.cell 7;have z12 := HD2.out.cell 12;simp only [List.getElem?_toArray,List.getElem?_cons_succ,List.getElem?_cons_zero] at z7 z12;clear hb2)
  go_loopw [23,4] (fun x t wr => ∃ k : Nat,k ≤ s.bricks.length ∧ x = .int .i64 k ∧ t = .int .i64 (totalTo s k) ∧ Below w.heap.size w wr) (fun x _ _ => s.bricks.length - (intOf x).toNat)
  case atStart => exact ⟨0,Nat.zero_le _,rfl,by rw [HZ.out],HB2.out⟩
  case round =>
   obtain ⟨k,hk,rfl,rfl,hbel⟩ := hrel
   by_cases hkl : k < s.bricks.length
   ·obtain ⟨b1,off1,rfl,hb1,hc⟩ := HI.out k hkl
    have y0 := (hbel.cell (p := ⟨b1,off1 + k * 3,none⟩) hb1).trans (hc k hkl).1
    have y1 := (hbel.cell (p := ⟨b1,off1 + k * 3 + 1,none⟩) hb1).trans (hc k hkl).2.1
    have y2 := (hbel.cell (p := ⟨b1,off1 + k * 3 + 2,none⟩) hb1).trans (hc k hkl).2.2
    have h3 := HBd.out (k + 1) hkl
    have h4 := HOne.out k hkl
    have hs0 := brickW_succ s.bricks k hkl
    have hs : totalTo s (k + 1) = totalTo s k + s.bricks[k].wt * s.bricks[k].cnt := by unfold totalTo;rw [hs0];omega
    have h5 := Hb.out
    have h6 := Ha.out
    have v0 : IntKind.i64.wrap (s.bricks[k].wt * s.bricks[k].cnt) = s.bricks[k].wt * s.bricks[k].cnt := IntWalk.i64_in _ (by omega)
    have v1 : IntKind.i64.wrap (totalTo s k + s.bricks[k].wt * s.bricks[k].cnt) = totalTo s k + s.bricks[k].wt * s.bricks[k].cnt := IntWalk.i64_in _ (by rw [← hs];unfold totalTo;omega)
    have HS := Lib.hid hs
    have hba : Below w.heap.size w (wr.alloc (.cells #[.string s.bricks[k].name,.int .i64 s.bricks[k].wt,.int .i64 s.bricks[k].cnt] 49)) := hbel.alloc hbel.size _
    have i1 : (0 : Int) ≤ (k : Int) := Int.natCast_nonneg _
    have i2 : (k : Int) < (s.bricks.length : Int) := by omega
    clear hc hs hs0 h3 h4 h5 h6
    go_wp2
    go_roundw
    case rel => exact ⟨k + 1,by omega,by go_num,by rw [HS.out],hba⟩
    case measure => simp [intOf];omega
   ·obtain rfl : k = s.bricks.length := by omega
    go_wp2
    go_ret2
    exact ⟨rfl,hbel⟩
 ·rw [if_neg (by rw [hok];simp)] at hwe ⊢
  clear hok
  go_enter Tryz.func15,Tryz.ntmps15
  go_wp2_with (go_at_call 61;refine hwe.mono ?_;rintro e w2 ⟨rfl,hb2⟩)
  go_ret2
  exact ⟨rfl,HB1.out.trans (hb2.mono HB1.out.size)⟩
end Go.Proofs.YtbhmkcjddpniiaaGreatDoor
