/- Parts of the proof, laid into one text: GridB, Rep2, GridQ, GridM, Rep2W, RegR. -/
import Derived.BigQuiet
import Derived.Deep.AppendLies
import Derived.Deep.DeepCutAuto
import Derived.Deep.Draws
import Derived.Deep.LoopGhost
import Derived.Deep.QuietTactic
import Derived.Deep.RegionLaw
import Derived.IntWalk
import Derived.Laws.Bits64b
import Derived.Laws.CopyOwn
import Derived.Laws.CopyRow
import Derived.Lib.Hide
import Derived.LoopIn
import Derived.LoopNIn
import Derived.Maps.AppendAt
import Derived.Outline
import Derived.OwnWalkIn
import Derived.PlainAid
import Derived.RangeFuncBox
import Derived.RangeFuncLeaves
import Derived.Shelf.Abstract
import Derived.Shelf.Bits.Mul64
import Derived.Shelf.Strconv.Itoa3
import Derived.StillTail
import Derived.StillTailTactics
import Derived.TacticsInMore
import Derived.Test.YtknkhnahflmjiaaGreatDoorB1
import Derived.Test.YtknkhnahflmjiaaGreatDoorE1
import Derived.Test.YtknkhnahflmjiaaGreatDoorE2
import Derived.Test.YtknkhnahflmjiaaGreatDoorE3
import Derived.Test.YtknkhnahflmjiaaGreatDoorE4
import Derived.Test.YtknkhnahflmjiaaGreatDoorE6
import Derived.Test.YtknkhnahflmjiaaGreatDoorE7
import Derived.Test.YtknkhnahflmjiaaGreatDoorF1
import Derived.Test.YtknkhnahflmjiaaGreatDoorH1
import Derived.Test.YtknkhnahflmjiaaGreatDoorH3
import Derived.Test.YtknkhnahflmjiaaGreatDoorH5
import Derived.Test.YtknkhnahflmjiaaGreatDoorH7
import Derived.Test.YtknkhnahflmjiaaGreatDoorP1
import Derived.Test.YtknkhnahflmjiaaGreatDoorProg
import Derived.WalkKit
import Derived.WalkLawsBesides
import Derived.WalkSpells

namespace Go.Proofs.YtknkhnahflmjiaaGreatDoor
open Go.RowKit Go.Shelf
attribute [local go_sem] Oper.semAt_some
def idxF (l : List RoofT) (d : Int) (k : Nat) : List (Fin l.length) := ((List.finRange l.length).take k).filter fun i => hangB d l[i.val]
theorem finRange_snoc {n k : Nat} (h : k < n) : (List.finRange n).take (k + 1) = (List.finRange n).take k ++ [⟨k,h⟩] := by
 rw [take_snoc _ k (by rw [List.length_finRange];exact h),List.getElem_finRange]
 rfl
theorem idxF_yes {l : List RoofT} {d : Int} {k : Nat} (hk : k < l.length) (h : hangB d l[k] = true) : idxF l d (k + 1) = idxF l d k ++ [⟨k,hk⟩] := by
 unfold idxF
 rw [finRange_snoc hk,List.filter_append,List.filter_cons,List.filter_nil,if_pos h]
theorem idxF_no {l : List RoofT} {d : Int} {k : Nat} (hk : k < l.length) (h : hangB d l[k] = false) : idxF l d (k + 1) = idxF l d k := by
 unfold idxF
 rw [finRange_snoc hk,List.filter_append,List.filter_cons,List.filter_nil,if_neg (by show ¬ hangB d l[k] = true;rw [h];decide),List.append_nil]
theorem idxF_len (l : List RoofT) (d : Int) : ∀ k,k ≤ l.length → (idxF l d k).length = hungTo l d k
 | 0,_ => rfl
 | k + 1,h => by
  have ih := idxF_len l d k (by omega)
  have hk : k < l.length := by omega
  cases hh : hangB d l[k] with
  | true => rw [idxF_yes hk hh,hungTo_yes hk hh,List.length_append,ih];rfl
  | false => rw [idxF_no hk hh,hungTo_no hk hh,ih]
theorem idxF_all (l : List RoofT) (d : Int) : (idxF l d l.length).length = cntR l d := by rw [idxF_len l d _ (Nat.le_refl _),hungTo_all]
def OverK (n₀ Bl Bd : Nat) (W W' : World) : Prop := Below n₀ W W' ∧ (∀ v,W.cell? ⟨Bl,0,none⟩ = some v → W'.cell? ⟨Bl,0,none⟩ = some v) ∧ ∀ v,W.cell? ⟨Bd,0,none⟩ = some v → W'.cell? ⟨Bd,0,none⟩ = some v
theorem overK_t {n₀ Bl Bd : Nat} {A B C : World} (h : OverK n₀ Bl Bd A B) (k : OverK n₀ Bl Bd B C) : OverK n₀ Bl Bd A C := ⟨h.1.trans k.1,fun v hv => k.2.1 v (h.2.1 v hv),fun v hv => k.2.2 v (h.2.2 v hv)⟩
theorem cell_ltG {w : World} {a : Addr} {v : Value} (h : w.cell? a = some v) : a.block < w.heap.size := by
 unfold World.cell? at h
 cases hg : w.heap[a.block]? with
 | none => simp [hg] at h
 | some o => exact (Array.getElem?_eq_some_iff.1 hg).1
theorem cell_alloc1 {w : World} {p : Addr} {v : Value} (o : Obj) (h : w.cell? p = some v) : (w.alloc o).cell? p = some v := by
 have hlt := cell_ltG h
 exact ((Below.refl w.heap.size w).alloc (Nat.le_refl _) o |>.cell hlt).trans h
theorem overK_alloc {n₀ Bl Bd : Nat} {W : World} (h : n₀ ≤ W.heap.size) (o : Obj) : OverK n₀ Bl Bd W (W.alloc o) := ⟨(Below.refl _ W).alloc h o,fun _ hv => cell_alloc1 o hv,fun _ hv => cell_alloc1 o hv⟩
set_option maxRecDepth 100000 in
set_option maxHeartbeats 4000000 in
theorem over1_in (F : Fence) (n : Nat) (h7 : F.fn 218) (hro : F.round = none) (hn : 1 ≤ n) (l Bl Bd n₀ : Nat) (rl : List RoofT) (d : Int) (A : Option Addr) (c : Nat) (hlen : rl.length ≤ 20) (J Jx : List (Fin rl.length) → World → Prop) (N0 : Nat) (hJ : AbidesFrom N0 J)
  (hY : ∀ pre x W,J pre W → pre.length < rl.length → YieldAt F (n - 1) Tryz.prog l #[.int .i64 (x.val : Int)] W fun e W' =>
   (e = .returned (.bool true) ∧ J (pre ++ [x]) W' ∧ OverK n₀ Bl Bd W W') ∨ (e = .returned (.bool false) ∧ Jx (pre ++ [x]) W'))
  (W : World) (hBl : W.cell? ⟨Bl,0,none⟩ = some (.slice A rl.length c)) (hBd : W.cell? ⟨Bd,0,none⟩ = some (.int .i64 d)) (hR : RoofsAt W n₀ (.slice A rl.length c) rl) (hn₀ : n₀ ≤ W.heap.size) (h0 : J [] W) :
  CallsIn F n Tryz.prog 218 #[.func (.yield l) #[] #[],.pointer (some ⟨Bl,0,none⟩),.pointer (some ⟨Bd,0,none⟩)] W fun e W' => (∃ v,e = .returned v) ∧
   ((∃ ys,ys = idxF rl d rl.length ∧ J ys W') ∨ (∃ pre,(∃ k,k ≤ rl.length ∧ pre = idxF rl d k) ∧ Jx pre W')) := by
 obtain ⟨_,_,e,g1,g2,hcell⟩ := hR.open_
 injection e with e1 _ e2
 subst e1 e2
 have HC := Lib.hid hcell
 have HY := Lib.hid hY
 have HJ := Lib.hid hJ
 have Hn := Lib.hid hn₀
 clear hcell hY hJ hn₀ hR
 unfold maxLen at g2
 refine callsIn_of_wp Tryz.func218 rfl h7 ?_ hro
 simp only [Tryz.ntmps218,List.size_toArray,List.length_cons,List.length_nil,Nat.reduceAdd,Nat.reduceSub,Array.replicate_succ,Array.replicate_zero,List.push_toArray,List.append_toArray,List.nil_append,List.cons_append]
 gi_wp2
 gi_loopw [8] (fun i wr => ∃ k : Nat,k ≤ rl.length ∧ i = .int .i64 (k : Int) ∧ J (idxF rl d k) wr ∧ Hid (OverK n₀ Bl Bd W wr)) (fun i _ => rl.length - (intOf i).toNat)
 case atStart => exact ⟨0,Nat.zero_le _,rfl,h0,⟨Below.refl _ _,fun _ h => h,fun _ h => h⟩⟩
 case round =>
  obtain ⟨k,hk,rfl,hJs,HK⟩ := hrel
  have k0 : (0 : Int) ≤ (k : Int) := Int.natCast_nonneg _
  by_cases hkl : k < rl.length
  ·have k1 : (k : Int) < (rl.length : Int) := by omega
   obtain ⟨b,o,rfl,hb,hcs⟩ := HC.out k hkl
   obtain ⟨x0,x1,x2,x3⟩ := hcs k hkl
   have x0 := (HK.out.1.cell (p := ⟨b,o + k * 4,none⟩) hb).trans x0
   have x1 := (HK.out.1.cell (p := ⟨b,o + k * 4 + 1,none⟩) hb).trans x1
   have x2 := (HK.out.1.cell (p := ⟨b,o + k * 4 + 2,none⟩) hb).trans x2
   have x3 := (HK.out.1.cell (p := ⟨b,o + k * 4 + 3,none⟩) hb).trans x3
   have HYes := Lib.hid fun h => idxF_yes (d := d) hkl h
   have HNo := Lib.hid fun h => idxF_no (d := d) hkl h
   have HLn : Hid ((idxF rl d k).length < rl.length) := by
    have h1 := idxF_len rl d k hk
    have h2 := hungTo_le rl d k
    unfold Hid
    omega
   have HHg : Hid (hangB d rl[k] = (decide (rl[k].lo ≤ d) && decide (d ≤ rl[k].hi))) := rfl
   clear hcs
   generalize rl[k] = x at *
   obtain ⟨nm,lo,hi,most⟩ := x
   simp only at x0 x1 x2 x3 HHg
   have HD := Lib.hid (Blk.new wr 69 #[.string nm,.int .i64 lo,.int .i64 hi,.int .i64 most])
   have HJ' := HJ.out _ _ _ none hJs (World.grownBy_alloc wr (.cells #[.string nm,.int .i64 lo,.int .i64 hi,.int .i64 most] 69) none) (fun r e => by cases e)
   have HK' := Lib.hid (overK_t HK.out (overK_alloc (Nat.le_trans Hn.out HK.out.1.size) (.cells #[.string nm,.int .i64 lo,.int .i64 hi,.int .i64 most] 69)))
   have y1 := HD.out.cell 1
   have y2 := HD.out.cell 2
   simp only [List.getElem?_toArray,List.getElem?_cons_succ,List.getElem?_cons_zero] at y1 y2
   have bd := HK'.out.2.2 _ hBd
   clear hJs
   by_cases p1 : lo ≤ d
   ·have q1 : decide (lo ≤ d) = true := decide_eq_true p1
    by_cases p2 : d ≤ hi
    ·have q2 : decide (d ≤ hi) = true := decide_eq_true p2
     have HP := Lib.hid (HYes.out (by rw [HHg.out,q1,q2];rfl))
     obtain ⟨fn,tmps,assign,body,hy,hR⟩ := HY.out _ ⟨k,hkl⟩ _ HJ' HLn.out
     dsimp only at hy
     clear p1 p2 HYes HNo HHg HJ'
     gi_wp2
     refine hR.mono ?_
     rintro e W3 (⟨rfl,hJ3,hk3⟩ | ⟨rfl,hJx3⟩)
     ·have HK3 := Lib.hid (overK_t HK'.out hk3)
      clear hk3 bd y1 y2 x0 x1 x2 x3 HD
      gi_wp2
      go_roundw
      case rel => exact ⟨k + 1,by omega,by go_num,by rw [HP.out];exact hJ3,HK3⟩
      case measure => simp [intOf];omega
     ·gi_wp2
      refine bodyPost_ret (results_none rfl _ _ _) rfl ?_
      exact ⟨⟨_,rfl⟩,.inr ⟨_,⟨k + 1,by omega,HP.out.symm⟩,hJx3⟩⟩
    ·have q2 : decide (d ≤ hi) = false := decide_eq_false p2
     have HP := Lib.hid (HNo.out (by rw [HHg.out,q1,q2];rfl))
     clear p1 p2 HYes HNo HHg
     gi_wp2
     refine ⟨fun _ h => (by cases h),?_⟩
     gi_wp2
     go_roundw
     case rel => exact ⟨k + 1,by omega,by go_num,by rw [HP.out];exact HJ',HK'⟩
     case measure => simp [intOf];omega
   ·have q1 : decide (lo ≤ d) = false := decide_eq_false p1
    have HP := Lib.hid (HNo.out (by rw [HHg.out,q1];rfl))
    clear p1 HYes HNo HHg
    gi_wp2
    refine ⟨fun _ h => (by cases h),?_⟩
    gi_wp2
    go_roundw
    case rel => exact ⟨k + 1,by omega,by go_num,by rw [HP.out];exact HJ',HK'⟩
    case measure => simp [intOf];omega
  ·obtain rfl : k = rl.length := by omega
   gi_wp2
   go_end0
   exact ⟨⟨_,rfl⟩,.inl ⟨_,rfl,hJs⟩⟩
theorem over_stops (F : Fence) (n : Nat) (h7 : F.fn 218) (hro : F.round = none) (hn : 1 ≤ n) (Bl Bd n₀ : Nat) (rl : List RoofT) (d : Int) (A : Option Addr) (c : Nat) (hlen : rl.length ≤ 20) (w : World) (hBl : w.cell? ⟨Bl,0,none⟩ = some (.slice A rl.length c)) (hBd : w.cell? ⟨Bd,0,none⟩ = some (.int .i64 d)) (hR : RoofsAt w n₀ (.slice A rl.length c) rl) (hn₀ : n₀ ≤ w.heap.size) :
  SeqStopsK F n Tryz.prog 218 #[.pointer (some ⟨Bl,0,none⟩),.pointer (some ⟨Bd,0,none⟩)] (fun x : Fin rl.length => #[Value.int .i64 (x.val : Int)]) (OverK n₀ Bl Bd) (fun ys => ys = idxF rl d rl.length) (fun pre => ∃ k,k ≤ rl.length ∧ pre = idxF rl d k) rl.length w := fun l J Jx W hW hJ _ hY h0 =>
 over1_in F n h7 hro hn l Bl Bd n₀ rl d A c hlen J Jx _ hJ hY W ((hW.cell (p := ⟨Bl,0,none⟩) (cell_ltG hBl)).trans hBl) ((hW.cell (p := ⟨Bd,0,none⟩) (cell_ltG hBd)).trans hBd) (hR.below hW hn₀) (Nat.le_trans hn₀ hW.size) h0
set_option maxHeartbeats 1000000 in
theorem over_in (F : Fence) (n : Nat) (h5 : F.fn 163) (hro : F.round = none) (a : Option Addr) (len cap : Nat) (d : Int) (w : World) :
  CallsIn F n Tryz.prog 163 #[.slice a len cap,.int .i64 d] w fun e w' => e = .returned (.func (.func 218) #[] #[.pointer (some ⟨w.heap.size,0,none⟩),.pointer (some ⟨w.heap.size + 1,0,none⟩)]) ∧ w' = (w.alloc (.cells #[.slice a len cap] 191)).alloc (.cells #[.int .i64 d] 3) := by
 refine callsIn_of_wp Tryz.func163 rfl h5 ?_ hro
 simp only [Tryz.ntmps163,List.size_toArray,List.length_cons,List.length_nil,Nat.reduceAdd,Nat.reduceSub,Array.replicate_succ,Array.replicate_zero,List.push_toArray,List.append_toArray,List.nil_append,List.cons_append]
 gi_wp2
 go_ret
 exact ⟨by simp,rfl⟩
theorem Blk.turn {w w' : World} {g : Nat} {t : TypeId} {cs : Array Value} (h : Blk w g t cs) {row : Option Nat} (hg : w.grownBy w' row) (hr : ∀ r,row = some r → ∃ o : Obj,w.heap[r]? = some o ∧ o.isCells = false) : Blk w' g t cs :=
 h.kept hg fun e => by
  obtain ⟨o,ho,hc⟩ := hr g e.symm
  unfold Blk at h
  rw [h] at ho
  cases ho
  cases hc
structure OvB (W : World) (Bl Bd : Nat) (v : Value) (d : Int) : Prop where
 bl : Blk W Bl 191 #[v]
 bd : Blk W Bd 3 #[.int .i64 d]
theorem OvB.turn {W W' : World} {Bl Bd : Nat} {v : Value} {d : Int} (h : OvB W Bl Bd v d) {row : Option Nat} (hg : W.grownBy W' row) (hr : ∀ r,row = some r → ∃ o : Obj,W.heap[r]? = some o ∧ o.isCells = false) : OvB W' Bl Bd v d := ⟨h.bl.turn hg hr,h.bd.turn hg hr⟩
theorem OvB.keep {W W' : World} {Bl Bd : Nat} {v : Value} {d : Int} (h : OvB W Bl Bd v d) (h' : OvB W' Bl Bd v d) : (∀ u,W.cell? ⟨Bl,0,none⟩ = some u → W'.cell? ⟨Bl,0,none⟩ = some u) ∧ ∀ u,W.cell? ⟨Bd,0,none⟩ = some u → W'.cell? ⟨Bd,0,none⟩ = some u :=
 ⟨fun u hu => by rw [h.bl.cell 0] at hu;rw [h'.bl.cell 0];exact hu,fun u hu => by rw [h.bd.cell 0] at hu;rw [h'.bd.cell 0];exact hu⟩
theorem OvB.far {W : World} {Bl Bd : Nat} {v : Value} {d : Int} (h : OvB W Bl Bd v d) {g i : Nat} (h1 : Bl ≠ g) (h2 : Bd ≠ g) (u : Value) : OvB (W.setCell ⟨g,i,none⟩ u) Bl Bd v d := ⟨h.bl.far (p := ⟨g,i,none⟩) h1 u,h.bd.far (p := ⟨g,i,none⟩) h2 u⟩
theorem over_kb {n₀ Bl Bd : Nat} {w W : World} {l : Nat} {o : Obj} (o' : Obj) (hn : n₀ ≤ w.heap.size) (hl : w.heap.size ≤ l) (ho : W.heap[l]? = some o) (hc : o.isCells = false) (hw : o.isWalk = false) : OverK n₀ Bl Bd W (W.putObj l o') :=
 ⟨belowK_b hn W l o o' hl ho hc hw,fun v hv => cell_kept hv (grownBy_putObj' W l o') (fun r e => by cases e;exact ⟨o,ho,hc⟩),fun v hv => cell_kept hv (grownBy_putObj' W l o') (fun r e => by cases e;exact ⟨o,ho,hc⟩)⟩
set_option maxRecDepth 100000 in
set_option maxHeartbeats 4000000 in
theorem gdCount_in (F : Fence) (n : Nat) (h3 : F.fn 161) (h5 : F.fn 163) (h7 : F.fn 218) (hro : F.round = none) (hn : 3 ≤ n) (rl : List RoofT) (d : Int) (A : Option Addr) (c : Nat) (hlen : rl.length ≤ 20) (w : World) (hR : RoofsAt w w.heap.size (.slice A rl.length c) rl) :
  CallsIn F n Tryz.prog 161 #[.slice A rl.length c,.int .i64 d] w fun e w' => e = .returned (.int .i64 (cntR rl d : Nat)) ∧ Below w.heap.size w w' := by
 have h1 : 1 ≤ n := by omega
 refine callsIn_of_wp_marks Tryz.func161 rfl h3 ?_ hro
 simp only [Tryz.ntmps161,List.size_toArray,List.length_cons,List.length_nil,Nat.reduceAdd,Nat.reduceSub,Array.replicate_succ,Array.replicate_zero,List.push_toArray,List.append_toArray,List.nil_append,List.cons_append]
 gi_wp2_with (gi_at_call 163;refine (over_in F (n - 1) h5 hro _ _ _ _ _).mono ?_;rintro e w' ⟨rfl,rfl⟩)
 have B1 := ((Blk.new w 3 #[.int .i64 0]).alloc (.cells #[.slice A rl.length c] 191)).alloc (.cells #[.int .i64 d] 3)
 have B2 := (Blk.new (w.alloc (.cells #[.int .i64 0] 3)) 191 #[.slice A rl.length c]).alloc (.cells #[.int .i64 d] 3)
 have B3 := Blk.new ((w.alloc (.cells #[.int .i64 0] 3)).alloc (.cells #[.slice A rl.length c] 191)) 3 #[.int .i64 d]
 have hB0 := (((Below.refl w.heap.size w).alloc (Nat.le_refl _) (.cells #[.int .i64 0] 3)).alloc (by simp) (.cells #[.slice A rl.length c] 191)).alloc (by simp;omega) (.cells #[.int .i64 d] 3)
 rw [show (w.alloc (.cells #[.int .i64 0] 3)).heap.size = w.heap.size + 1 by simp] at B2
 rw [show ((w.alloc (.cells #[.int .i64 0] 3)).alloc (.cells #[.slice A rl.length c] 191)).heap.size = w.heap.size + 1 + 1 by simp] at B3
 have hsz : (((w.alloc (.cells #[.int .i64 0] 3)).alloc (.cells #[.slice A rl.length c] 191)).alloc (.cells #[.int .i64 d] 3)).heap.size = w.heap.size + 1 + 1 + 1 := by simp
 try simp only [World.size_alloc]
 generalize ((w.alloc (.cells #[.int .i64 0] 3)).alloc (.cells #[.slice A rl.length c] 191)).alloc (.cells #[.int .i64 d] 3) = W4 at *
 have hStops := over_stops F (n - 1) h7 hro (by omega) (w.heap.size + 1) (w.heap.size + 1 + 1) w.heap.size rl d A c hlen W4 (by rw [B2.cell];rfl) (by rw [B3.cell];rfl) (hR.below hB0 (Nat.le_refl _)) hB0.size
 refine wpIn_rangeFunc_ownG hro h1 (gf := 218) (lb := #[.pointer (some ⟨w.heap.size + 1,0,none⟩),.pointer (some ⟨w.heap.size + 1 + 1,0,none⟩)]) rfl h7 (enters_of Tryz.func218 (by kernel_rfl) rfl)
  hStops overK_t (fun W l o o' hl ho hc hw => over_kb o' (by omega) hl ho hc hw) (Below.refl _ _) (fun _ => rfl)
  (fun pre W => (Blk W w.heap.size 3 #[.int .i64 (pre.length : Int)] ∧ OvB W (w.heap.size + 1) (w.heap.size + 1 + 1) (.slice A rl.length c) d) ∧ Below w.heap.size w W)
  (fun _ _ _ => False)
  (OwnFrom.and (Own.from (fun s A B row hs hg hr => ⟨hs.1.turn hg hr,hs.2.turn hg hr⟩) _) (ownFrom_below (Nat.le_refl _) (by omega)))
  (fun _ _ _ _ _ hs _ _ => hs)
  ⟨⟨B1,B2,B3⟩,hB0⟩
  (fun x => { tmps := #[.slice A rl.length c,.int .i64 d,undef,undef,.int .i64 0,.pointer (some ⟨w.heap.size,0,none⟩),.slice A rl.length c,.int .i64 d,.func (.func 218) #[] #[.pointer (some ⟨w.heap.size + 1,0,none⟩),.pointer (some ⟨w.heap.size + 1 + 1,0,none⟩)],.int .i64 (x.val : Int),undef,undef,undef],defers := [] }) ?assign ?body ?done ?stop
 case assign =>
  intro l x W K hK
  gi_wp2
  first | exact hK | simpa using hK
 case body =>
  rintro l pre x W ⟨⟨hN,hO⟩,hB⟩ hlt
  have c0 := hN.cell 0
  have f0 := hN.frozen 0
  simp only [List.getElem?_toArray,List.getElem?_cons_zero] at c0
  have HN := Lib.hid hN
  have HO := Lib.hid hO
  have HB := Lib.hid hB
  have hp : (pre.length : Int) ≤ 20 := by omega
  clear hN hO hB hStops
  gi_wp2
  have hN2 := HN.out.set_ 0 (.int .i64 ((pre.length : Int) + 1))
  have hO2 := HO.out.far (g := w.heap.size) (i := 0) (by omega) (by omega) (.int .i64 ((pre.length : Int) + 1))
  have hB2 := (Below.refl w.heap.size W).setCell (p := ⟨w.heap.size,0,none⟩) (Nat.le_refl _) (.int .i64 ((pre.length : Int) + 1))
  refine ⟨(KeepsOthers.setCell W ⟨w.heap.size,0,none⟩ (.int .i64 ((pre.length : Int) + 1))).from _,⟨hB2,(HO.out.keep hO2).1,(HO.out.keep hO2).2⟩,⟨?_,hO2⟩,HB.out.trans hB2⟩
  rw [List.length_append]
  exact hN2
 case done =>
  rintro D ys W hD rfl ⟨⟨hN,hO⟩,hB⟩ hK
  have c0 := hN.cell 0
  simp only [List.getElem?_toArray,List.getElem?_cons_zero] at c0
  rw [idxF_all] at c0
  have HB := Lib.hid hB
  have HK := Lib.hid hK
  clear hN hO hB hK hStops
  gi_wp2
  refine ⟨by simp,.inl ⟨_,_,rfl,run_takeDeferred HK.out,?_⟩⟩
  exact ⟨_,results_tmp rfl _ _ _,rfl,HB.out.trans (belowK_b (w := W4) (by omega) W D _ (.deferred none) (by omega) HK.out rfl rfl)⟩
 case stop =>
  rintro D c pre W _ _ h _
  exact h.elim
theorem gdCount (rl : List RoofT) (d : Int) (A : Option Addr) (c : Nat) (hlen : rl.length ≤ 20) (w : World) (hR : RoofsAt w w.heap.size (.slice A rl.length c) rl) :
  Calls Tryz.prog 161 #[.slice A rl.length c,.int .i64 d] w fun e w' => e = .returned (.int .i64 (cntR rl d : Nat)) ∧ Below w.heap.size w w' :=
 callsIn_wide.1 (gdCount_in Fence.wide 3 trivial trivial trivial rfl (Nat.le_refl _) rl d A c hlen w hR)
end Go.Proofs.YtknkhnahflmjiaaGreatDoor

namespace Go.Proofs.YtknkhnahflmjiaaGreatDoor
open Go.RowKit Go.Shelf
theorem run_copy_row2 {P : Program} (w : World) (dT sT ty elem : TypeId) (g o dLen dCap : Nat) (a : Addr) (sLen sCap n : Nat) (cur : Array Value) (t : TypeId) (cs : List Value)
  (hu : P.underlying dT = some (.slice elem)) (hs : (P.info? elem).map (·.size) = some 2)
  (hg : w.heap[g]? = some (.cells cur t (0,0))) (hm : Nat.min sLen dLen = n) (hn : cs.length = n * 2)
  (hsrc : ∀ j v,cs[j]? = some v → w.cell? (a.add j) = some v) (hfit : o + cs.length ≤ cur.size) (h1 : ∀ v ∈ cs,v.oneCell' = true) :
  (Builtin.copy_ #[dT,sT] ty #[.slice (some ⟨g,o,none⟩) dLen dCap,.slice (some a) sLen sCap]).run P w =
   .ok (goInt n) (w.setRow g (cur.toList.take o ++ cs ++ cur.toList.drop (o + cs.length)).toArray) := by
 have hl := run_loadCells_list (P := P) w a cs hsrc
 have hst := run_storeCells_at P g o t cs 0 cur w hg (by simpa using hfit) h1
 cases hq : P.info? elem with
 | none => simp [hq] at hs
 | some i =>
  have hi : i.size = 2 := by simpa [hq] using hs
  simp [Builtin.copy_,run_underlying hu,Builtin.lenOf,Builtin.firstCells,sizeOf,typeInfo,hq,hi,hm,← hn,hl,hst]
theorem wpList_copy2 {P : Program} {w : World} {ops : Array Oper} {rest : List Oper} {o : Oper} {a : Act} {Q : Exit → Act → World → Prop} (hgd : o.guard = none) (d s : Operand) (dT sT : TypeId)
  (ho : o.op = .call { callee := .builtin .copy,args := #[d,s],argTypes := #[dT,sT] }) (elem : TypeId) (hu : P.underlying dT = some (.slice elem)) (hsz : (P.info? elem).map (·.size) = some 2)
  (g off dLen dCap : Nat) (ad : Addr) (sLen sCap n : Nat) (hd : a.eval d = .slice (some ⟨g,off,none⟩) dLen dCap) (hs : a.eval s = .slice (some ad) sLen sCap)
  (cur : List Value) (t : TypeId) (hg : w.heap[g]? = some (.cells cur.toArray t (0,0))) (cs : List Value) (hm : Nat.min sLen dLen = n) (hn : cs.length = n * 2)
  (hsrc : ∀ j v,cs[j]? = some v → w.cell? (ad.add j) = some v) (hfit : off + cs.length ≤ cur.length) (h1 : ∀ v ∈ cs,v.oneCell' = true) (B : Nat) (w0 : World) (hb : Below B w0 w) (hBg : B ≤ g)
  (h : ∀ w',Hid (w'.heap[g]? = some (.cells (splice cur off cs).toArray t (0,0))) → Below B w0 w' → wpList P ops Q rest (a.put o.dst (goInt n)) w') : wpList P ops Q (o :: rest) a w := by
 refine wpList_plain hgd fun K hK => ?_
 have hrun := run_copy_row2 (P := P) w dT sT o.type elem g off dLen dCap ad sLen sCap n cur.toArray t cs hu hsz hg hm hn hsrc (by simpa using hfit) h1
 unfold Oper.wp
 simp [execOp,ho,resolve,invoke,builtin,hd,hs,hrun,Result.andThen]
 refine hK _ _ (h _ (show _ = _ from ?_) (below_setRow hb hBg _))
 simpa [splice] using setRow_heap w g _ _ t _ hg
theorem step_copy2 {P : Program} {ops : Array Oper} {o : Oper} {a : Act} {w : World} {K : Act → World → Prop} {Q : Exit → Act → World → Prop} {E : Prop} (hgd : o.guard = none) (d s : Operand) (dT sT : TypeId)
  (ho : o.op = .call { callee := .builtin .copy,args := #[d,s],argTypes := #[dT,sT] }) (elem : TypeId) (hu : P.underlying dT = some (.slice elem)) (hsz : (P.info? elem).map (·.size) = some 2)
  (g off dLen dCap : Nat) (ad : Addr) (sLen sCap n : Nat) (hd : a.eval d = .slice (some ⟨g,off,none⟩) dLen dCap) (hs : a.eval s = .slice (some ad) sLen sCap)
  (cur : List Value) (t : TypeId) (hg : w.heap[g]? = some (.cells cur.toArray t (0,0))) (cs : List Value) (hm : Nat.min sLen dLen = n) (hn : cs.length = n * 2)
  (hsrc : ∀ j v,cs[j]? = some v → w.cell? (ad.add j) = some v) (hfit : off + cs.length ≤ cur.length) (h1 : ∀ v ∈ cs,v.oneCell' = true) (B : Nat) (w0 : World) (hb : Below B w0 w) (hBg : B ≤ g)
  (h : ∀ w',Hid (w'.heap[g]? = some (.cells (splice cur off cs).toArray t (0,0))) → Below B w0 w' → K (a.put o.dst (goInt n)) w') :
  if Region.wanted o (yielded ops a.tmps) = true then Oper.wp P o a w K Q else E := by
 have hw : Region.wanted o (yielded ops a.tmps) = true := by simp [Region.wanted,hgd]
 rw [if_pos hw]
 have hrun := run_copy_row2 (P := P) w dT sT o.type elem g off dLen dCap ad sLen sCap n cur.toArray t cs hu hsz hg hm hn hsrc (by simpa using hfit) h1
 unfold Oper.wp
 simp [execOp,ho,resolve,invoke,builtin,hd,hs,hrun,Result.andThen]
 refine h _ (show _ = _ from ?_) (below_setRow hb hBg _)
 simpa [splice] using setRow_heap w g _ _ t _ hg
theorem mulR (n : Nat) (w : World) (h : n ≤ 20) : Calls Tryz.prog 217 #[.int .u64 1,.int .u64 n] w fun e w' => e = .returned (.tuple #[.int .u64 0,.int .u64 n]) ∧ w = w' := by
 have hM := bitsMul64 1 n (by decide) (by omega) w
 rw [Nat.one_mul,Nat.div_eq_of_lt (by omega),Nat.mod_eq_of_lt (by omega)] at hM
 go_enter Tryz.func217,Tryz.ntmps217
 go_wp2_with (go_at_call 99;refine hM.mono ?_;rintro e w1 ⟨rfl,rfl⟩)
 refine bodyPost_ret (results_tmp2 rfl _ _ _) (by rfl) ?_
 exact ⟨rfl,rfl⟩
def partF (x : FrT) (k n : Nat) : List FrT := List.replicate k x ++ List.replicate (n - k) ⟨0,0⟩
def cellsF (l : List FrT) : List Value := l.flatMap FrT.cells
theorem cellsF_len (l : List FrT) : (cellsF l).length = l.length * 2 := by
 unfold cellsF
 induction l with
 | nil => rfl
 | cons t l ih => rw [List.flatMap_cons,List.length_append,ih,List.length_cons];simp only [FrT.cells,List.length_cons,List.length_nil];omega
theorem cellsF_app (l m : List FrT) : cellsF (l ++ m) = cellsF l ++ cellsF m := by
 unfold cellsF
 rw [List.flatMap_append]
theorem partF_len {x : FrT} {k n : Nat} (h : k ≤ n) : (partF x k n).length = n := by
 unfold partF
 rw [List.length_append,List.length_replicate,List.length_replicate]
 omega
theorem partF_get {x : FrT} {k n m j : Nat} {v : Value} (hm : m ≤ k) (h : (cellsF (List.replicate m x))[j]? = some v) : (cellsF (partF x k n))[j]? = some v := by
 have e : partF x k n = List.replicate m x ++ (List.replicate (k - m) x ++ List.replicate (n - k) ⟨0,0⟩) := by
  unfold partF
  rw [← List.append_assoc,List.replicate_append_replicate,show m + (k - m) = k by omega]
 rw [e,cellsF_app,List.getElem?_append_left (List.getElem?_eq_some_iff.1 h).1]
 exact h
theorem partF_splice {x : FrT} {k m n : Nat} (h : k + m ≤ n) : splice (cellsF (partF x k n)) (k * 2) (cellsF (List.replicate m x)) = cellsF (partF x (k + m) n) := by
 have e1 : cellsF (partF x k n) = cellsF (List.replicate k x) ++ (cellsF (List.replicate m ⟨0,0⟩) ++ cellsF (List.replicate (n - (k + m)) ⟨0,0⟩)) := by
  unfold partF
  rw [cellsF_app,← cellsF_app (List.replicate m _),List.replicate_append_replicate,show m + (n - (k + m)) = n - k by omega]
 have e2 : cellsF (partF x (k + m) n) = cellsF (List.replicate k x) ++ (cellsF (List.replicate m x) ++ cellsF (List.replicate (n - (k + m)) ⟨0,0⟩)) := by
  unfold partF
  rw [← List.replicate_append_replicate (n := k),List.append_assoc,cellsF_app,cellsF_app]
 have l1 : (cellsF (List.replicate k x)).length = k * 2 := by rw [cellsF_len,List.length_replicate]
 have l2 : (cellsF (List.replicate m (⟨0,0⟩ : FrT))).length = m * 2 := by rw [cellsF_len,List.length_replicate]
 have l3 : (cellsF (List.replicate m x)).length = m * 2 := by rw [cellsF_len,List.length_replicate]
 rw [e1,e2]
 unfold splice
 rw [l3]
 congr 1
 ·rw [← l1,List.take_left]
 ·congr 1
  rw [← List.append_assoc,List.drop_left' (by rw [List.length_append,l1,l2])]
theorem partF_zero (x : FrT) (n : Nat) : partF x 0 n = List.replicate n ⟨0,0⟩ := by unfold partF;rw [List.replicate_zero,List.nil_append,Nat.sub_zero]
theorem partF_full (x : FrT) (n : Nat) : partF x n n = List.replicate n x := by unfold partF;rw [Nat.sub_self,List.replicate_zero,List.append_nil]
theorem cells_zero (n : Nat) : cellsF (List.replicate n ⟨0,0⟩) = List.replicate (n * 2) (.int .i64 0) := by
 induction n with
 | zero => rfl
 | succ n ih =>
  rw [List.replicate_succ,show (⟨0,0⟩ : FrT) :: List.replicate n ⟨0,0⟩ = [⟨0,0⟩] ++ List.replicate n ⟨0,0⟩ from rfl,cellsF_app,ih,show (n + 1) * 2 = 2 + n * 2 by omega,← List.replicate_append_replicate]
  rfl
theorem made_fr (n : Nat) : (madeCells (Value.cells (.agg #[.int .i64 0,.int .i64 0])) (n * 2)).toList = cellsF (List.replicate n ⟨0,0⟩) := by
 rw [cells_zero]
 apply List.ext_getElem
 ·simp [size_madeCells]
 ·intro i h1 h2
  rw [List.getElem_replicate]
  rcases (show i % 2 = 0 ∨ i % 2 = 1 by omega) with h | h <;> simp [madeCells,Value.cells,h]
theorem partF_one {w : World} {b : Nat} {x : FrT} {m : Nat} (hm : m ≤ 1) (T : TypeId) (h : Blk w b T #[.int .i64 x.num,.int .i64 x.den]) : ∀ (j : Nat) (v : Value),(cellsF (List.replicate m x))[j]? = some v → w.cell? ((Addr.mk b 0 none).add j) = some v := fun j v hv => by
 have e : (Addr.mk b 0 none).add j = ⟨b,j,none⟩ := by
  unfold Addr.add
  split
  ·rename_i h;subst h;rfl
  ·simp
 rw [e,h.cell]
 have := partF_get (n := 1) hm hv
 rw [partF_full] at this
 rw [List.getElem?_toArray]
 exact this
theorem cellsF_one (l : List FrT) : ∀ y ∈ cellsF l,y.oneCell' = true := fun y hy => by
 unfold cellsF at hy
 rw [List.mem_flatMap] at hy
 obtain ⟨x,-,hx⟩ := hy
 simp only [FrT.cells,List.mem_cons,List.not_mem_nil,or_false] at hx
 rcases hx with rfl | rfl <;> rfl
end Go.Proofs.YtknkhnahflmjiaaGreatDoor

namespace Go.Proofs.YtknkhnahflmjiaaGreatDoor
open Go.RowKit Go.Shelf
theorem cellsF_get (Q : List FrT) (j i : Nat) (hj : j < Q.length) (hi : i < 2) : (cellsF Q)[j * 2 + i]? = Q[j].cells[i]? := fr_get Q j i hj hi
theorem cellsF_set : ∀ (Q : List FrT) (j : Nat) (a b : Int),((cellsF Q).set (j * 2) (.int .i64 a)).set (j * 2 + 1) (.int .i64 b) = cellsF (Q.set j ⟨a,b⟩)
 | [],j,a,b => rfl
 | q :: Q,0,a,b => rfl
 | q :: Q,j + 1,a,b => by
  have ih := cellsF_set Q j a b
  have e : ∀ (q : FrT) (Q : List FrT),cellsF (q :: Q) = .int .i64 q.num :: .int .i64 q.den :: cellsF Q := fun _ _ => rfl
  rw [List.set_cons_succ,e,e,← ih,show (j + 1) * 2 = j * 2 + 1 + 1 by omega,List.set_cons_succ,List.set_cons_succ,List.set_cons_succ,List.set_cons_succ]
theorem cellsF_setA (Q : List FrT) (j : Nat) (a b : Int) : (((cellsF Q).toArray.setIfInBounds (j * 2) (.int .i64 a)).setIfInBounds (j * 2 + 1) (.int .i64 b)) = (cellsF (Q.set j ⟨a,b⟩)).toArray := by
 rw [List.setIfInBounds_toArray,List.setIfInBounds_toArray,cellsF_set]
def stageP (l : List RoofT) (at_ : List LoadT) (k : Nat) (pre : List (Fin l.length)) : List FrT := (List.finRange l.length).map fun i => if i ∈ pre then frOf (bearTo l at_ l[i.val] (k + 1)) else frOf (bearTo l at_ l[i.val] k)
theorem stageP_len (l : List RoofT) (at_ : List LoadT) (k : Nat) (pre : List (Fin l.length)) : (stageP l at_ k pre).length = l.length := by unfold stageP;rw [List.length_map,List.length_finRange]
theorem stageP_get (l : List RoofT) (at_ : List LoadT) (k : Nat) (pre : List (Fin l.length)) (i : Fin l.length) (h : i.val < (stageP l at_ k pre).length) : (stageP l at_ k pre)[i.val] = if i ∈ pre then frOf (bearTo l at_ l[i.val] (k + 1)) else frOf (bearTo l at_ l[i.val] k) := by
 simp only [stageP,List.getElem_map,List.getElem_finRange,Fin.cast_mk,Fin.eta]
def stageL (l : List RoofT) (at_ : List LoadT) (k : Nat) : List FrT := l.map fun r => frOf (bearTo l at_ r k)
theorem stageL_len (l : List RoofT) (at_ : List LoadT) (k : Nat) : (stageL l at_ k).length = l.length := List.length_map _
theorem stage_ext {l : List RoofT} {A B : List FrT} (ha : A.length = l.length) (hb : B.length = l.length) (h : ∀ i : Fin l.length,A[i.val]'(by have := i.isLt;omega) = B[i.val]'(by have := i.isLt;omega)) : A = B := by
 apply List.ext_getElem (ha.trans hb.symm)
 intro i h1 h2
 exact h ⟨i,by omega⟩
theorem stageP_nil (l : List RoofT) (at_ : List LoadT) (k : Nat) : stageP l at_ k [] = stageL l at_ k := stage_ext (stageP_len l at_ k []) (stageL_len l at_ k) fun i => by
 rw [stageP_get,if_neg (by simp)]
 simp only [stageL,List.getElem_map]
theorem mem_idxF {l : List RoofT} {d : Int} {i : Fin l.length} : i ∈ idxF l d l.length ↔ hangB d l[i.val] = true := by
 unfold idxF
 rw [List.mem_filter,List.take_of_length_le (by rw [List.length_finRange];exact Nat.le_refl _)]
 exact ⟨fun h => h.2,fun h => ⟨List.mem_finRange i,h⟩⟩
theorem nodup_idxF (l : List RoofT) (d : Int) (k : Nat) : (idxF l d k).Nodup := ((List.nodup_finRange _).sublist (List.take_sublist _ _)).filter _
theorem stageP_all {l : List RoofT} {at_ : List LoadT} {k : Nat} (hk : k < at_.length) : stageP l at_ k (idxF l at_[k].pos l.length) = stageL l at_ (k + 1) := stage_ext (stageP_len l at_ k _) (stageL_len l at_ (k + 1)) fun i => by
 rw [stageP_get]
 simp only [stageL,List.getElem_map]
 cases h : hangB at_[k].pos l[i.val] with
 | true => rw [if_pos (mem_idxF.2 h)]
 | false => rw [if_neg (fun h2 => by rw [mem_idxF.1 h2] at h;cases h),bear_no hk h]
theorem stageP_snoc (l : List RoofT) (at_ : List LoadT) (k : Nat) (pre : List (Fin l.length)) (x : Fin l.length) : stageP l at_ k (pre ++ [x]) = (stageP l at_ k pre).set x.val (frOf (bearTo l at_ l[x.val] (k + 1))) := stage_ext (stageP_len l at_ k _) (by rw [List.length_set];exact stageP_len l at_ k pre) fun i => by
 rw [stageP_get,List.getElem_set]
 by_cases h : x = i
 ·subst h
  rw [if_pos (by simp),if_pos rfl]
 ·rw [if_neg (show ¬ x.val = i.val from fun e => h (Fin.ext e)),stageP_get]
  have : i ∈ pre ++ [x] ↔ i ∈ pre := by
   rw [List.mem_append,List.mem_singleton]
   exact ⟨fun h2 => h2.resolve_right (fun e => h e.symm),.inl⟩
  by_cases h3 : i ∈ pre
  ·rw [if_pos (this.2 h3),if_pos h3]
  ·rw [if_neg (fun h4 => h3 (this.1 h4)),if_neg h3]
theorem prefix_new {α : Type} {pre L : List α} {x : α} (hN : L.Nodup) (h : pre ++ [x] <+: L) : x ∉ pre ∧ x ∈ L ∧ pre <+: L := by
 have h1 := hN.sublist h.sublist
 refine ⟨fun hx => ?_,h.subset (by simp),List.IsPrefix.trans (List.prefix_append _ _) h⟩
 rw [List.nodup_append] at h1
 exact h1.2.2 x hx x (by simp) rfl
theorem stageP_at {l : List RoofT} {at_ : List LoadT} {k : Nat} (hk : k < at_.length) {pre : List (Fin l.length)} {x : Fin l.length} (h : pre ++ [x] <+: idxF l at_[k].pos l.length) (hx : x.val < (stageP l at_ k pre).length) :
  qOf ((stageP l at_ k pre)[x.val]) + qOf (frOf (shareQ l at_[k])) = bearTo l at_ l[x.val] (k + 1) := by
 obtain ⟨h1,h2,-⟩ := prefix_new (nodup_idxF l _ _) h
 rw [stageP_get,if_neg h1,q_fr,q_fr,bear_yes hk (mem_idxF.1 h2)]
theorem fit_all {l : List RoofT} {at_ : List LoadT} {k : Nat} (hk : k < at_.length) (h0 : ∀ i : Fin l.length,fitTo l at_ l[i.val] k = true) (h : ∀ i ∈ idxF l at_[k].pos l.length,fitTo l at_ l[i.val] (k + 1) = true) (i : Fin l.length) : fitTo l at_ l[i.val] (k + 1) = true := by
 cases hh : hangB at_[k].pos l[i.val] with
 | true => exact h i (mem_idxF.2 hh)
 | false => rw [fitTo_succ,h0 i,Bool.true_and,bear_no hk hh];exact fitTo_ok (h0 i)
theorem stageL_zero (l : List RoofT) (at_ : List LoadT) : stageL l at_ 0 = List.replicate l.length ⟨0,1⟩ := by
 unfold stageL
 apply List.ext_getElem (by simp)
 intro i h1 h2
 rw [List.getElem_map,List.getElem_replicate]
 rfl
theorem stageL_good {l : List RoofT} {at_ : List LoadT} {k : Nat} (h0 : ∀ i : Fin l.length,fitTo l at_ l[i.val] k = true) : ∀ q ∈ stageL l at_ k,frGood q = true := fun q hq => by
 unfold stageL at hq
 obtain ⟨r,hr,rfl⟩ := List.mem_map.1 hq
 obtain ⟨i,hi,rfl⟩ := List.mem_iff_getElem.1 hr
 exact good_q (fitTo_ok (h0 ⟨i,hi⟩))
theorem stage_go {l : List RoofT} {at_ : List LoadT} {k : Nat} (hk : k < at_.length) {pos : Int} (hpos : at_[k].pos = pos) (hfit : ∀ i : Fin l.length,fitTo l at_ l[i.val] k = true) {Q : List FrT} {pre : List (Fin l.length)} (hP : pre <+: idxF l pos l.length → Q = stageP l at_ k pre ∧ ∀ i ∈ pre,fitTo l at_ l[i.val] (k + 1) = true)
  {x : Fin l.length} (hx : x.val < Q.length) {fs q : FrT} (hfs : frOf (shareQ l at_[k]) = fs) {px py : Int} (hq : Q[x.val] = q) (hok : fracOk (qOf q + qOf fs) = true) (hp : frOf (qOf q + qOf fs) = ⟨px,py⟩) : pre ++ [x] <+: idxF l pos l.length → Q.set x.val ⟨px,py⟩ = stageP l at_ k (pre ++ [x]) ∧ ∀ i ∈ pre ++ [x],fitTo l at_ l[i.val] (k + 1) = true := fun h => by
 subst hpos hq
 obtain ⟨-,-,h3⟩ := prefix_new (nodup_idxF l _ _) h
 obtain ⟨rfl,hF⟩ := hP h3
 have hv := stageP_at hk h hx
 rw [hfs] at hv
 rw [hv] at hok hp
 refine ⟨by rw [stageP_snoc,hp],fun i hi => ?_⟩
 rcases List.mem_append.1 hi with hi | hi
 ·exact hF i hi
 ·obtain rfl := List.mem_singleton.1 hi
  rw [fitTo_succ,hfit i,hok]
  rfl
theorem stage_no {l : List RoofT} {at_ : List LoadT} {k : Nat} (hk : k < at_.length) {pos : Int} (hpos : at_[k].pos = pos) {Q : List FrT} {pre : List (Fin l.length)} (hP : pre <+: idxF l pos l.length → Q = stageP l at_ k pre ∧ ∀ i ∈ pre,fitTo l at_ l[i.val] (k + 1) = true)
  {x : Fin l.length} (hx : x.val < Q.length) {fs q : FrT} (hfs : frOf (shareQ l at_[k]) = fs) (hq : Q[x.val] = q) (hok : fracOk (qOf q + qOf fs) = false) : pre ++ [x] <+: idxF l pos l.length → ∃ i : Fin l.length,fitTo l at_ l[i.val] (k + 1) = false := fun h => by
 subst hpos hq
 obtain ⟨-,-,h3⟩ := prefix_new (nodup_idxF l _ _) h
 obtain ⟨rfl,hF⟩ := hP h3
 have hv := stageP_at hk h hx
 rw [hfs] at hv
 rw [hv] at hok
 exact ⟨x,by rw [fitTo_succ,hok,Bool.and_false]⟩
theorem stageP_allP {l : List RoofT} {at_ : List LoadT} {k : Nat} (hk : k < at_.length) {pos : Int} (hpos : at_[k].pos = pos) : stageP l at_ k (idxF l pos l.length) = stageL l at_ (k + 1) := by
 subst hpos
 exact stageP_all hk
theorem fit_allP {l : List RoofT} {at_ : List LoadT} {k : Nat} (hk : k < at_.length) {pos : Int} (hpos : at_[k].pos = pos) (h0 : ∀ i : Fin l.length,fitTo l at_ l[i.val] k = true) (h : ∀ i ∈ idxF l pos l.length,fitTo l at_ l[i.val] (k + 1) = true) (i : Fin l.length) : fitTo l at_ l[i.val] (k + 1) = true := by
 subst hpos
 exact fit_all hk h0 h i
theorem idxF_prefix (l : List RoofT) (d : Int) (k : Nat) : idxF l d k <+: idxF l d l.length := by
 unfold idxF
 rw [List.take_of_length_le (l := List.finRange l.length) (i := l.length) (by rw [List.length_finRange];exact Nat.le_refl _)]
 exact (List.take_prefix _ _).filter _
end Go.Proofs.YtknkhnahflmjiaaGreatDoor

namespace Go.Proofs.YtknkhnahflmjiaaGreatDoor
open Go.RowKit Go.Shelf
section
variable {P : Program} {ops : Array Oper} {W : World} {Φ : Nat → Option GPost}
theorem wpG_skip {K : Act → FactsT → Prop} {k : Nat} {o : Oper} {r : List Oper} {a : Act} {F : FactsT} (hw : Region.wanted o (yielded ops a.tmps) = false)
  (h : wpG P ops W Φ K (k + 1) r (a.put o.dst undef) (putF F o.dst fun _ => True)) : wpG P ops W Φ K k (o :: r) a F := by
 show gStep P ops W o (Φ k) _ a F
 unfold gStep
 rw [if_neg (by rw [hw];decide)]
 exact h
end
set_option maxRecDepth 100000 in
set_option maxHeartbeats 4000000 in
theorem raMakeS (n d : Nat) (w : World) (hn : n ≤ 67108864) (hd : 1 ≤ d) (hd2 : d ≤ 20) :
  Calls Tryz.prog 162 #[.int .i64 n,.int .i64 d] w fun e w' => e = .returned (signV false (n / n.gcd d) (d / n.gcd d)) ∧ Below w.heap.size w w' := by
 have hSn := fun W => raSize (n : Int) W (by omega) (by omega)
 have hSd := fun W => raSize (d : Int) W (by omega) (by omega)
 rw [Int.natAbs_natCast] at hSn hSd
 have hGc := fun W => raGcd n d W (by omega) (by omega)
 obtain ⟨g,hg⟩ : ∃ g,n.gcd d = g := ⟨_,rfl⟩
 have hg0 : 0 < g := by rw [← hg];exact Nat.gcd_pos_of_pos_right _ hd
 rw [hg] at hGc ⊢
 obtain ⟨p,hp⟩ : ∃ p,n / g = p := ⟨_,rfl⟩
 obtain ⟨q,hq⟩ : ∃ q,d / g = q := ⟨_,rfl⟩
 have tp : (n : Int).tdiv (g : Int) = (p : Int) := by rw [← hp];exact (Int.ofNat_tdiv _ _).symm
 have tq : (d : Int).tdiv (g : Int) = (q : Int) := by rw [← hq];exact (Int.ofNat_tdiv _ _).symm
 have lp : p ≤ 67108864 := by rw [← hp];exact Nat.le_trans (Nat.div_le_self _ _) hn
 have lq : q ≤ 20 := by rw [← hq];exact Nat.le_trans (Nat.div_le_self _ _) hd2
 rw [hp,hq]
 have Hp0 : Hid (n = 0 → p = 0) := fun h => by rw [← hp,h,Nat.zero_div]
 have hsg := fun W => raSigned false p q W
 obtain ⟨fx,fy,fz,hf⟩ := signV_form false p q
 rw [hf] at hsg ⊢
 have HSg := Lib.hid hsg
 have x1 : IntKind.u64.wrap (p : Int) = (p : Int) := by show (p : Int) % 18446744073709551616 = _;omega
 have x2 : IntKind.u64.wrap (q : Int) = (q : Int) := by show (q : Int) % 18446744073709551616 = _;omega
 have y1 : ((g : Int) == 0) = false := beq_eq_false_iff_ne.2 (by omega)
 have y3 : ¬ (g : Int) = 0 := by omega
 have z1 : ((d : Int) == 0) = false := beq_eq_false_iff_ne.2 (by omega)
 have z2 : decide ((n : Int) < 0) = false := decide_eq_false (by omega)
 have z3 : decide ((d : Int) < 0) = false := decide_eq_false (by omega)
 have D0 := Lib.hid (Blk.new w 23 #[.int .i64 0,.int .i64 0])
 have HB := Lib.hid ((Below.refl _ w).alloc (Nat.le_refl _) (.cells #[.int .i64 0,.int .i64 0] 23))
 have HSn := Lib.hid hSn
 have HSd := Lib.hid hSd
 have HGc := Lib.hid hGc
 clear hsg hf hg hp hq hSn hSd hGc
 go_enter Tryz.func162,Tryz.ntmps162
 go_upto_region 3 with fail
 generalize w.alloc (.cells #[.int .i64 0,.int .i64 0] 23) = W1 at *
 go_upto_region 5 with (first | (go_at_call 55;first | (refine (HSn.out _).mono ?_;rintro e w2 ⟨rfl,rfl⟩;clear HSn) | (refine (HSd.out _).mono ?_;rintro e w2 ⟨rfl,rfl⟩;clear HSd)) | (go_at_call 54;refine (HGc.out _).mono ?_;rintro e w3 ⟨rfl,n3,rfl⟩))
 have D0 := Lib.hid (D0.out.drewN n3)
 have HB := Lib.hid (below_drewN HB.out n3)
 generalize W1.drewN n3 = W3 at *
 clear HGc
 by_cases h0 : n = 0
 ·have m0 : ((n : Int) != 0) = false := by rw [h0];rfl
  obtain rfl := Hp0.out h0
  refine wp_region_grow 18 (fun jx => if jx = 15 then some (gV (.tuple #[.agg #[.int .i64 fx,.int .i64 fy],.int .i64 fz])) else none) (by kernel_rfl) (by kernel_rfl) ?_
  simp only [List.take_succ_cons,List.take_zero,List.drop_succ_cons,List.drop_zero]
  first | refine wpG_quiet1W (by first | rfl | go_simp) rfl rfl ?_ | refine wpG_pickW rfl (by first | rfl | go_simp) rfl ?_
  go_big_quiet_step (fail)
  refine wpQuiet_nil ?_
  first | refine wpG_quiet1W (by first | rfl | go_simp) rfl rfl ?_ | refine wpG_pickW rfl (by first | rfl | go_simp) rfl ?_
  go_big_quiet_step (fail)
  refine wpQuiet_nil ?_
  first | refine wpG_quiet1W (by first | rfl | go_simp) rfl rfl ?_ | refine wpG_pickW rfl (by first | rfl | go_simp) rfl ?_
  go_big_quiet_step (fail)
  refine wpQuiet_nil ?_
  refine wpG_skip (by first | rfl | go_simp) ?_
  simp only [Act.put,List.setIfInBounds_toArray,List.set_cons_zero,List.set_cons_succ]
  refine wpG_skip (by first | rfl | go_simp) ?_
  simp only [Act.put,List.setIfInBounds_toArray,List.set_cons_zero,List.set_cons_succ]
  refine wpG_skip (by first | rfl | go_simp) ?_
  simp only [Act.put,List.setIfInBounds_toArray,List.set_cons_zero,List.set_cons_succ]
  refine wpG_skip (by first | rfl | go_simp) ?_
  simp only [Act.put,List.setIfInBounds_toArray,List.set_cons_zero,List.set_cons_succ]
  refine wpG_skip (by first | rfl | go_simp) ?_
  simp only [Act.put,List.setIfInBounds_toArray,List.set_cons_zero,List.set_cons_succ]
  first | refine wpG_quiet1W (by first | rfl | go_simp) rfl rfl ?_ | refine wpG_pickW rfl (by first | rfl | go_simp) rfl ?_
  go_big_quiet_step (fail)
  refine wpQuiet_nil ?_
  first | refine wpG_quiet1W (by first | rfl | go_simp) rfl rfl ?_ | refine wpG_pickW rfl (by first | rfl | go_simp) rfl ?_
  go_big_quiet_step (fail)
  refine wpQuiet_nil ?_
  first | refine wpG_quiet1W (by first | rfl | go_simp) rfl rfl ?_ | refine wpG_pickW rfl (by first | rfl | go_simp) rfl ?_
  go_big_quiet_step (fail)
  refine wpQuiet_nil ?_
  first | refine wpG_quiet1W (by first | rfl | go_simp) rfl rfl ?_ | refine wpG_pickW rfl (by first | rfl | go_simp) rfl ?_
  go_big_quiet_step (fail)
  refine wpQuiet_nil ?_
  first | refine wpG_quiet1W (by first | rfl | go_simp) rfl rfl ?_ | refine wpG_pickW rfl (by first | rfl | go_simp) rfl ?_
  go_big_quiet_step (fail)
  refine wpQuiet_nil ?_
  first | refine wpG_quiet1W (by first | rfl | go_simp) rfl rfl ?_ | refine wpG_pickW rfl (by first | rfl | go_simp) rfl ?_
  go_big_quiet_step (fail)
  refine wpQuiet_nil ?_
  first | refine wpG_quiet1W (by first | rfl | go_simp) rfl rfl ?_ | refine wpG_pickW rfl (by first | rfl | go_simp) rfl ?_
  go_big_quiet_step (fail)
  refine wpQuiet_nil ?_
  refine wpG_call rfl rfl (fun w1 _ _ => ⟨57,#[.bool false,.int .u64 (0 : Nat),.int .u64 (q : Nat)],by go_simp,(HSg.out w1).mono fun _ _ ⟨he,hb⟩ => ⟨_,he,hb,rfl,trivial⟩⟩) ?_
  rintro _ rfl
  simp only [Act.put,List.setIfInBounds_toArray,List.set_cons_zero,List.set_cons_succ]
  refine wpG_quiet 2 (by kernel_rfl) (by rfl) (by decide) ?_
  simp only [List.take_succ_cons,List.take_zero,List.drop_succ_cons,List.drop_zero]
  repeat (go_big_quiet_step (fail))
  refine wpQuiet_nil ?_
  refine wpG_nil ?_
  intro w4 hb4 hF
  have D24 := D0.out.below hb4 D0.out.lt
  have HB4 := HB.out.trans (hb4.mono HB.out.size)
  have q0 := D24.cell 0
  have f0 := D24.frozen 0
  have E1 := (D24.set_ 0 (.int .i64 fx))
  have f1 := E1.frozen 1
  have E2 := E1.set_ 1 (.int .i64 fy)
  have p0 := E2.cell 0
  have p1 := E2.cell 1
  have r1 := E1.cell 1
  simp only [List.setIfInBounds_toArray,List.set_cons_zero,List.set_cons_succ] at p0 p1 r1
  simp only [List.getElem?_toArray,List.getElem?_cons_succ,List.getElem?_cons_zero] at q0 p0 p1 r1
  have HBz := Lib.hid ((HB4.setCell (p := ⟨w.heap.size,0,none⟩) (Nat.le_refl _) (.int .i64 fx)).setCell (p := ⟨w.heap.size,1,none⟩) (Nat.le_refl _) (.int .i64 fy))
  clear D24 HB4 E1 E2 HSg hF
  go_wp2_with fail
  refine bodyPost_ret (v := .tuple #[.agg #[.int .i64 fx,.int .i64 fy],.int .i64 fz]) (by simp [results,Tryz.results162,go_sem,p0,p1]) rfl ?_
  exact ⟨rfl,HBz.out⟩
 ·have m0 : ((n : Int) != 0) = true := bne_iff_ne.2 (by omega)
  refine wp_region_grow 18 (fun jx => if jx = 15 then some (gV (.tuple #[.agg #[.int .i64 fx,.int .i64 fy],.int .i64 fz])) else none) (by kernel_rfl) (by kernel_rfl) ?_
  simp only [List.take_succ_cons,List.take_zero,List.drop_succ_cons,List.drop_zero]
  first | refine wpG_quiet1W (by first | rfl | go_simp) rfl rfl ?_ | refine wpG_pickW rfl (by first | rfl | go_simp) rfl ?_
  go_big_quiet_step (fail)
  refine wpQuiet_nil ?_
  first | refine wpG_quiet1W (by first | rfl | go_simp) rfl rfl ?_ | refine wpG_pickW rfl (by first | rfl | go_simp) rfl ?_
  go_big_quiet_step (fail)
  refine wpQuiet_nil ?_
  first | refine wpG_quiet1W (by first | rfl | go_simp) rfl rfl ?_ | refine wpG_pickW rfl (by first | rfl | go_simp) rfl ?_
  go_big_quiet_step (fail)
  refine wpQuiet_nil ?_
  first | refine wpG_quiet1W (by first | rfl | go_simp) rfl rfl ?_ | refine wpG_pickW rfl (by first | rfl | go_simp) rfl ?_
  go_big_quiet_step (fail)
  refine wpQuiet_nil ?_
  first | refine wpG_quiet1W (by first | rfl | go_simp) rfl rfl ?_ | refine wpG_pickW rfl (by first | rfl | go_simp) rfl ?_
  go_big_quiet_step (fail)
  refine wpQuiet_nil ?_
  first | refine wpG_quiet1W (by first | rfl | go_simp) rfl rfl ?_ | refine wpG_pickW rfl (by first | rfl | go_simp) rfl ?_
  go_big_quiet_step (fail)
  refine wpQuiet_nil ?_
  first | refine wpG_quiet1W (by first | rfl | go_simp) rfl rfl ?_ | refine wpG_pickW rfl (by first | rfl | go_simp) rfl ?_
  go_big_quiet_step (fail)
  refine wpQuiet_nil ?_
  first | refine wpG_quiet1W (by first | rfl | go_simp) rfl rfl ?_ | refine wpG_pickW rfl (by first | rfl | go_simp) rfl ?_
  go_big_quiet_step (fail)
  refine wpQuiet_nil ?_
  first | refine wpG_quiet1W (by first | rfl | go_simp) rfl rfl ?_ | refine wpG_pickW rfl (by first | rfl | go_simp) rfl ?_
  go_big_quiet_step (fail)
  refine wpQuiet_nil ?_
  first | refine wpG_quiet1W (by first | rfl | go_simp) rfl rfl ?_ | refine wpG_pickW rfl (by first | rfl | go_simp) rfl ?_
  go_big_quiet_step (fail)
  refine wpQuiet_nil ?_
  first | refine wpG_quiet1W (by first | rfl | go_simp) rfl rfl ?_ | refine wpG_pickW rfl (by first | rfl | go_simp) rfl ?_
  go_big_quiet_step (fail)
  refine wpQuiet_nil ?_
  first | refine wpG_quiet1W (by first | rfl | go_simp) rfl rfl ?_ | refine wpG_pickW rfl (by first | rfl | go_simp) rfl ?_
  go_big_quiet_step (fail)
  refine wpQuiet_nil ?_
  first | refine wpG_quiet1W (by first | rfl | go_simp) rfl rfl ?_ | refine wpG_pickW rfl (by first | rfl | go_simp) rfl ?_
  go_big_quiet_step (fail)
  refine wpQuiet_nil ?_
  first | refine wpG_quiet1W (by first | rfl | go_simp) rfl rfl ?_ | refine wpG_pickW rfl (by first | rfl | go_simp) rfl ?_
  go_big_quiet_step (fail)
  refine wpQuiet_nil ?_
  first | refine wpG_quiet1W (by first | rfl | go_simp) rfl rfl ?_ | refine wpG_pickW rfl (by first | rfl | go_simp) rfl ?_
  go_big_quiet_step (fail)
  refine wpQuiet_nil ?_
  refine wpG_call rfl rfl (fun w1 _ _ => ⟨57,#[.bool false,.int .u64 (p : Nat),.int .u64 (q : Nat)],by go_simp,(HSg.out w1).mono fun _ _ ⟨he,hb⟩ => ⟨_,he,hb,rfl,trivial⟩⟩) ?_
  rintro _ rfl
  simp only [Act.put,List.setIfInBounds_toArray,List.set_cons_zero,List.set_cons_succ]
  refine wpG_quiet 2 (by kernel_rfl) (by rfl) (by decide) ?_
  simp only [List.take_succ_cons,List.take_zero,List.drop_succ_cons,List.drop_zero]
  repeat (go_big_quiet_step (fail))
  refine wpQuiet_nil ?_
  refine wpG_nil ?_
  intro w4 hb4 hF
  have D24 := D0.out.below hb4 D0.out.lt
  have HB4 := HB.out.trans (hb4.mono HB.out.size)
  have q0 := D24.cell 0
  have f0 := D24.frozen 0
  have E1 := (D24.set_ 0 (.int .i64 fx))
  have f1 := E1.frozen 1
  have E2 := E1.set_ 1 (.int .i64 fy)
  have p0 := E2.cell 0
  have p1 := E2.cell 1
  have r1 := E1.cell 1
  simp only [List.setIfInBounds_toArray,List.set_cons_zero,List.set_cons_succ] at p0 p1 r1
  simp only [List.getElem?_toArray,List.getElem?_cons_succ,List.getElem?_cons_zero] at q0 p0 p1 r1
  have HBz := Lib.hid ((HB4.setCell (p := ⟨w.heap.size,0,none⟩) (Nat.le_refl _) (.int .i64 fx)).setCell (p := ⟨w.heap.size,1,none⟩) (Nat.le_refl _) (.int .i64 fy))
  clear D24 HB4 E1 E2 HSg hF
  go_wp2_with fail
  refine bodyPost_ret (v := .tuple #[.agg #[.int .i64 fx,.int .i64 fy],.int .i64 fz]) (by simp [results,Tryz.results162,go_sem,p0,p1]) rfl ?_
  exact ⟨rfl,HBz.out⟩
theorem raMake (n : Int) (d : Nat) (w : World) (hn0 : 0 ≤ n) (hn : n ≤ 67108864) (hd : 1 ≤ d) (hd2 : d ≤ 20) :
  fracOk (mkRat n d) = true ∧ Calls Tryz.prog 162 #[.int .i64 n,.int .i64 d] w fun e w' => e = .returned (.tuple #[.agg #[.int .i64 (frOf (mkRat n d)).num,.int .i64 (frOf (mkRat n d)).den],.int .i64 0]) ∧ Below w.heap.size w w' := by
 obtain ⟨m,rfl⟩ := Int.eq_ofNat_of_zero_le hn0
 have h1 := raMakeS m d w (by omega) hd hd2
 have h2 := made_q (q := mkRat (m : Int) d) (N := m) (D := d) (neg := false) hd rfl
 rw [← h2] at h1
 cases hk : fracOk (mkRat (m : Int) d) with
 | true =>
  refine ⟨rfl,?_⟩
  have h3 := fracV_ok hk
  rw [h3] at h1
  exact h1
 | false =>
  exfalso
  have h3 := fracV_no hk
  rw [h2] at h3
  unfold signV at h3
  rw [if_pos ⟨Nat.le_trans (Nat.div_le_self _ _) (by omega),Nat.le_trans (Nat.div_le_self _ _) (by omega)⟩] at h3
  injection h3 with h3
  injection h3 with h3
  injection h3 with h4 h5
  injection h5 with h5 _
  injection h5 with _ h5
  exact absurd h5 (by decide)
end Go.Proofs.YtknkhnahflmjiaaGreatDoor

namespace Go.Proofs.YtknkhnahflmjiaaGreatDoor
open Go.RowKit Go.Shelf
theorem made_partF {w w2 : World} {x : FrT} {n : Nat} (hown : w2.ownsRow w.heap.size 23 2 (.slice (some ⟨w.heap.size,0,none⟩) n n) n (madeCells (Value.cells (.agg #[.int .i64 0,.int .i64 0])) (n * 2)).toList) :
  w2.heap[w.heap.size]? = some (.cells (cellsF (partF x 0 n)).toArray 23 (0,0)) := by
 rw [made_fr,← partF_zero x n] at hown
 rcases hown.2 with ⟨h1,_⟩ | ⟨g',cap,cur,h1,hb,hg,h2,h3,h4,h5⟩
 ·cases h1
 ·injection h1 with e1 _ e2
  injection e1 with e1
  injection e1 with e1
  subst e1 e2
  rw [List.take_of_length_le (by rw [Array.length_toList];omega)] at h5
  rw [← h5,Array.toArray_toList]
  exact hg
set_option maxRecDepth 100000 in
set_option maxHeartbeats 2000000 in
theorem repeatFr (b : Nat) (x : FrT) (T : TypeId) (n : Nat) (w : World) (h20 : n ≤ 20) (hD : Blk w b T #[.int .i64 x.num,.int .i64 x.den]) :
  Calls Tryz.prog 160 #[.slice (some ⟨b,0,none⟩) 1 1,.int .i64 n] w fun e w' => ∃ g,e = .returned (.slice (some ⟨g,0,none⟩) n n) ∧ w.heap.size ≤ g ∧ Blk w' g 23 (cellsF (List.replicate n x)).toArray ∧ Below w.heap.size w w' := by
 obtain ⟨i0,hi0,hz0,hz1,hz2⟩ := info_parts info_frac
 have hbytes : i0.bytes * n ≤ 281474976710656 := by rw [hz2];omega
 have HM := mulR n w h20
 have HD := Lib.hid hD
 have HI := Lib.hid hi0
 have hnn : (0 : Int) ≤ (n : Int) := Int.natCast_nonneg _
 have hd0 : decide ((n : Int) < 0) = false := by simp
 have hd1 : decide ((9223372036854775807 : Int) < n) = false := by simp;omega
 have hsz2 : (Tryz.prog.info? 23).map (·.size) = some 2 := by kernel_rfl
 have hlt := hD.lt
 obtain ⟨m1,hm1⟩ : ∃ m1,Nat.min 1 n = m1 := ⟨_,rfl⟩
 have hm1a : m1 ≤ 1 ∧ m1 ≤ n ∧ (1 ≤ n → m1 = 1) := by
  have e : m1 = min 1 n := hm1.symm
  omega
 have hcl : (cellsF (List.replicate m1 x)).length = m1 * 2 := by rw [cellsF_len,List.length_replicate]
 have hfit : 0 + (cellsF (List.replicate m1 x)).length ≤ (cellsF (partF x 0 n)).length := by rw [hcl,cellsF_len,partF_len (Nat.zero_le _)];omega
 have HSP : Hid (splice (cellsF (partF x 0 n)) 0 (cellsF (List.replicate m1 x)) = cellsF (partF x m1 n)) := by
  have := partF_splice (x := x) (k := 0) (m := m1) (n := n) (by omega)
  rw [Nat.zero_add,Nat.zero_mul] at this
  exact this
 have Hm1 := Lib.hid hm1
 have Hm1a := Lib.hid hm1a
 have Hcl := Lib.hid hcl
 have Hfit := Lib.hid hfit
 clear hD hm1 hm1a hcl hfit
 go_enter Tryz.func160,Tryz.ntmps160
 go_wp2_with fail
 refine HM.mono ?_
 rintro e w1 ⟨rfl,rfl⟩
 go_wp2_with (first
  | (at_make;refine wpList_make_full _ rfl _ _ 42 rfl w.heap.size 23 i0 (.agg #[.int .i64 0,.int .i64 0]) 2 Tryz.underlying42 HI.out hz0 hz1 .i64 .i64 _ _ n rfl rfl rfl rfl hbytes (by unfold maxLen;omega) (Nat.le_refl _) ?_;intro w2 hown2 hgrow2;have hk2 := Lib.hid (made_partF (x := x) hown2);have hb2 := below_grown hgrow2;have hc2 := Lib.hid (HD.out.below hb2 HD.out.lt);clear hown2 hgrow2)
  | (refine wpList_copy2 rfl (.tmp 31) (.tmp 32) 42 42 rfl 23 Tryz.underlying42 hsz2 w.heap.size 0 n n ⟨b,0,none⟩ 1 1 m1 rfl rfl (cellsF (partF x 0 n)) 23 hk2.out (cellsF (List.replicate m1 x)) Hm1.out Hcl.out (partF_one Hm1a.out.1 T hc2.out) Hfit.out (cellsF_one _) w.heap.size w hb2 (Nat.le_refl _) ?_;intro w3 hg3 hb3))
 have hg3' := hg3.out
 rw [HSP.out] at hg3'
 have HG3 : Hid (w3.heap[w.heap.size]? = some (.cells (cellsF (partF x m1 n)).toArray 23 (0,0))) := hg3'
 clear hk2 hc2 hb2 hg3 hg3' HSP Hcl Hfit
 go_loopw [8] (fun s wr => ∃ k : Nat,(1 ≤ n → 1 ≤ k) ∧ k ≤ n ∧ s = .int .i64 k ∧ Hid (wr.heap[w.heap.size]? = some (.cells (cellsF (partF x k n)).toArray 23 (0,0))) ∧ Hid (Below w.heap.size w wr)) (fun s _ => n - (intOf s).toNat)
 case atStart => exact ⟨m1,fun h => by have := Hm1a.out;omega,Hm1a.out.2.1,by first | rfl | go_num,HG3,hb3⟩
 case round =>
  clear HG3 hb3
  obtain ⟨k,hk1,hk,rfl,HG,HB⟩ := hrel
  by_cases hkl : k < n
  ·have i1 : (0 : Int) ≤ (k : Int) := Int.natCast_nonneg _
   have i2 : (k : Int) ≤ (n : Int) := by omega
   have hk1 := hk1 (by omega)
   obtain ⟨m,hm⟩ : ∃ m,Nat.min k (n - k) = m := ⟨_,rfl⟩
   have hma : m ≤ k ∧ k + m ≤ n ∧ 1 ≤ m := by
    have e : m = min k (n - k) := hm.symm
    omega
   have Hma := Lib.hid hma
   have Hcl : Hid ((cellsF (List.replicate m x)).length = m * 2) := by unfold Hid;rw [cellsF_len,List.length_replicate]
   have Hfit : Hid (k * 2 + (cellsF (List.replicate m x)).length ≤ (cellsF (partF x k n)).length) := by
    unfold Hid
    rw [Hcl.out,cellsF_len,partF_len hk]
    omega
   have HSp : Hid (splice (cellsF (partF x k n)) (k * 2) (cellsF (List.replicate m x)) = cellsF (partF x (k + m) n)) := partF_splice hma.2.1
   have hbq := HB.out.drew
   have HGd : Hid (wr.drew.heap[w.heap.size]? = some (.cells (cellsF (partF x k n)).toArray 23 (0,0))) := HG.out
   have HSrc : Hid (∀ j v,(cellsF (List.replicate m x))[j]? = some v → wr.drew.cell? ((Addr.mk w.heap.size 0 none).add j) = some v) := fun j v hv => by
    have e : (Addr.mk w.heap.size 0 none).add j = ⟨w.heap.size,j,none⟩ := by
     unfold Addr.add
     split
     ·rename_i h;subst h;rfl
     ·simp
    rw [e,cell_of_row _ _ _ _ _ _ HGd.out,List.getElem?_toArray]
    exact partF_get hma.1 hv
   have hne : ¬ n = k := by omega
   have Hm := Lib.hid hm
   clear hma hm
   go_wp2_with fail
   go_region_law (refine step_copy2 rfl (.tmp 41) (.tmp 44) 42 42 rfl 23 Tryz.underlying42 hsz2 w.heap.size (k * 2) (n - k) (n - k) ⟨w.heap.size,0,none⟩ k n m ?g4 ?g5 (cellsF (partF x k n)) 23 HGd.out (cellsF (List.replicate m x)) Hm.out Hcl.out HSrc.out Hfit.out (cellsF_one _) w.heap.size w hbq (Nat.le_refl _) ?g13;(case g4 => go_simp);(case g5 => go_simp);intro w5 hg5 hb5)
   rw [HSp.out] at hg5
   have hmk := Hma.out
   have HW : Hid (IntKind.i64.wrap ((k : Int) + (m : Int)) = ((k + m : Nat) : Int)) := by
    unfold Hid
    rw [IntWalk.i64_in _ (by omega)]
    omega
   clear HSp HSrc HGd Hcl Hfit
   go_simp
   go_wp2
   go_roundw
   case rel => exact ⟨k + m,fun _ => by omega,by omega,by rw [HW.out],hg5,hb5⟩
   case measure => rw [HW.out];simp [intOf];omega
  ·obtain rfl : k = n := by omega
   have HO := HG.out
   rw [partF_full] at HO
   have HO := Lib.hid HO
   clear HG
   go_wp2_with fail
   go_ret
   exact ⟨_,rfl,Nat.le_refl _,HO.out,HB.out⟩
end Go.Proofs.YtknkhnahflmjiaaGreatDoor

namespace Go.Proofs.YtknkhnahflmjiaaGreatDoor
open Go.RowKit Go.Shelf
section
variable {P : Program} {ops : Array Oper} {md : Region.Mode} {l0 n : Nat}
def onN (K : Act → World → Prop) : Exit → Act → World → Prop
 | .normal,a,w => K a w
 | _,_,_ => False
theorem onN_out {K : Act → World → Prop} : ¬ LetsOut (onN K) := fun ⟨_,_,h⟩ => h
theorem rows_round {row : String} {args : Array Value} {w : World} {R : Value → World → Prop} (h : Rows P row args w R) : RowsIn (Fence.wide.inRound l0) n P row args w R := fun c cs _ => by
 obtain ⟨v,w',r,s⟩ := h c cs
 exact ⟨v,w',r,stepsIn_wide.2 s⟩
theorem oper_round {o : Oper} {a : Act} {w : World} {K K' Q : Act → World → Prop} (hnd : ∀ c,o.op ≠ .defer c) (hK : ∀ a w,K a w → K' a w) (h : o.wp P a w K (onN Q)) : o.wpIn (Fence.wide.inRound l0) n P a w K' (onN Q) := by
 refine ⟨fun _ _ => trivial,?_⟩
 rw [Oper.semAt_eq _ _ _ hnd]
 unfold Oper.wp at h
 generalize (execOp a.eval o).run P w = q at *
 have hd : (Fence.wide.inRound l0).depth.isSome = true → 1 ≤ n := fun h => by cases h
 cases q with
 | ok x w' =>
  cases x with
  | value v => exact hK _ _ h
  | skip => exact hK _ _ h
  | defer d => exact hK _ _ h
  | enter f args =>
   refine ⟨hd,show CallsIn Fence.wide (n - 1) P f args w' _ from callsIn_wide.2 (Calls.mono h ?_)⟩
   intro e w'' he
   cases e with
   | returned v => exact hK _ _ he
   | panicked c => exact he
   | outgrown => exact absurd he onN_out
  | row r args => exact ⟨hd,rows_round (Rows.mono h fun v w'' he => hK _ _ he)⟩
  | _ => exact h.elim
 | halt x w' => cases x <;> exact h
theorem wpAny_round {K : Act → World → Prop} (hnd : ∀ (i : Nat) o c,ops[i]? = some o → o.op ≠ .defer c) : ∀ (f : Nat) (listed : Array Bool) (a : Act) (w : World),wpAny P md ops (onN K) f listed a w → wpAnyIn (Fence.wide.inRound l0) n P md ops (onN K) f listed a w
 | 0,_,_,_,h => h
 | f + 1,listed,a,w,h => by
  refine ⟨h.1,fun i hi => ?_⟩
  have h2 := h.2 i hi
  unfold wpOp at h2
  unfold wpOpIn
  cases ho : ops[i]? with
  | none => rw [ho] at h2;exact wpAny_round hnd f _ _ _ h2
  | some o =>
   rw [ho] at h2
   dsimp only at h2 ⊢
   split
   ·rename_i hw
    rw [if_pos hw] at h2
    rcases h2 with h2 | ⟨-,h2⟩
    ·exact oper_round (fun c => hnd i o c ho) (fun a w => wpAny_round hnd f _ a w) h2
    ·exact absurd h2 onN_out
   ·rename_i hw
    rw [if_neg hw] at h2
    exact ⟨fun _ _ => trivial,wpAny_round hnd f _ _ _ h2⟩
def noDefB (l : List Oper) : Bool := l.all fun o => match o.op with
 | .defer _ => false
 | _ => true
theorem noDefB_ok {l : List Oper} (h : noDefB l = true) : ∀ (i : Nat) o c,l.toArray[i]? = some o → o.op ≠ .defer c := fun i o c ho e => by
 unfold noDefB at h
 rw [List.getElem?_toArray] at ho
 have := List.all_eq_true.1 h o (List.mem_of_getElem? ho)
 rw [e] at this
 cases this
end
section
variable {P : Program} {l0 n : Nat}
theorem wpR_region_po {id : Nat} {Q : Exit → Act → World → Prop} {a : Act} {w : World} {l : List Oper} (V : Nat → Value) (S : List Nat) (hm : P.follows .mixedOrders = true) (hd : noDefB l = true)
  (hF : freeRegB .any l.toArray S = true) (hS : S.all (fun s => decide (s < l.toArray.size)) = true) (hN : S.Nodup) (h : poJ P .any l.toArray S a (onN (Q .normal)) S.length S V w.drew) : (Code.region id l.toArray true).wpIn (Fence.wide.inRound l0) n P Q a w := by
 refine wpIn_mono (Q := onN (Q .normal)) ?_ (fun e a w h => by cases e <;> first | exact h | exact h.elim)
 refine wpIn_region_any hm (wpAny_round (noDefB_ok hd) _ _ _ _ ?_)
 refine poJ_any hF hS _ V _ _ _ ⟨by simp,fun V2 _ => rfl,fun j hj => ?_,S,hN,fun _ h => h,h,fun s hs => ?_⟩ ?_
 ·rw [getD_replicate_false] at hj
  cases hj
 ·rw [getD_replicate_false]
  exact (decide_eq_false (fun h => h hs)).symm
 ·unfold left
  rw [List.filter_eq_self.2 (fun i hi => by rw [getD_in (by simpa using List.mem_range.1 hi) (getD_replicate_false _ _)];rfl),List.length_range]
end
end Go.Proofs.YtknkhnahflmjiaaGreatDoor
