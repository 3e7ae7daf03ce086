/- Parts of the proof, laid into one text: JobP, BrkV, BrkP, VerO. -/
import Derived.BigQuiet
import Derived.Deep.AppendLies
import Derived.Deep.Draws
import Derived.Deep.LoopGhost
import Derived.Deep.QuietTactic
import Derived.IntWalk
import Derived.Lib.Hide
import Derived.Maps.AppendAt
import Derived.Maps.Own
import Derived.Maps.OwnOps
import Derived.Maps.OwnSet
import Derived.Maps.Views
import Derived.PlainAid
import Derived.Shelf.Abstract
import Derived.StillTailTactics
import Derived.Test.YtfkikpbnigenhaaGreatC1
import Derived.Test.YtfkikpbnigenhaaGreatD1
import Derived.Test.YtfkikpbnigenhaaGreatD2
import Derived.Test.YtfkikpbnigenhaaGreatD3
import Derived.Test.YtfkikpbnigenhaaGreatE2
import Derived.Test.YtfkikpbnigenhaaGreatG1
import Derived.Test.YtfkikpbnigenhaaGreatG2
import Derived.Test.YtfkikpbnigenhaaGreatProg
import Derived.WalkKit
import Derived.WalkLawsBesides
import Derived.WalkSpells

namespace Go.Proofs.YtfkikpbnigenhaaGreat
open Go.RowKit Go.Shelf
structure JobT where
 name : ByteArray
 pipe : Bool
 wt : Int
deriving DecidableEq
def JobT.cells (x : JobT) : List Value := [.string x.name,.bool x.pipe,.int .i64 x.wt]
abbrev JobT.val (x : JobT) : Value := .agg #[.string x.name,.bool x.pipe,.int .i64 x.wt]
instance : Inhabited JobT := ⟨⟨⟨#[]⟩,false,0⟩⟩
def JobsAt (w : World) (B : Nat) (v : Value) (l : List JobT) : Prop := Flat w B v l.length (l.flatMap JobT.cells)
theorem JobsAt.below {w w' : World} {B B' : Nat} {v : Value} {l : List JobT} (h : JobsAt w B v l) (hb : Below B' w w') (hB : B ≤ B') : JobsAt w' B v l := Flat.below h hb hB
theorem JobsAt.mono {w : World} {B B' : Nat} {v : Value} {l : List JobT} (h : JobsAt w B v l) (hB : B ≤ B') : JobsAt w B' v l := Flat.mono h hB
theorem JobsAt.grow {w w' : World} {v : Value} {l : List JobT} (h : JobsAt w w.heap.size v l) (hb : Below w.heap.size w w') : JobsAt w' w'.heap.size v l := (h.below hb (Nat.le_refl _)).mono hb.size
theorem JobsAt.open_ {w : World} {B : Nat} {v : Value} {l : List JobT} (h : JobsAt w B v l) :
  ∃ A c,v = .slice A l.length c ∧ l.length ≤ c ∧ c ≤ maxLen ∧ ∀ k (_ : k < l.length),∃ b off,A = some ⟨b,off,none⟩ ∧ b < B ∧ ∀ j (hj : j < l.length),
   w.cell? ⟨b,off + j * 3,none⟩ = some (.string l[j].name) ∧ w.cell? ⟨b,off + j * 3 + 1,none⟩ = some (.bool l[j].pipe) ∧ w.cell? ⟨b,off + j * 3 + 2,none⟩ = some (.int .i64 l[j].wt) := by
 obtain ⟨A,c,h1,h2,h3,h4⟩ := h
 refine ⟨A,c,h1,h2,h3,fun k hk => ?_⟩
 obtain ⟨b,off,e,hlt,hc⟩ := h4 (by omega)
 refine ⟨b,off,e,hlt,fun j hj => ?_⟩
 have f := fun (i : Nat) (hi : i < 3) u (hu : l[j].cells[i]? = some u) => hc (j * 3 + i) u ((flatGet JobT.cells 3 (fun _ => rfl) l j i hj hi).trans hu)
 have g := fun (i : Nat) (hi : i < 3) u (hu : l[j].cells[i]? = some u) => (congrArg (fun o => w.cell? ⟨b,o,none⟩) (Nat.add_assoc off (j * 3) i)).trans (f i hi u hu)
 exact ⟨g 0 (by omega) _ rfl,g 1 (by omega) _ rfl,g 2 (by omega) _ rfl⟩
def jobGood (l : List JobT) (k : Nat) : Bool :=
 match l[k]? with
 | some x => nameB x.name && (!decide (x.name ∈ (l.map JobT.name).take k) && betweenB x.wt (-1048576) 1048576)
 | none => true
theorem jobGood_eq {l : List JobT} {k : Nat} (hk : k < l.length) : jobGood l k = (nameB l[k].name && (!decide (l[k].name ∈ (l.map JobT.name).take k) && betweenB l[k].wt (-1048576) 1048576)) := by
 unfold jobGood
 rw [List.getElem?_eq_getElem hk]
def jobsB (l : List JobT) : Bool := decide (l.length ≤ 100) && upto (jobGood l) l.length
structure JobsOk (l : List JobT) : Prop where
 len : l.length ≤ 100
 wt : ∀ x ∈ l,-1048576 ≤ x.wt ∧ x.wt ≤ 1048576
 name : ∀ x ∈ l,nameB x.name = true
 apart : ∀ i j (hi : i < l.length) (hj : j < l.length),i < j → l[i].name ≠ l[j].name
theorem jobsB_iff {l : List JobT} : jobsB l = true ↔ JobsOk l := by
 unfold jobsB
 rw [Bool.and_eq_true,decide_eq_true_iff,upto_iff]
 constructor
 ·rintro ⟨h1,h2⟩
  have h3 : ∀ i (hi : i < l.length),nameB l[i].name = true ∧ l[i].name ∉ (l.map JobT.name).take i ∧ -1048576 ≤ l[i].wt ∧ l[i].wt ≤ 1048576 := fun i hi => by
   have := h2 i hi
   rw [jobGood_eq hi,Bool.and_eq_true,Bool.and_eq_true,Bool.not_eq_true',decide_eq_false_iff_not] at this
   exact ⟨this.1,this.2.1,of_decide_eq_true this.2.2⟩
  refine ⟨h1,fun x hx => ?_,fun x hx => ?_,fun i j hi hj hij e => ?_⟩
  ·obtain ⟨i,hi,rfl⟩ := List.getElem_of_mem hx
   exact (h3 i hi).2.2
  ·obtain ⟨i,hi,rfl⟩ := List.getElem_of_mem hx
   exact (h3 i hi).1
  ·refine (h3 j hj).2.1 ?_
   rw [← e,List.mem_take_iff_getElem]
   exact ⟨i,by rw [List.length_map];omega,by rw [List.getElem_map]⟩
 ·rintro ⟨h1,h2,h3,h4⟩
  refine ⟨h1,fun i hi => ?_⟩
  rw [jobGood_eq hi,Bool.and_eq_true,Bool.and_eq_true,Bool.not_eq_true',decide_eq_false_iff_not]
  refine ⟨h3 _ (List.getElem_mem hi),fun hm => ?_,decide_eq_true (h2 _ (List.getElem_mem hi))⟩
  rw [List.mem_take_iff_getElem] at hm
  obtain ⟨j,hj,e⟩ := hm
  rw [List.length_map] at hj
  rw [List.getElem_map] at e
  exact h4 j i (by omega) hi (by omega) e
theorem jobsB_no {l : List JobT} {k : Nat} (hk : k < l.length) (h : jobGood l k = false) : jobsB l = false := by
 unfold jobsB
 rw [upto_no hk h,Bool.and_false]
def chgN (s : SetT) (x : JobT) : Int := if x.pipe = true then s.purch * x.wt else -x.wt
def pathTo (s : SetT) (l : List JobT) : Nat → Int
 | 0 => balanceN s
 | k + 1 => pathTo s l k + chgN s (l.getD k default)
theorem pathTo_succ (s : SetT) (l : List JobT) {k : Nat} (hk : k < l.length) : pathTo s l (k + 1) = pathTo s l k + chgN s l[k] := by
 rw [pathTo,List.getD_eq_getElem?_getD,List.getElem?_eq_getElem hk]
 rfl
def pathL (s : SetT) (l : List JobT) : List Int := (List.range (l.length + 1)).map (pathTo s l)
theorem pathL_len (s : SetT) (l : List JobT) : (pathL s l).length = l.length + 1 := by unfold pathL;rw [List.length_map,List.length_range]
theorem chg_bd {s : SetT} {x : JobT} (hp : 1 ≤ s.purch ∧ s.purch ≤ 2) (hx : -1048576 ≤ x.wt ∧ x.wt ≤ 1048576) : -2097152 ≤ chgN s x ∧ chgN s x ≤ 2097152 := by
 unfold chgN
 split
 ·rcases (show s.purch = 1 ∨ s.purch = 2 by omega) with e | e <;> rw [e] <;> omega
 ·omega
theorem path_bd {s : SetT} {l : List JobT} (hs : setB s = true) (hl : JobsOk l) : ∀ k,k ≤ l.length → -604045312 - 2097152 * (k : Int) ≤ pathTo s l k ∧ pathTo s l k ≤ 2281701376 + 2097152 * (k : Int)
 | 0,_ => by have := balance_bd hs;unfold pathTo;omega
 | k + 1,hk => by
  have h1 := path_bd hs hl k (by omega)
  have h2 := chg_bd (setB_ok hs).purch (hl.wt _ (List.getElem_mem (show k < l.length by omega)))
  rw [pathTo_succ s l (by omega)]
  omega
def heldB (s : SetT) (n : Int) : Bool := betweenB n (-s.brake) s.brake
def orderGood (n : Nat) (o : List Int) (k : Nat) : Bool :=
 match o[k]? with
 | some x => decide (0 ≤ x) && (decide (x < n) && !decide (x ∈ o.take k))
 | none => true
theorem orderGood_eq {n : Nat} {o : List Int} {k : Nat} (hk : k < o.length) : orderGood n o k = (decide (0 ≤ o[k]) && (decide (o[k] < n) && !decide (o[k] ∈ o.take k))) := by
 unfold orderGood
 rw [List.getElem?_eq_getElem hk]
def wholeO (n : Nat) (o : List Int) : Bool := decide (o.length = n) && upto (orderGood n o) o.length
def turnedL (l : List JobT) (o : List Int) : List JobT := o.map fun x => l.getD x.toNat default
theorem turned_len (l : List JobT) (o : List Int) : (turnedL l o).length = o.length := by unfold turnedL;rw [List.length_map]
structure OrderOk (n : Nat) (o : List Int) : Prop where
 len : o.length = n
 bd : ∀ k (hk : k < o.length),0 ≤ o[k] ∧ o[k] < n
 apart : ∀ i j (hi : i < o.length) (hj : j < o.length),i < j → o[i] ≠ o[j]
theorem wholeO_iff {n : Nat} {o : List Int} : wholeO n o = true ↔ OrderOk n o := by
 unfold wholeO
 rw [Bool.and_eq_true,decide_eq_true_iff,upto_iff]
 constructor
 ·rintro ⟨h1,h2⟩
  have h3 : ∀ i (hi : i < o.length),0 ≤ o[i] ∧ o[i] < n ∧ o[i] ∉ o.take i := fun i hi => by
   have := h2 i hi
   rw [orderGood_eq hi,Bool.and_eq_true,Bool.and_eq_true,Bool.not_eq_true',decide_eq_false_iff_not,decide_eq_true_iff,decide_eq_true_iff] at this
   exact this
  refine ⟨h1,fun k hk => ⟨(h3 k hk).1,(h3 k hk).2.1⟩,fun i j hi hj hij e => (h3 j hj).2.2 ?_⟩
  rw [← e,List.mem_take_iff_getElem]
  exact ⟨i,by omega,rfl⟩
 ·rintro ⟨h1,h2,h3⟩
  refine ⟨h1,fun i hi => ?_⟩
  rw [orderGood_eq hi,Bool.and_eq_true,Bool.and_eq_true,Bool.not_eq_true',decide_eq_false_iff_not,decide_eq_true_iff,decide_eq_true_iff]
  refine ⟨(h2 i hi).1,(h2 i hi).2,fun hm => ?_⟩
  rw [List.mem_take_iff_getElem] at hm
  obtain ⟨j,hj,e⟩ := hm
  exact h3 j i (by omega) hi (by omega) e
theorem wholeO_no {n : Nat} {o : List Int} {k : Nat} (hk : k < o.length) (h : orderGood n o k = false) : wholeO n o = false := by
 unfold wholeO
 rw [upto_no hk h,Bool.and_false]
theorem turnedJ_ok {l : List JobT} {o : List Int} (hl : JobsOk l) (ho : OrderOk l.length o) : JobsOk (turnedL l o) := by
 have hg : ∀ k (hk : k < o.length),∃ hi : o[k].toNat < l.length,(turnedL l o)[k]'(by rw [turned_len];exact hk) = l[o[k].toNat] := fun k hk => by
  have hb := ho.bd k hk
  have hi : o[k].toNat < l.length := by omega
  refine ⟨hi,?_⟩
  unfold turnedL
  rw [List.getElem_map,List.getD_eq_getElem?_getD,List.getElem?_eq_getElem hi]
  rfl
 refine ⟨by rw [turned_len,ho.len];exact hl.len,fun x hx => ?_,fun x hx => ?_,fun i j hi hj hij => ?_⟩
 ·obtain ⟨i,hi,rfl⟩ := List.getElem_of_mem hx
  obtain ⟨h1,h2⟩ := hg i (by rw [turned_len] at hi;exact hi)
  rw [h2]
  exact hl.wt _ (List.getElem_mem _)
 ·obtain ⟨i,hi,rfl⟩ := List.getElem_of_mem hx
  obtain ⟨h1,h2⟩ := hg i (by rw [turned_len] at hi;exact hi)
  rw [h2]
  exact hl.name _ (List.getElem_mem _)
 ·rw [turned_len] at hi hj
  obtain ⟨h1,h2⟩ := hg i hi
  obtain ⟨h3,h4⟩ := hg j hj
  rw [h2,h4]
  have hne := ho.apart i j hi hj hij
  have b1 := ho.bd i hi
  have b2 := ho.bd j hj
  rcases Nat.lt_trichotomy o[i].toNat o[j].toNat with h | h | h
  ·exact hl.apart _ _ h1 h3 h
  ·exact absurd (by omega) hne
  ·exact (hl.apart _ _ h3 h1 h).symm
def balIs (s : SetT) (l : List JobT) (o p : List Int) : Bool :=
 wholeO l.length o && (decide (pathL s (turnedL l o) = p) && upto (fun k => heldB s (pathTo s (turnedL l o) k)) (l.length + 1))
end Go.Proofs.YtfkikpbnigenhaaGreat

namespace Go.Proofs.YtfkikpbnigenhaaGreat
open Go.RowKit Go.Shelf Go.WideMaps Go.Maps
def SeenMap (w : World) (b : Nat) (L : List ByteArray) (j : Nat) : Prop :=
 ∃ D,w.ownsMap Tryz.prog 9 (plainElem (H := Unit) Tryz.prog 4) b j D ∧ ∀ s,D.atKey (keyS s) (.lit (.bool false)) = .lit (.bool (decide (s ∈ L.take j)))
theorem SeenMap.step {L : List ByteArray} {j : Nat} {D : DataW Unit} (h1 : ∀ s,D.atKey (keyS s) (.lit (.bool false)) = .lit (.bool (decide (s ∈ L.take j)))) (hj : j < L.length) (hm : IsMap D) :
  ∀ s,(D.put (keyS L[j]) (.lit (.bool true))).atKey (keyS s) (.lit (.bool false)) = .lit (.bool (decide (s ∈ L.take (j + 1)))) := by
 intro s
 rw [take_snoc L j hj]
 by_cases e : s = L[j]
 ·subst e
  rw [Maps.atKey_put_same hm (keyS_key _)]
  rw [decide_eq_true (List.mem_append_right _ (List.mem_singleton.2 rfl))]
 ·rw [Maps.atKey_put_other (fun e' => e (keyS_inj e')),h1]
  congr 2
  exact decide_eq_decide.2 ⟨fun h => List.mem_append_left _ h,fun h => (List.mem_append.1 h).resolve_right fun h => e (List.mem_singleton.1 h)⟩
theorem zeroBool (w : World) : (zeroValue 4).run Tryz.prog w = .ok (.bool false) w := by kernel_rfl
theorem plainElem_bool_inv {P : Program} {e : TypeId} (he : P.underlying e = some .bool) {v : Value} {z : DataW Unit × List MemPlace} (h : plainElem P e v = some z) : ∃ a,v = .bool a ∧ z = (.lit (.bool a),[]) := by
 unfold plainElem at h
 rw [he] at h
 cases v <;> simp at h
 exact ⟨_,rfl,h.symm⟩
theorem SeenMap.look {w : World} {b : Nat} {L : List ByteArray} {j : Nat} (h : SeenMap w b L j) {s : ByteArray} (hs : s.size ≤ maxLen) :
  (Instr.lookup 101 (.map (some b)) (.string s) false).run Tryz.prog w = .ok (.bool (decide (s ∈ L.take j))) w := by
 obtain ⟨D,hown,hD⟩ := h
 obtain ⟨v,ps,hrun,hR⟩ := hown.lookup keyLaw Tryz.underlying101 (zeroBool w) (plainElem_bool Tryz.underlying4 false) (keyOf_s hs)
 obtain ⟨a,rfl,hz⟩ := plainElem_bool_inv Tryz.underlying4 hR
 simp only [Prod.mk.injEq] at hz
 rw [hD] at hz
 obtain ⟨hz,-⟩ := hz
 simp only [DataW.lit.injEq,Lit.bool.injEq] at hz
 rw [hrun,hz]
theorem SeenMap.kept {w w' : World} {b : Nat} {L : List ByteArray} {j : Nat} (h : SeenMap w b L j) {row : Option Nat} (hg : w.grownBy w' row) (hne : some b ≠ row) : SeenMap w' b L j := by
 obtain ⟨D,hown,hD⟩ := h
 exact ⟨D,hown.kept hg hne,hD⟩
set_option maxRecDepth 100000 in
set_option maxHeartbeats 4000000 in
theorem brkValid (v : Value) (l : List JobT) (w : World) (hl : JobsAt w w.heap.size v l) (hn : ∀ x ∈ l,x.name.size ≤ maxLen) :
  Calls Tryz.prog 22 #[v] w fun e w' => e = .returned (.bool (jobsB l)) ∧ Below w.heap.size w w' := by
 obtain ⟨A,c,rfl,hc1,hc2,hcell⟩ := hl.open_
 unfold maxLen at hc2
 have HC := Lib.hid hcell
 have HN := Lib.hid hn
 clear hl hcell hn
 have hmm := @run_makeMap Tryz.prog
 by_cases c0 : 100 < (l.length : Int)
 ·have d0 : decide (100 < (l.length : Int)) = true := decide_eq_true c0
  have HV : Hid (jobsB l = false) := by unfold Hid jobsB;rw [decide_eq_false (show ¬ l.length ≤ 100 by omega)];rfl
  go_enter Tryz.func22,Tryz.ntmps22
  go_wp2
  go_ret
  exact ⟨ret_bool HV.out.symm,Below.refl _ _⟩
 have d0 : decide (100 < (l.length : Int)) = false := decide_eq_false c0
 have HV : Hid (jobsB l = upto (jobGood l) l.length) := by unfold Hid jobsB;rw [decide_eq_true (show l.length ≤ 100 by omega)];rfl
 go_enter Tryz.func22,Tryz.ntmps22
 go_wp2_with fail
 have HM0 : Hid (SeenMap (w.alloc (.map #[] 0)) w.heap.size (l.map JobT.name) 0) := ⟨_,World.ownsMap_made w _ _ _,fun s => by rw [Maps.atKey_of_not_has (by simp [Maps.has])];simp⟩
 have Hbm : Below w.heap.size w (w.alloc (.map #[] 0)) := (Below.refl _ _).alloc (Nat.le_refl _) _
 generalize w.alloc (.map #[] 0) = w2 at *
 go_loopw [12] (fun ix wr => ∃ k : Nat,k ≤ l.length ∧ ix = .int .i64 k ∧ Hid (upto (jobGood l) k = true) ∧ Hid (SeenMap wr w.heap.size (l.map JobT.name) k) ∧ Below w.heap.size w wr) (fun ix _ => l.length - (intOf ix).toNat)
 case atStart => exact ⟨0,Nat.zero_le _,rfl,upto_zero _,HM0,Hbm⟩
 case round =>
  clear HM0 Hbm
  obtain ⟨k,hk,rfl,HU,HM,hbel⟩ := hrel
  by_cases hkl : k < l.length
  ·obtain ⟨b1,off1,rfl,hb1,hc⟩ := HC.out k hkl
   have y0 := (hbel.cell (p := ⟨b1,off1 + k * 3,none⟩) hb1).trans (hc k hkl).1
   have y1 := (hbel.cell (p := ⟨b1,off1 + k * 3 + 1,none⟩) hb1).trans (hc k hkl).2.1
   have y2 := (hbel.cell (p := ⟨b1,off1 + k * 3 + 2,none⟩) hb1).trans (hc k hkl).2.2
   have hnk := HN.out _ (List.getElem_mem hkl)
   have hnm := fun W => decIsName l[k].name hnk W
   have hkm : k < (l.map JobT.name).length := by rw [List.length_map];exact hkl
   have hkey := keyOf_s hnk
   have HG := Lib.hid (jobGood_eq hkl)
   have HNo := Lib.hid (fun h : jobGood l k = false => jobsB_no hkl h)
   have i1 : (0 : Int) ≤ (k : Int) := Int.natCast_nonneg _
   have i2 : (k : Int) < (l.length : Int) := by omega
   have hba : Below w.heap.size w (wr.alloc (.cells #[.string l[k].name,.bool l[k].pipe,.int .i64 l[k].wt] 43)) := hbel.alloc hbel.size _
   have HM4 : Hid (SeenMap (wr.alloc (.cells #[.string l[k].name,.bool l[k].pipe,.int .i64 l[k].wt] 43)) w.heap.size (l.map JobT.name) k) := HM.out.kept (World.grownBy_alloc wr _ none) (by simp)
   have hlook := HM4.out.look hnk
   clear hc HM
   go_wp2_with (go_at_call 59;fail)
   go_at_call 59
   refine (hnm _).mono ?_
   rintro e w' ⟨rfl,rfl⟩
   rcases Bool.eq_false_or_eq_true (nameB l[k].name) with h0 | h0
   rotate_left
   ·have HV2 : Hid (jobsB l = false) := HNo.out (by rw [HG.out,h0];rfl)
    rw [h0]
    go_wp2_with fail
    go_ret
    exact ⟨ret_bool HV2.out.symm,hba⟩
   rw [h0] at HG ⊢
   clear h0
   rcases Bool.eq_false_or_eq_true (decide (l[k].name ∈ (l.map JobT.name).take k)) with h1 | h1
   ·have HV2 : Hid (jobsB l = false) := HNo.out (by rw [HG.out,h1];rfl)
    rw [h1] at hlook
    clear h1
    go_wp2_with fail
    go_ret
    exact ⟨ret_bool HV2.out.symm,hba⟩
   rw [h1] at HG hlook
   clear h1
   by_cases h2 : l[k].wt < -1048576
   ·have d2 : decide (l[k].wt < -1048576) = true := decide_eq_true h2
    have HV2 : Hid (jobsB l = false) := HNo.out (by rw [HG.out,between_no (by omega)];rfl)
    go_wp2_with fail
    go_ret
    exact ⟨ret_bool HV2.out.symm,hba⟩
   have d2 : decide (l[k].wt < -1048576) = false := decide_eq_false h2
   by_cases h3 : 1048576 < l[k].wt
   ·have d3 : decide (1048576 < l[k].wt) = true := decide_eq_true h3
    have HV2 : Hid (jobsB l = false) := HNo.out (by rw [HG.out,between_no (by omega)];rfl)
    go_wp2_with fail
    go_ret
    exact ⟨ret_bool HV2.out.symm,hba⟩
   have d3 : decide (1048576 < l[k].wt) = false := decide_eq_false h3
   have HU2 := Lib.hid (upto_succ HU.out (show jobGood l k = true by rw [HG.out,between_iff.2 ⟨by omega,by omega⟩];rfl))
   obtain ⟨D,hown4,hD⟩ := HM4.out
   have hst := SeenMap.step hD hkm hown4.isMap
   rw [List.getElem_map] at hst
   have HSt := Lib.hid hst
   clear hD hst HM4
   go_wp2_with (at_mapUpdate;refine wpList_mapUpdate_own _ rfl _ _ _ 101 rfl 9 4 keyLaw Tryz.underlying101 _ w.heap.size k _ rfl hown4 (by unfold maxLen;omega) _ _ _ rfl rfl hkey (.lit (.bool true)) [] (plainElem_bool Tryz.underlying4 true) ?_;intro w5 hown5 hgrow5;have hb5 := hba.grown hgrow5 hba.size (fun k hk => by cases hk;exact Nat.le_refl _);have HM5 : Hid (SeenMap w5 w.heap.size (l.map JobT.name) (k + 1)) := ⟨_,hown5,HSt.out⟩;clear hown5 hgrow5 hown4)
   go_roundw
   case rel => exact ⟨k + 1,by omega,by go_num,HU2,HM5,hb5⟩
   case measure => simp [intOf];omega
  ·obtain rfl : k = l.length := by omega
   go_wp2_with fail
   go_ret
   exact ⟨ret_bool (by rw [HV.out];exact HU.out.symm),hbel⟩
end Go.Proofs.YtfkikpbnigenhaaGreat

namespace Go.Proofs.YtfkikpbnigenhaaGreat
open Go.RowKit Go.Shelf
set_option maxRecDepth 100000 in
set_option maxHeartbeats 1000000 in
theorem brkChange (v : Value) (s : SetT) (x : JobT) (B : Nat) (w : World) (hv : SetAt w B v s) (hs : 1 ≤ s.purch ∧ s.purch ≤ 2) (hx : -1048576 ≤ x.wt ∧ x.wt ≤ 1048576) :
  Calls Tryz.prog 39 #[v,x.val] w fun e w' => e = .returned (.int .i64 (chgN s x)) ∧ Below w.heap.size w w' := by
 obtain ⟨Al,cl,Ai,ci,Ab,cb,rfl,-,-,-⟩ := hv
 have HB1 : Hid (Below w.heap.size w ((w.alloc (.cells #[.string s.name,.int .i64 s.depth,.int .i64 s.low,.int .i64 s.high,.int .i64 s.len,.slice Al s.lines.length cl,.int .i64 s.pipe,.int .i64 s.arbor,.int .i64 s.purch,.int .i64 s.most,.int .i64 s.brake,.slice Ai s.items.length ci,.slice Ab s.bricks.length cb] 26)).alloc (.cells #[.string x.name,.bool x.pipe,.int .i64 x.wt] 43))) := ((Below.refl _ _).alloc (Nat.le_refl _) _).alloc (by simp) _
 have hb := chg_bd hs hx
 have HV : Hid (chgN s x = if x.pipe = true then s.purch * x.wt else -x.wt) := rfl
 unfold setVal
 obtain ⟨xn,xp,xw⟩ := x
 simp only at *
 cases xp with
 | true =>
  have hV : chgN s ⟨xn,true,xw⟩ = s.purch * xw := by rw [HV.out,if_pos rfl]
  rw [hV] at hb ⊢
  have v1 : IntKind.i64.wrap (s.purch * xw) = s.purch * xw := IntWalk.i64_in _ (by omega)
  clear hV hb hs hx
  go_enter Tryz.func39,Tryz.ntmps39
  go_wp2_with fail
  go_ret
  exact ⟨rfl,HB1.out⟩
 | false =>
  have hV : chgN s ⟨xn,false,xw⟩ = -xw := by rw [HV.out,if_neg (by simp)]
  rw [hV] at hb ⊢
  have v1 : IntKind.i64.wrap (-xw) = -xw := IntWalk.i64_in _ (by omega)
  clear hV hb hs hx
  go_enter Tryz.func39,Tryz.ntmps39
  go_wp2_with fail
  go_ret
  exact ⟨rfl,HB1.out⟩
set_option maxRecDepth 100000 in
set_option maxHeartbeats 1000000 in
theorem refChange (v : Value) (s : SetT) (x : JobT) (B : Nat) (w : World) (hv : SetAt w B v s) (hs : 1 ≤ s.purch ∧ s.purch ≤ 2) (hx : -1048576 ≤ x.wt ∧ x.wt ≤ 1048576) :
  Calls Tryz.prog 73 #[v,x.val] w fun e w' => e = .returned (.int .i64 (chgN s x)) ∧ Below w.heap.size w w' := by
 obtain ⟨Al,cl,Ai,ci,Ab,cb,rfl,-,-,-⟩ := hv
 have HB1 : Hid (Below w.heap.size w ((w.alloc (.cells #[.string s.name,.int .i64 s.depth,.int .i64 s.low,.int .i64 s.high,.int .i64 s.len,.slice Al s.lines.length cl,.int .i64 s.pipe,.int .i64 s.arbor,.int .i64 s.purch,.int .i64 s.most,.int .i64 s.brake,.slice Ai s.items.length ci,.slice Ab s.bricks.length cb] 26)).alloc (.cells #[.string x.name,.bool x.pipe,.int .i64 x.wt] 43))) := ((Below.refl _ _).alloc (Nat.le_refl _) _).alloc (by simp) _
 have hb := chg_bd hs hx
 have HV : Hid (chgN s x = if x.pipe = true then s.purch * x.wt else -x.wt) := rfl
 unfold setVal
 obtain ⟨xn,xp,xw⟩ := x
 simp only at *
 cases xp with
 | true =>
  have hV : chgN s ⟨xn,true,xw⟩ = s.purch * xw := by rw [HV.out,if_pos rfl]
  rw [hV] at hb ⊢
  have v1 : IntKind.i64.wrap (s.purch * xw) = s.purch * xw := IntWalk.i64_in _ (by omega)
  clear hV hb hs hx
  go_enter Tryz.func73,Tryz.ntmps73
  go_wp2_with fail
  go_ret
  exact ⟨rfl,HB1.out⟩
 | false =>
  have hV : chgN s ⟨xn,false,xw⟩ = -xw := by rw [HV.out,if_neg (by simp)]
  rw [hV] at hb ⊢
  have v1 : IntKind.i64.wrap (-xw) = -xw := IntWalk.i64_in _ (by omega)
  clear hV hb hs hx
  go_enter Tryz.func73,Tryz.ntmps73
  go_wp2_with fail
  go_ret
  exact ⟨rfl,HB1.out⟩
theorem held_yes {s : SetT} {n : Int} (h1 : -s.brake ≤ n) : heldB s n = decide (n ≤ s.brake) := by
 unfold heldB betweenB
 rw [Bool.decide_and,decide_eq_true h1,Bool.true_and]
theorem held_no {s : SetT} {n : Int} (h1 : ¬ -s.brake ≤ n) : heldB s n = false := by
 unfold heldB betweenB
 rw [Bool.decide_and,decide_eq_false h1,Bool.false_and]
set_option maxRecDepth 100000 in
set_option maxHeartbeats 1000000 in
theorem brkHeld (v : Value) (s : SetT) (n : Int) (B : Nat) (w : World) (hv : SetAt w B v s) (hs : 0 ≤ s.brake ∧ s.brake ≤ 67108864) :
  Calls Tryz.prog 38 #[v,.int .i64 n] w fun e w' => e = .returned (.bool (heldB s n)) ∧ Below w.heap.size w w' := by
 obtain ⟨Al,cl,Ai,ci,Ab,cb,rfl,-,-,-⟩ := hv
 have HB1 := Lib.hid ((Below.refl _ w).alloc (Nat.le_refl _) (.cells #[.string s.name,.int .i64 s.depth,.int .i64 s.low,.int .i64 s.high,.int .i64 s.len,.slice Al s.lines.length cl,.int .i64 s.pipe,.int .i64 s.arbor,.int .i64 s.purch,.int .i64 s.most,.int .i64 s.brake,.slice Ai s.items.length ci,.slice Ab s.bricks.length cb] 26))
 have v1 : IntKind.i64.wrap (-s.brake) = -s.brake := IntWalk.i64_in _ (by omega)
 unfold setVal
 clear hs
 by_cases h1 : -s.brake ≤ n
 ·have d1 : decide (-s.brake ≤ n) = true := decide_eq_true h1
  have HV := Lib.hid (held_yes h1)
  clear h1
  go_enter Tryz.func38,Tryz.ntmps38
  go_wp2_with fail
  go_ret
  exact ⟨ret_bool HV.out.symm,HB1.out⟩
 ·have d1 : decide (-s.brake ≤ n) = false := decide_eq_false h1
  have HV := Lib.hid (held_no h1)
  clear h1
  go_enter Tryz.func38,Tryz.ntmps38
  go_wp2_with fail
  go_ret
  exact ⟨ret_bool HV.out.symm,HB1.out⟩
theorem refBetween27 (n lo hi : Int) (w : World) : Calls Tryz.prog 30 #[.int .i64 n,.int .i64 lo,.int .i64 hi] w fun e w' => e = .returned (.bool (betweenB n lo hi)) ∧ w = w' := by
 by_cases h1 : lo ≤ n
 ·by_cases h2 : n ≤ hi
  all_goals
   go_enter Tryz.func30,Tryz.ntmps30
   go_wp2
   go_ret
   exact ⟨ret_bool (by unfold betweenB;symm;simp;omega),rfl⟩
 ·have h1b : decide (lo ≤ n) = false := by simpa using h1
  go_enter Tryz.func30,Tryz.ntmps30
  go_wp2
  go_ret
  exact ⟨ret_bool (by unfold betweenB;symm;simp;omega),rfl⟩
set_option maxRecDepth 100000 in
set_option maxHeartbeats 1000000 in
theorem refHeld (v : Value) (s : SetT) (n : Int) (B : Nat) (w : World) (hv : SetAt w B v s) (hs : 0 ≤ s.brake ∧ s.brake ≤ 67108864) :
  Calls Tryz.prog 33 #[v,.int .i64 n] w fun e w' => e = .returned (.bool (heldB s n)) ∧ Below w.heap.size w w' := by
 obtain ⟨Al,cl,Ai,ci,Ab,cb,rfl,-,-,-⟩ := hv
 have HB1 := Lib.hid ((Below.refl _ w).alloc (Nat.le_refl _) (.cells #[.string s.name,.int .i64 s.depth,.int .i64 s.low,.int .i64 s.high,.int .i64 s.len,.slice Al s.lines.length cl,.int .i64 s.pipe,.int .i64 s.arbor,.int .i64 s.purch,.int .i64 s.most,.int .i64 s.brake,.slice Ai s.items.length ci,.slice Ab s.bricks.length cb] 26))
 have v1 : IntKind.i64.wrap (0 - s.brake) = -s.brake := by rw [Int.zero_sub];exact IntWalk.i64_in _ (by omega)
 have v2 : IntKind.i64.wrap (-s.brake) = -s.brake := IntWalk.i64_in _ (by omega)
 have HV : Hid (heldB s n = betweenB n (-s.brake) s.brake) := rfl
 unfold setVal
 clear hs
 go_enter Tryz.func33,Tryz.ntmps33
 go_wp2_with (go_at_call 30;refine (refBetween27 _ _ _ _).mono ?_;rintro e w' ⟨rfl,rfl⟩)
 go_ret
 exact ⟨ret_bool HV.out.symm,HB1.out⟩
theorem pathTo_bd2 {s : SetT} {l : List JobT} (hs : setB s = true) (hl : JobsOk l) {k : Nat} (hk : k ≤ l.length) : -900000000 ≤ pathTo s l k ∧ pathTo s l k ≤ 2600000000 := by
 have := path_bd hs hl k hk
 have := hl.len
 omega
theorem own_pastJ {w w' : World} {B e size n : Nat} {v : Value} {xs : List Value} (h : w.ownsRow B e size v n xs) (hb : Below w.heap.size w w') : w'.ownsRow B e size v n xs :=
 h.kept (grown_below (row := none) hb) (by
  rcases h.2 with ⟨rfl,-⟩ | ⟨g,cap,cur,rfl,-⟩
  ·exact .inl rfl
  ·right;simp [Value.ownBlock])
abbrev pathV (s : SetT) (l : List JobT) (n : Nat) : List Value := ((List.range n).map (pathTo s l)).map (Value.int .i64)
theorem pathV_succ (s : SetT) (l : List JobT) (n : Nat) : pathV s l (n + 1) = pathV s l n ++ [.int .i64 (pathTo s l n)] := by
 unfold pathV
 rw [List.range_succ,List.map_append,List.map_append]
 rfl
set_option maxRecDepth 100000 in
set_option maxHeartbeats 4000000 in
theorem brkPath (v u : Value) (s : SetT) (l : List JobT) (w : World) (hv : SetAt w w.heap.size v s) (hn : SetNames s) (hl : JobsAt w w.heap.size u l) (hj : ∀ x ∈ l,x.name.size ≤ maxLen) (hs : setB s = true) (hok : JobsOk l) :
  Calls Tryz.prog 23 #[v,u] w fun e w' => ∃ r,e = .returned (.tuple #[r,.int .i64 0]) ∧ w'.ownsRow w.heap.size 3 1 r (l.length + 1) (pathV s l (l.length + 1)) ∧ Below w.heap.size w w' := by
 have HS := Lib.hid fun W (hb : Below w.heap.size w W) => hv.grow hb
 have HBa := fun W (hb : Below w.heap.size w W) => by have := arbBalance v s W (HS.out W hb) hn;rw [if_pos hs] at this;exact this
 have HVa := Lib.hid fun W (hb : Below w.heap.size w W) => by have := brkValid u l W (hl.grow hb) hj;rw [jobsB_iff.2 hok] at this;exact this
 have HCh := Lib.hid fun (x : JobT) (hx : x ∈ l) W (hb : Below w.heap.size w W) => brkChange v s x _ W (HS.out W hb) (setB_ok hs).purch (hok.wt x hx)
 have HBd := Lib.hid fun k (hk : k ≤ l.length) => pathTo_bd2 hs hok hk
 have HLn := Lib.hid hok.len
 obtain ⟨A,c,rfl,hc1,hc2,hcell⟩ := hl.open_
 unfold maxLen at hc2
 have HC := Lib.hid hcell
 obtain ⟨Al,cl,Ai,ci,Ab,cb,rfl,-,-,-⟩ := hv
 have HD := Lib.hid (Blk.new w 26 #[.string s.name,.int .i64 s.depth,.int .i64 s.low,.int .i64 s.high,.int .i64 s.len,.slice Al s.lines.length cl,.int .i64 s.pipe,.int .i64 s.arbor,.int .i64 s.purch,.int .i64 s.most,.int .i64 s.brake,.slice Ai s.items.length ci,.slice Ab s.bricks.length cb])
 have HB1 := Lib.hid ((Below.refl _ w).alloc (Nat.le_refl _) (.cells #[.string s.name,.int .i64 s.depth,.int .i64 s.low,.int .i64 s.high,.int .i64 s.len,.slice Al s.lines.length cl,.int .i64 s.pipe,.int .i64 s.arbor,.int .i64 s.purch,.int .i64 s.most,.int .i64 s.brake,.slice Ai s.items.length ci,.slice Ab s.bricks.length cb] 26))
 have hba := HBa _ HB1.out
 have HP0 : Hid (pathTo s l 0 = balanceN s) := rfl
 clear HBa hl hn hj hs hok hcell
 unfold setVal at *
 go_enter Tryz.func23,Tryz.ntmps23
 go_wp2_with fail
 generalize w.alloc (.cells #[.string s.name,.int .i64 s.depth,.int .i64 s.low,.int .i64 s.high,.int .i64 s.len,.slice Al s.lines.length cl,.int .i64 s.pipe,.int .i64 s.arbor,.int .i64 s.purch,.int .i64 s.most,.int .i64 s.brake,.slice Ai s.items.length ci,.slice Ab s.bricks.length cb] 26) = W1 at *
 go_at_call 64
 refine hba.mono ?_
 rintro e w2 ⟨rfl,hb2⟩
 have hbx := Lib.hid (HB1.out.trans (hb2.mono HB1.out.size))
 have HD2 := Lib.hid (HD.out.below hb2 HD.out.lt)
 clear hba hb2
 go_wp2_with (go_at_call 22;fail)
 go_at_call 22
 refine (HVa.out _ hbx.out).mono ?_
 rintro e w3 ⟨rfl,hb3⟩
 have hbx3 := Lib.hid (hbx.out.trans (hb3.mono hbx.out.size))
 have HD3 := Lib.hid (HD2.out.below hb3 HD2.out.lt)
 clear hb3 hbx HD2
 rw [← HP0.out]
 go_wp2_with fail
 have HO0 := own_one w3 w.heap.size 3 (.int .i64 (pathTo s l 0)) hbx3.out.size
 have HBO := Lib.hid (hbx3.out.alloc hbx3.out.size (.cells #[.int .i64 (pathTo s l 0)] 3))
 have HDO := Lib.hid (HD3.out.below ((Below.refl w3.heap.size w3).alloc (Nat.le_refl _) (.cells #[.int .i64 (pathTo s l 0)] 3)) HD3.out.lt)
 clear hbx3 HD3
 have HO1 := Lib.hid HO0
 clear HO0
 generalize w3.heap.size = G at *
 generalize w3.alloc (.cells #[.int .i64 (pathTo s l 0)] 3) = W4 at *
 go_loopw [27,8,6] (fun ix o n wr => ∃ (k : Nat) (A3 : Option Addr) (c3 : Nat),k ≤ l.length ∧ ix = .int .i64 k ∧ o = .slice A3 (k + 1) c3 ∧ n = .int .i64 (pathTo s l k) ∧ Hid (wr.ownsRow w.heap.size 3 1 (.slice A3 (k + 1) c3) (k + 1) (pathV s l (k + 1))) ∧ Hid (Below w.heap.size w wr) ∧ Hid (Blk wr w.heap.size 26 #[.string s.name,.int .i64 s.depth,.int .i64 s.low,.int .i64 s.high,.int .i64 s.len,.slice Al s.lines.length cl,.int .i64 s.pipe,.int .i64 s.arbor,.int .i64 s.purch,.int .i64 s.most,.int .i64 s.brake,.slice Ai s.items.length ci,.slice Ab s.bricks.length cb])) (fun ix _ _ _ => l.length - (intOf ix).toNat)
 case atStart => exact ⟨0,_,_,Nat.zero_le _,rfl,rfl,rfl,HO1,HBO,HDO⟩
 case round =>
  clear HO1 HBO HDO
  obtain ⟨k,A3,c3,hk,rfl,rfl,rfl,HO,HB,HDr⟩ := hrel
  have h100 := HLn.out
  by_cases hkl : k < l.length
  ·obtain ⟨b1,off1,rfl,hb1,hc⟩ := HC.out k hkl
   have y0 := (HB.out.cell (p := ⟨b1,off1 + k * 3,none⟩) hb1).trans (hc k hkl).1
   have y1 := (HB.out.cell (p := ⟨b1,off1 + k * 3 + 1,none⟩) hb1).trans (hc k hkl).2.1
   have y2 := (HB.out.cell (p := ⟨b1,off1 + k * 3 + 2,none⟩) hb1).trans (hc k hkl).2.2
   have HSu := Lib.hid (pathTo_succ s l hkl)
   have hbd := HBd.out (k + 1) (by omega)
   have v1 : IntKind.i64.wrap (pathTo s l k + chgN s l[k]) = pathTo s l k + chgN s l[k] := IntWalk.i64_in _ (by rw [← HSu.out];omega)
   have i1 : (0 : Int) ≤ (k : Int) := Int.natCast_nonneg _
   have i2 : (k : Int) < (l.length : Int) := by omega
   have HBj := Lib.hid (HB.out.alloc HB.out.size (.cells #[.string l[k].name,.bool l[k].pipe,.int .i64 l[k].wt] 43))
   have HDj := Lib.hid (HDr.out.below ((Below.refl wr.heap.size wr).alloc (Nat.le_refl _) (.cells #[.string l[k].name,.bool l[k].pipe,.int .i64 l[k].wt] 43)) HDr.out.lt)
   have hch := HCh.out l[k] (List.getElem_mem hkl) _ HBj.out
   have z0 := HDj.out.cell 0;have z1 := HDj.out.cell 1;have z2 := HDj.out.cell 2;have z3 := HDj.out.cell 3;have z4 := HDj.out.cell 4;have z5 := HDj.out.cell 5;have z6 := HDj.out.cell 6;have z7 := HDj.out.cell 7;have z8 := HDj.out.cell 8;have z9 := HDj.out.cell 9;have z10 := HDj.out.cell 10;have z11 := HDj.out.cell 11;have z12 := HDj.out.cell 12
   simp only [List.getElem?_toArray,List.getElem?_cons_succ,List.getElem?_cons_zero] at z0 z1 z2 z3 z4 z5 z6 z7 z8 z9 z10 z11 z12
   clear hc hbd
   go_wp2_with (first | (go_at_call 39;refine hch.mono ?_;rintro e w6 ⟨rfl,hb6⟩;have HB6 := Lib.hid (HBj.out.trans (hb6.mono HBj.out.size));have HD6 := Lib.hid (HDj.out.below hb6 HDj.out.lt);have HO6 := own_pastJ (HO.out.alloc (.cells #[.string l[k].name,.bool l[k].pipe,.int .i64 l[k].wt] 43)) hb6;clear hb6) | (at_builtin;refine wpList_push _ rfl (.tmp 36) (.tmp 38) 22 rfl w.heap.size 3 info_int Tryz.underlying22 rfl _ (k + 1) _ rfl HO6 (.int .i64 (pathTo s l k + chgN s l[k])) rfl rfl (by unfold maxLen;omega) (by omega) HB6.out.size ?_;intro g3 cap3 w7 hown7 hgrow7 hbg hgg;have HB7 := Lib.hid (HB6.out.grown hgrow7 HB6.out.size (fun k hk => (HO6.lt k hk).1));have HD7 := Lib.hid (HD6.out.kept hgrow7 (HD6.out.ne_own HO6 (by decide)));rw [← HSu.out,← pathV_succ] at hown7;have HO7 := Lib.hid hown7;clear hown7 hgrow7))
   go_roundw
   case rel => exact ⟨k + 1,_,_,by omega,by go_num,rfl,by rw [HSu.out],HO7,HB7,HD7⟩
   case measure => simp [intOf];omega
  ·obtain rfl : k = l.length := by omega
   go_wp2_with fail
   refine bodyPost_ret (results_tmp2 rfl _ _ _) (by rfl) ?_
   exact ⟨_,rfl,HO.out,HB.out⟩
end Go.Proofs.YtfkikpbnigenhaaGreat

namespace Go.Proofs.YtfkikpbnigenhaaGreat
open Go.RowKit Go.Shelf
theorem entersF1 : ∀ args w,(callFunc 66 args).run Tryz.prog w = .ok (.enter 66 args) w := enters_of Tryz.func66 (by kernel_rfl) rfl
set_option maxRecDepth 100000 in
set_option maxHeartbeats 1000000 in
theorem brkFirst1 (s : SetT) (n : Int) (D B : Nat) (w : World) (Al : Option Addr) (cl : Nat) (Ai : Option Addr) (ci : Nat) (Ab : Option Addr) (cb : Nat) (hD : Blk w D 26 #[.string s.name,.int .i64 s.depth,.int .i64 s.low,.int .i64 s.high,.int .i64 s.len,.slice Al s.lines.length cl,.int .i64 s.pipe,.int .i64 s.arbor,.int .i64 s.purch,.int .i64 s.most,.int .i64 s.brake,.slice Ai s.items.length ci,.slice Ab s.bricks.length cb]) (hv : SetAt w B (setVal s Al cl Ai ci Ab cb) s) (hs : 0 ≤ s.brake ∧ s.brake ≤ 67108864) :
  Calls Tryz.prog 66 #[.int .i64 n,.pointer (some ⟨D,0,none⟩)] w fun e w' => e = .returned (.bool (!heldB s n)) ∧ Below w.heap.size w w' := by
 have hh := brkHeld _ s n B w hv hs
 have HD := Lib.hid hD
 unfold setVal at hh
 have z0 := HD.out.cell 0;have z1 := HD.out.cell 1;have z2 := HD.out.cell 2;have z3 := HD.out.cell 3;have z4 := HD.out.cell 4;have z5 := HD.out.cell 5;have z6 := HD.out.cell 6;have z7 := HD.out.cell 7;have z8 := HD.out.cell 8;have z9 := HD.out.cell 9;have z10 := HD.out.cell 10;have z11 := HD.out.cell 11;have z12 := HD.out.cell 12
 simp only [List.getElem?_toArray,List.getElem?_cons_succ,List.getElem?_cons_zero] at z0 z1 z2 z3 z4 z5 z6 z7 z8 z9 z10 z11 z12
 clear hv hD hs
 go_enter Tryz.func66,Tryz.ntmps66
 go_wp2_with (go_at_call 38;refine hh.mono ?_;rintro e w2 ⟨rfl,hb2⟩)
 go_ret
 exact ⟨rfl,hb2⟩
def allHeld (s : SetT) (l : List JobT) : Bool := upto (fun k => heldB s (pathTo s l k)) (l.length + 1)
theorem first_none (s : SetT) (l : List JobT) : ((pathL s l).findIdx? fun n => !heldB s n) = none ↔ allHeld s l = true := by
 unfold allHeld pathL
 rw [List.findIdx?_eq_none_iff,upto_iff]
 constructor
 ·intro h i hi
  have := h (pathTo s l i) (List.mem_map.2 ⟨i,List.mem_range.2 hi,rfl⟩)
  simpa using this
 ·intro h x hx
  obtain ⟨i,hi,rfl⟩ := List.mem_map.1 hx
  rw [h i (List.mem_range.1 hi)]
  rfl
set_option maxRecDepth 100000 in
set_option maxHeartbeats 2000000 in
theorem brkFirst (v u : Value) (s : SetT) (l : List JobT) (w : World) (hv : SetAt w w.heap.size v s) (hn : SetNames s) (hl : JobsAt w w.heap.size u l) (hj : ∀ x ∈ l,x.name.size ≤ maxLen) (hs : setB s = true) (hok : JobsOk l) :
  Calls Tryz.prog 24 #[v,u] w fun e w' => ∃ i : Int,e = .returned (.tuple #[.int .i64 i,.int .i64 (if allHeld s l = true then 12 else 0)]) ∧ Below w.heap.size w w' := by
 have HP := fun W (hb : Below w.heap.size w W) => brkPath v u s l W (hv.grow hb) hn (hl.grow hb) hj hs hok
 have HBr := Lib.hid (setB_ok hs).brake
 have HS := Lib.hid hv
 obtain ⟨Al,cl,Ai,ci,Ab,cb,rfl,-,-,-⟩ := hv
 have HD := Lib.hid (Blk.new w 26 #[.string s.name,.int .i64 s.depth,.int .i64 s.low,.int .i64 s.high,.int .i64 s.len,.slice Al s.lines.length cl,.int .i64 s.pipe,.int .i64 s.arbor,.int .i64 s.purch,.int .i64 s.most,.int .i64 s.brake,.slice Ai s.items.length ci,.slice Ab s.bricks.length cb])
 have HB1 := Lib.hid ((Below.refl _ w).alloc (Nat.le_refl _) (.cells #[.string s.name,.int .i64 s.depth,.int .i64 s.low,.int .i64 s.high,.int .i64 s.len,.slice Al s.lines.length cl,.int .i64 s.pipe,.int .i64 s.arbor,.int .i64 s.purch,.int .i64 s.most,.int .i64 s.brake,.slice Ai s.items.length ci,.slice Ab s.bricks.length cb] 26))
 have hp := HP _ HB1.out
 clear HP hl hn hj hs hok
 have HN := Lib.hid (first_none s l)
 have eg := entersF1
 generalize hgz : (if allHeld s l = true then (12 : Int) else 0) = gz
 have HG := Lib.hid hgz
 clear hgz
 unfold setVal at *
 go_enter Tryz.func24,Tryz.ntmps24
 go_wp2_with fail
 generalize w.alloc (.cells #[.string s.name,.int .i64 s.depth,.int .i64 s.low,.int .i64 s.high,.int .i64 s.len,.slice Al s.lines.length cl,.int .i64 s.pipe,.int .i64 s.arbor,.int .i64 s.purch,.int .i64 s.most,.int .i64 s.brake,.slice Ai s.items.length ci,.slice Ab s.bricks.length cb] 26) = W1 at *
 go_at_call 23
 refine hp.mono ?_
 rintro e w2 ⟨r,rfl,hO,hb2⟩
 have hbx := Lib.hid (HB1.out.trans (hb2.mono HB1.out.size))
 have HD2 := Lib.hid (HD.out.below hb2 HD.out.lt)
 have hI : IntsAt w2 w2.heap.size r (pathL s l) := by
  exact RowAt.of_own (l := pathL s l) (enc := Value.int .i64) hO
 have hF := indexFuncInt r (pathL s l) 66 #[.pointer (some ⟨w.heap.size,0,none⟩)] (fun n => !heldB s n) entersF1 w2 hI
  (fun t _ w' hb' => brkFirst1 s t w.heap.size w.heap.size w' Al cl Ai ci Ab cb (HD2.out.below hb' HD2.out.lt) (HS.out.below (hbx.out.trans (hb'.mono hbx.out.size)) (Nat.le_refl _)) HBr.out)
 obtain ⟨A,c,rfl,-,-,-⟩ := hI.open_
 clear hO hp hb2
 generalize (pathL s l).findIdx? (fun n => !heldB s n) = oi at *
 cases oi with
 | none =>
  have hh : allHeld s l = true := HN.out.1 rfl
  have hg : Hid (gz = 12) := by unfold Hid;rw [← HG.out,if_pos hh]
  clear hh
  go_wp2_with (go_at_call 65;refine hF.mono ?_;rintro e w3 ⟨rfl,hb3⟩;simp only [idxOf])
  refine bodyPost_ret (results_tmp2 rfl _ _ _) (by rfl) ?_
  have hg2 := hg.out
  subst hg2
  exact ⟨_,rfl,hbx.out.trans (hb3.mono hbx.out.size)⟩
 | some i =>
  have hh : ¬ allHeld s l = true := fun h => by have := HN.out.2 h;cases this
  have hg : Hid (gz = 0) := by unfold Hid;rw [← HG.out,if_neg hh]
  clear hh
  go_wp2_with (go_at_call 65;refine hF.mono ?_;rintro e w3 ⟨rfl,hb3⟩;simp only [idxOf])
  refine bodyPost_ret (results_tmp2 rfl _ _ _) (by rfl) ?_
  have hg2 := hg.out
  subst hg2
  exact ⟨_,rfl,hbx.out.trans (hb3.mono hbx.out.size)⟩
theorem vrSameInt (v1 v2 : Value) (l1 l2 : List Int) (B : Nat) (w : World) (h1 : IntsAt w B v1 l1) (h2 : IntsAt w B v2 l2) :
  Calls Tryz.prog 25 #[v1,v2] w fun e w' => e = .returned (.bool (decide (l1 = l2))) ∧ ∃ n,w.drewN n = w' := by
 have hE := equalInt v1 v2 l1 l2 B w h1 h2
 obtain ⟨A1,c1,rfl,-,-,-⟩ := RowAt.open_ h1
 obtain ⟨A2,c2,rfl,-,-,-⟩ := RowAt.open_ h2
 clear h1 h2
 go_enter Tryz.func25,Tryz.ntmps25
 go_wp2_with (go_at_call 67;refine hE.mono ?_;rintro e w' ⟨rfl,q,rfl⟩)
 go_ret
 exact ⟨rfl,_,rfl⟩
def seenV (n : Nat) (o : List Int) (k : Nat) : List Value := (List.range n).map fun (x : Nat) => .bool (decide ((x : Int) ∈ o.take k))
theorem seenV_zero (n : Nat) (o : List Int) : (madeCells (Value.bool false).cells (n * 1)).toList = seenV n o 0 := by
 rw [show (Value.bool false).cells = #[.bool false] from rfl,toList_madeCells_one,Nat.mul_one]
 unfold seenV
 rw [List.take_zero]
 simp [List.map_const']
theorem seenV_get (n : Nat) (o : List Int) (k j : Nat) (hj : j < n) : (seenV n o k)[j]? = some (.bool (decide ((j : Int) ∈ o.take k))) := by
 unfold seenV
 simp [hj]
theorem seenV_set {n : Nat} {o : List Int} {k j : Nat} (hk : k < o.length) (hj : j < n) (e : o[k] = (j : Int)) : (seenV n o k).set j (.bool true) = seenV n o (k + 1) := by
 apply List.ext_getElem?
 intro i
 rw [List.getElem?_set]
 by_cases hi : i < n
 ·rw [seenV_get n o (k + 1) i hi,take_snoc o k hk,e]
  by_cases hij : j = i
  ·subst hij
   rw [if_pos rfl,if_pos (by unfold seenV;simpa using hj)]
   simp
  ·rw [if_neg hij,seenV_get n o k i hi]
   congr 2
   exact decide_eq_decide.2 ⟨fun h => List.mem_append_left _ h,fun h => (List.mem_append.1 h).resolve_right fun h2 => hij (by have := List.mem_singleton.1 h2;omega)⟩
 ·have h1 : (seenV n o (k + 1))[i]? = none := List.getElem?_eq_none (by unfold seenV;simp;omega)
  have h2 : (seenV n o k)[i]? = none := List.getElem?_eq_none (by unfold seenV;simp;omega)
  rw [h1,h2]
  have : j ≠ i := by omega
  rw [if_neg this]
theorem info_job : (Tryz.prog.info? 43).map (fun i => (i.zero,i.size,i.bytes)) = some (some (.agg #[.string ⟨#[]⟩,.bool false,.int .i64 0]),3,32) := by kernel_rfl
theorem flatOneJob (l : List JobT) : ∀ u ∈ l.flatMap JobT.cells,u.oneCell' = true := fun u hu => by
 obtain ⟨x,_,hx⟩ := List.mem_flatMap.1 hu
 simp only [JobT.cells,List.mem_cons,List.not_mem_nil,or_false] at hx
 rcases hx with rfl | rfl | rfl <;> rfl
theorem wpList_appJ {ops : Array Oper} {rest : List Oper} {o : Oper} {a : Act} {Q : Exit → Act → World → Prop} (w : World) (hgd : o.guard = none) (s x : Operand)
  (ho : o.op = .call { callee := .builtin .append,args := #[s,x],argTypes := #[27,27] }) (B : Nat) (v1 : Value) (ts : List JobT) (h1 : w.ownsRow B 43 3 v1 ts.length (ts.flatMap JobT.cells)) (hB : B ≤ w.heap.size) (t : JobT) (a1 : Nat) (N : Blk w a1 43 t.cells.toArray)
  (hs : a.eval s = v1) (hx : a.eval x = .slice (some ⟨a1,0,none⟩) 1 1) (hlen : ts.length ≤ 1000)
  (h : ∀ g cap w',w'.ownsRow B 43 3 (.slice (some ⟨g,0,none⟩) (ts.length + 1) cap) (ts.length + 1) ((ts ++ [t]).flatMap JobT.cells) → w.grownBy w' v1.ownBlock → wpList Tryz.prog ops Q rest (a.put o.dst (.slice (some ⟨g,0,none⟩) (ts.length + 1) cap)) w') : wpList Tryz.prog ops Q (o :: rest) a w := by
 obtain ⟨i0,hi0,hz0,hz1,hz2⟩ := info_parts info_job
 refine wpList_append_lies w hgd s x 27 ho B 43 i0 _ 3 32 Tryz.underlying27 hi0 hz0 hz1 hz2 rfl (by decide) v1 ts.length (ts.flatMap JobT.cells) hs h1 ⟨a1,0,none⟩ 1 1 t.cells hx rfl
  (fun j u hu => by rw [Addr.add_lit,Nat.zero_add];exact (N.cell j).trans (by simpa using hu)) (fun u hu => flatOneJob [t] u (by simpa using hu)) (by omega) (by unfold maxLen;omega) (by omega) hB _ rfl ?_
 intro g cap w' hown hgrow _ _
 exact h g cap w' (by simpa using hown) hgrow
theorem flatLenJ (l : List JobT) : (l.flatMap JobT.cells).length = l.length * 3 := by
 induction l with
 | nil => simp
 | cons t l ih => rw [List.flatMap_cons,List.length_append,ih,List.length_cons,Nat.succ_mul];simp only [JobT.cells,List.length_cons,List.length_nil];omega
theorem JobsAt.of_own {w : World} {base n : Nat} {v : Value} {l : List JobT} (h : w.ownsRow base 43 3 v n (l.flatMap JobT.cells)) : JobsAt w w.heap.size v l := by
 have hn : n = l.length := by
  have := h.1
  rw [flatLenJ l] at this
  omega
 subst hn
 exact Flat.of_own h
end Go.Proofs.YtfkikpbnigenhaaGreat
