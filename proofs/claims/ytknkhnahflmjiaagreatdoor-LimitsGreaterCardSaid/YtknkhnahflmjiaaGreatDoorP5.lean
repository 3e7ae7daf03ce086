/- Parts of the proof, laid into one text: GreatP, SlI, GreatQ, LawGreat. -/
import Derived.BigQuiet
import Derived.Deep.AppendLies
import Derived.Deep.DeepCutAuto
import Derived.Deep.Draws
import Derived.Deep.LoopGhost
import Derived.Deep.QuietTactic
import Derived.Deep.RegionHeld3
import Derived.Deep.RegionLaw
import Derived.IntWalk
import Derived.Laws.AppendOwnNone
import Derived.Laws.Bits64b
import Derived.Laws.CopyOwn
import Derived.Laws.CopyRow
import Derived.Lib.Hide
import Derived.Lib.ItoaNum
import Derived.LoopIn
import Derived.LoopNIn
import Derived.Maps.AppendAt
import Derived.Maps.Own
import Derived.Maps.OwnOps
import Derived.Maps.OwnSet
import Derived.Maps.Views
import Derived.Outline
import Derived.OwnWalkIn
import Derived.PlainAid
import Derived.RangeFuncBox
import Derived.RangeFuncLeaves
import Derived.Shelf.Abstract
import Derived.Shelf.Bits.Mul64
import Derived.Shelf.Small.Bits
import Derived.Shelf.Spec.BitsCarry
import Derived.Shelf.Spec.SlicesGrow
import Derived.Shelf.Strconv.Itoa3
import Derived.StillTail
import Derived.StillTailTactics
import Derived.TacticsInMore
import Derived.Test.YtknkhnahflmjiaaGreatDoorB1
import Derived.Test.YtknkhnahflmjiaaGreatDoorE1
import Derived.Test.YtknkhnahflmjiaaGreatDoorE2
import Derived.Test.YtknkhnahflmjiaaGreatDoorE3
import Derived.Test.YtknkhnahflmjiaaGreatDoorE4
import Derived.Test.YtknkhnahflmjiaaGreatDoorE5
import Derived.Test.YtknkhnahflmjiaaGreatDoorE6
import Derived.Test.YtknkhnahflmjiaaGreatDoorE7
import Derived.Test.YtknkhnahflmjiaaGreatDoorF1
import Derived.Test.YtknkhnahflmjiaaGreatDoorF2
import Derived.Test.YtknkhnahflmjiaaGreatDoorF3
import Derived.Test.YtknkhnahflmjiaaGreatDoorF4
import Derived.Test.YtknkhnahflmjiaaGreatDoorH1
import Derived.Test.YtknkhnahflmjiaaGreatDoorH2
import Derived.Test.YtknkhnahflmjiaaGreatDoorH3
import Derived.Test.YtknkhnahflmjiaaGreatDoorH4
import Derived.Test.YtknkhnahflmjiaaGreatDoorH5
import Derived.Test.YtknkhnahflmjiaaGreatDoorH6
import Derived.Test.YtknkhnahflmjiaaGreatDoorH7
import Derived.Test.YtknkhnahflmjiaaGreatDoorH9
import Derived.Test.YtknkhnahflmjiaaGreatDoorP1
import Derived.Test.YtknkhnahflmjiaaGreatDoorP2
import Derived.Test.YtknkhnahflmjiaaGreatDoorP3
import Derived.Test.YtknkhnahflmjiaaGreatDoorP4
import Derived.Test.YtknkhnahflmjiaaGreatDoorProg
import Derived.WalkKit
import Derived.WalkLawsBesides
import Derived.WalkSpells

namespace Go.Proofs.YtknkhnahflmjiaaGreatDoor
open Go.RowKit Go.Shelf
theorem ok_of_good {a : FrT} (h : frGood a = true) : fracOk (qOf a) = true := by
 have h1 := q_den_pos h
 have h2 := (q_parts h).1
 have h3 := good_bd h
 unfold fracOk
 simp only [Bool.and_eq_true,decide_eq_true_eq]
 omega
theorem over_iff0 {m : Int} {f a : FrT} (hm : 0 ≤ m ∧ m ≤ 67108864) (hk : fracOk (qOf a * qOf f) = true) : over23 m f a = true ↔ qOf ⟨m,1⟩ < qOf a * qOf f := by
 have h := (cmp_q (good_q hk) (good_one (m := m) (by omega) (by omega))).2
 rw [q_fr] at h
 unfold over23
 rw [hk,Bool.true_and,decide_eq_true_eq,← h]
 have := @cmp_two (frOf (qOf a * qOf f)) ⟨m,1⟩
 omega
theorem q_one_le {m n : Int} (h : m ≤ n) : qOf ⟨m,1⟩ ≤ qOf ⟨n,1⟩ := by
 have e : ∀ k : Int,qOf ⟨k,1⟩ = (k : Rat) := fun k => by
  show mkRat k 1 = _
  rw [Rat.mkRat_one]
 rw [e,e]
 exact Rat.intCast_le_intCast.2 h
theorem over_great {m : Int} {lo hi a : FrT} (hm : 0 ≤ m ∧ m ≤ 67108864) (h0 : 0 ≤ qOf lo) (hle : qOf lo ≤ qOf hi) (k1 : fracOk (qOf a * qOf lo) = true) (k2 : fracOk (qOf a * qOf hi) = true) (h : over23 m lo a = true) : over23 m hi a = true := by
 rw [over_iff0 hm k1] at h
 rw [over_iff0 hm k2]
 have hm0 : 0 ≤ qOf ⟨m,1⟩ := q_nonneg (good_one (by omega) (by omega)) hm.1
 have ha : 0 ≤ qOf a := by
  refine Rat.not_lt.1 fun hn => ?_
  have h1 := Rat.mul_le_mul_of_nonneg_right (Rat.le_of_lt hn) h0
  rw [Rat.zero_mul] at h1
  exact Rat.not_lt.2 (Rat.le_trans h1 hm0) h
 exact Rat.not_le.1 fun hn => Rat.not_le.2 h (Rat.le_trans (Rat.mul_le_mul_of_nonneg_left hle ha) hn)
theorem over_limit {m n : Int} {f a : FrT} (hm : 0 ≤ m ∧ m ≤ 67108864) (hn : 0 ≤ n ∧ n ≤ 67108864) (hmn : m ≤ n) (k1 : fracOk (qOf a * qOf f) = true) (h : over23 n f a = true) : over23 m f a = true := by
 rw [over_iff0 hn k1] at h
 rw [over_iff0 hm k1]
 exact Rat.not_le.1 fun h2 => Rat.not_le.2 h (Rat.le_trans h2 (q_one_le hmn))
theorem over_one {r : RoofT} {a : FrT} (ha : frGood a = true) : over23 r.most ⟨1,1⟩ a = heavyB r a := by
 have e : qOf a * qOf ⟨1,1⟩ = qOf a := by
  rw [show qOf ⟨1,1⟩ = (1 : Rat) from rfl,Rat.mul_one]
 unfold over23 heavyB
 rw [e,fr_q ha,show fracOk (qOf a) = true from ok_of_good ha,Bool.true_and]
theorem hitsN_sub {kind : Int} {p q : FrT → Bool} {l : List FrT} (h : ∀ a ∈ l,p a = true → q a = true) : ∀ k x,x ∈ hitsN kind p l k → x ∈ hitsN kind q l k
 | 0,_,hx => hx
 | k + 1,x,hx => by
  rw [hitsN,List.mem_append] at hx ⊢
  refine hx.imp (hitsN_sub h k x) fun hx => ?_
  revert hx
  cases e : l[k]? with
  | none => exact id
  | some f =>
   dsimp only
   intro hx
   cases ep : p f with
   | false => rw [ep,if_neg (by decide)] at hx;cases hx
   | true =>
    rw [ep,if_pos rfl] at hx
    rw [h f (List.mem_of_getElem? e) ep,if_pos rfl]
    exact hx
theorem hitsR_sub {f g : FrT} {l : List RoofT} {L : List FrT} (h : ∀ r ∈ l,∀ a ∈ L,over23 r.most f a = true → over23 r.most g a = true) : ∀ k x,x ∈ hitsR f l L k → x ∈ hitsR g l L k
 | 0,_,hx => hx
 | k + 1,x,hx => by
  rw [hitsR,List.mem_append] at hx ⊢
  refine hx.imp (hitsR_sub h k x) fun hx => ?_
  revert hx
  cases e1 : l[k]? with
  | none => exact id
  | some r =>
   cases e2 : L[k]? with
   | none => exact id
   | some a =>
    dsimp only
    intro hx
    cases ep : over23 r.most f a with
    | false => rw [ep,if_neg (by decide)] at hx;cases hx
    | true =>
     rw [ep,if_pos rfl] at hx
     rw [h r (List.mem_of_getElem? e1) a (List.mem_of_getElem? e2) ep,if_pos rfl]
     exact hx
theorem hits_one {l : List RoofT} {L : List FrT} (hL : ∀ a ∈ L,frGood a = true) : ∀ k,(hitsR ⟨1,1⟩ l L k).map FindT.name = (hitsO l L k).map FindT.name
 | 0 => rfl
 | k + 1 => by
  rw [hitsR,hitsO,List.map_append,List.map_append,hits_one hL k]
  congr 1
  cases e1 : l[k]? with
  | none => rfl
  | some r =>
   cases e2 : L[k]? with
   | none => rfl
   | some a =>
    dsimp only
    rw [over_one (hL a (List.mem_of_getElem? e2))]
    cases heavyB r a with
    | false => rfl
    | true => rfl
def chkL (s : SetT) (f : FrT) : List FindT := if check23E s f = 0 then finds23 s.most f (linesL s) else []
def rofL (l : List RoofT) (at_ : List LoadT) (f : FrT) : List FindT := if roofsE l at_ f = 0 then findsR f l at_ else []
def ovrL (l : List RoofT) (at_ : List LoadT) : List FindT := if gridE nameB l at_ = 0 then findsO l at_ else []
def mostS (s : SetT) (m : Int) : SetT := ⟨s.name,s.depth,s.low,s.high,s.len,s.lines,s.pipe,s.arbor,s.purch,m,s.brake,s.items,s.bricks⟩
theorem check_0 {s : SetT} {f : FrT} (h : check23E s f = 0) : setB s = true ∧ facE f = 0 ∧ ∀ a ∈ linesL s,fracOk (qOf a * qOf f) = true := by
 unfold check23E at h
 split at h
 ·rename_i h1
  obtain ⟨h2,h3,-⟩ := given23 h1
  split at h
  ·rename_i h4
   unfold fits23 at h4
   exact ⟨h2,h3,List.all_eq_true.1 h4⟩
  ·cases h
 ·rename_i h1
  exact absurd h h1
theorem fac_1 {f : FrT} (h : facE f = 0) : 0 ≤ qOf f ∧ qOf ⟨1,1⟩ ≤ qOf f := by
 obtain ⟨h1,h2,-,-⟩ := fac23 h
 have hb := good_bd h1
 refine ⟨q_nonneg h1 (by omega),Rat.not_lt.1 fun hn => ?_⟩
 have h3 := (cmpF_lt h1 (good_one (m := 1) (by decide) (by decide))).2 hn
 unfold cmpF at h3
 dsimp only at h3
 split at h3
 ·omega
 ·split at h3 <;> omega
theorem great_check {s : SetT} {lo hi : FrT} (hle : qOf lo ≤ qOf hi) (h1 : check23E s lo = 0) (h2 : check23E s hi = 0) : ∀ x ∈ chkL s lo,x ∈ chkL s hi := by
 unfold chkL
 rw [if_pos h1,if_pos h2]
 obtain ⟨a1,a2,a3⟩ := check_0 h1
 obtain ⟨-,-,b3⟩ := check_0 h2
 have hm := (setB_ok a1).most
 intro x hx
 unfold finds23 at hx ⊢
 rw [List.mem_append] at hx ⊢
 exact hx.imp (hitsN_sub (fun a ha => over_great ⟨by omega,hm.2⟩ (fac_1 a2).1 hle (a3 a ha) (b3 a ha)) _ _) id
theorem great_limit {s : SetT} {m : Int} {f : FrT} (hm : 0 ≤ m ∧ m ≤ 65535) (h1 : check23E (mostS s (IntKind.i64.wrap (s.most + m))) f = 0) (h2 : check23E s f = 0) : ∀ x ∈ chkL (mostS s (IntKind.i64.wrap (s.most + m))) f,x ∈ chkL s f := by
 unfold chkL
 rw [if_pos h1,if_pos h2]
 obtain ⟨a1,a2,a3⟩ := check_0 h2
 have hs := (setB_ok a1).most
 have ht := (setB_ok (check_0 h1).1).most
 have e : IntKind.i64.wrap (s.most + m) = s.most + m := IntWalk.i64_in _ (by omega)
 rw [e] at ht ⊢
 have ht2 : 1 ≤ s.most + m ∧ s.most + m ≤ 67108864 := ht
 show ∀ x ∈ finds23 (s.most + m) f (linesL s),x ∈ finds23 s.most f (linesL s)
 intro x hx
 unfold finds23 at hx ⊢
 rw [List.mem_append] at hx ⊢
 exact hx.imp (hitsN_sub (fun a ha => over_limit ⟨by omega,hs.2⟩ ⟨by omega,ht2.2⟩ (by omega) (a3 a ha)) _ _) id
theorem roofs_0 {l : List RoofT} {at_ : List LoadT} {f : FrT} (h : roofsE l at_ f = 0) : gridE nameB l at_ = 0 ∧ facE f = 0 ∧ ∀ a ∈ borneL l at_,fracOk (qOf a * qOf f) = true := by
 unfold roofsE at h
 split at h
 ·cases h
 ·split at h
  ·rename_i h1;exact absurd h h1
  ·rename_i h1
   split at h
   ·rename_i h2;exact absurd h h2
   ·rename_i h2
    split at h
    ·rename_i h3
     unfold fits23 at h3
     exact ⟨Decidable.of_not_not h2,Decidable.of_not_not h1,List.all_eq_true.1 h3⟩
    ·cases h
theorem roofs_1 {l : List RoofT} {at_ : List LoadT} (h : gridE nameB l at_ = 0) : roofsE l at_ ⟨1,1⟩ = 0 := by
 obtain ⟨-,-,h3⟩ := grid_ok h
 unfold roofsE
 rw [if_neg (by rw [h];decide),if_neg (by decide),if_neg (by rw [h];decide),if_pos]
 unfold fits23
 rw [List.all_eq_true]
 intro a ha
 rw [show qOf ⟨1,1⟩ = (1 : Rat) from rfl,Rat.mul_one]
 exact ok_of_good (h3 a ha)
theorem great_roofs {l : List RoofT} {at_ : List LoadT} {lo hi : FrT} (hle : qOf lo ≤ qOf hi) (h1 : roofsE l at_ lo = 0) (h2 : roofsE l at_ hi = 0) : ∀ x ∈ rofL l at_ lo,x ∈ rofL l at_ hi := by
 unfold rofL
 rw [if_pos h1,if_pos h2]
 obtain ⟨a1,a2,a3⟩ := roofs_0 h1
 obtain ⟨-,-,b3⟩ := roofs_0 h2
 obtain ⟨g1,-,-⟩ := grid_ok a1
 exact hitsR_sub (fun r hr a ha => over_great (g1 r hr) (fac_1 a2).1 hle (a3 a ha) (b3 a ha)) _
theorem great_over {l : List RoofT} {at_ : List LoadT} (h : gridE nameB l at_ = 0) : (rofL l at_ ⟨1,1⟩).map FindT.name = (ovrL l at_).map FindT.name := by
 unfold rofL ovrL
 rw [if_pos (roofs_1 h),if_pos h]
 exact hits_one (grid_ok h).2.2 _
end Go.Proofs.YtknkhnahflmjiaaGreatDoor

namespace Go.Proofs.YtknkhnahflmjiaaGreatDoor
open Go.RowKit Go.Shelf
set_option maxRecDepth 100000 in
set_option maxHeartbeats 1000000 in
theorem indexFind (v : Value) (l : List FindT) (x : FindT) (w : World) (hl : FindsAt w w.heap.size v l) :
  Calls Tryz.prog 68 #[v,x.val] w fun e w' => ∃ z : Int,e = .returned (.int .i64 z) ∧ decide (0 ≤ z) = decide (x ∈ l) ∧ Below w.heap.size w w' := by
 obtain ⟨A,c,rfl,hc1,hc2,hcell⟩ := hl.open_
 unfold maxLen at hc2
 have HC := Lib.hid hcell
 have HB0 := Lib.hid ((Below.refl _ w).alloc (Nat.le_refl _) (.cells #[.int .i64 x.kind,.string x.name] 49))
 have HX0 := Lib.hid (Blk.new w 49 #[.int .i64 x.kind,.string x.name])
 clear hl hcell
 go_enter Tryz.func68,Tryz.ntmps68
 go_upto_region 2 with fail
 generalize w.alloc (.cells #[.int .i64 x.kind,.string x.name] 49) = W1 at *
 have HN0 : Hid (x ∉ l.take 0) := by unfold Hid;simp
 go_loopw [8] (fun s wr => ∃ j : Nat,j ≤ l.length ∧ s = .int .i64 j ∧ Hid (x ∉ l.take j) ∧ Hid (Below W1.heap.size W1 wr)) (fun x _ => l.length - (intOf x).toNat)
 case atStart => exact ⟨0,Nat.zero_le _,rfl,HN0,Below.refl _ _⟩
 case round =>
  clear HN0
  obtain ⟨j,hj,rfl,HN,HT⟩ := hrel
  have j0 : (0 : Int) ≤ (j : Int) := Int.natCast_nonneg _
  have HBz := Lib.hid (HB0.out.trans (HT.out.mono HB0.out.size))
  by_cases hlt : j < l.length
  ·have j1 : (j : Int) < (l.length : Int) := by omega
   obtain ⟨b1,o1,rfl,hb1,hx⟩ := HC.out j hlt
   have y0 := (HBz.out.cell (p := ⟨b1,o1 + j * 2,none⟩) hb1).trans (hx j hlt).1
   have y1 := (HBz.out.cell (p := ⟨b1,o1 + j * 2 + 1,none⟩) hb1).trans (hx j hlt).2
   have hX := HX0.out.below HT.out HX0.out.lt
   have x0 := hX.cell 0
   have x1 := hX.cell 1
   simp only [List.getElem?_toArray,List.getElem?_cons_succ,List.getElem?_cons_zero] at x0 x1
   clear hx hX
   by_cases hq : x = l[j]
   ·have ht : (x.kind == l[j].kind) = true := by rw [← hq];exact beq_self_eq_true _
    have ht' : (x.name.toList == l[j].name.toList) = true := by rw [← hq];exact beq_self_eq_true _
    have HM : Hid (x ∈ l) := by unfold Hid;rw [hq];exact List.getElem_mem hlt
    clear hq
    go_wp2
    go_quiet (fail)
    go_wp2
    go_ret
    exact ⟨(j : Int),rfl,by rw [decide_eq_true j0,decide_eq_true HM.out],below_drewN HBz.out _⟩
   ·have HQ := Lib.hid hq
    have HNn : Hid (x ∉ l.take (j + 1)) := by
     unfold Hid
     rw [take_snoc l j hlt,List.mem_append,List.mem_singleton]
     rintro (h | h)
     ·exact HN.out h
     ·exact hq h
    by_cases hn : x.kind = l[j].kind
    ·have ht : (x.kind == l[j].kind) = true := beq_iff_eq.2 hn
     have ht' : (x.name.toList == l[j].name.toList) = false := by
      rw [str_beq]
      exact decide_eq_false fun h => HQ.out (by
      cases e1 : x;cases e2 : l[j]
      rw [e1,e2] at hn h
      simp only at hn h
      rw [hn,h])
     clear hq hn
     go_wp2
     go_quiet (fail)
     go_wp2
     go_roundw
     case rel => exact ⟨j + 1,by omega,by go_num,HNn,below_drewN HT.out _⟩
     case measure => simp [intOf];omega
    ·have ht : (x.kind == l[j].kind) = false := beq_eq_false_iff_ne.2 hn
     clear hq hn
     go_wp2
     go_quiet (fail)
     go_wp2
     go_roundw
     case rel => exact ⟨j + 1,by omega,by go_num,HNn,below_drewN HT.out _⟩
     case measure => simp [intOf];omega
  ·obtain rfl : j = l.length := by omega
   have HNo : Hid (x ∉ l) := by have h := HN.out;rw [List.take_length] at h;exact h
   go_wp2
   go_ret
   exact ⟨-1,rfl,by rw [decide_eq_false HNo.out];decide,HBz.out⟩
set_option maxHeartbeats 400000 in
theorem containsFind (v : Value) (l : List FindT) (x : FindT) (w : World) (hl : FindsAt w w.heap.size v l) :
  Calls Tryz.prog 22 #[v,x.val] w fun e w' => e = .returned (.bool (decide (x ∈ l))) ∧ Below w.heap.size w w' := by
 have hb := (Below.refl _ w).alloc (Nat.le_refl _) (.cells #[.int .i64 x.kind,.string x.name] 49)
 have hix := indexFind v l x _ ((hl.below hb (Nat.le_refl _)).mono hb.size)
 have HB := Lib.hid hb
 have HX := Lib.hid (Blk.new w 49 #[.int .i64 x.kind,.string x.name])
 have x0 := HX.out.cell 0
 have x1 := HX.out.cell 1
 simp only [List.getElem?_toArray,List.getElem?_cons_succ,List.getElem?_cons_zero] at x0 x1
 clear hl hb
 obtain ⟨k,n⟩ := x
 simp only at *
 go_enter Tryz.func22,Tryz.ntmps22
 go_wp2_with (go_at_call 68;refine hix.mono ?_;rintro e w' ⟨z,rfl,hz,hb'⟩)
 go_ret
 exact ⟨ret_bool (by rw [← hz]),HB.out.trans (hb'.mono HB.out.size)⟩
end Go.Proofs.YtknkhnahflmjiaaGreatDoor

namespace Go.Proofs.YtknkhnahflmjiaaGreatDoor
open Go.RowKit Go.Shelf
theorem finds_grow {w w' : World} {v : Value} {l : List FindT} (h : FindsAt w w.heap.size v l) (hb : Below w.heap.size w w') : FindsAt w' w'.heap.size v l := (h.below hb (Nat.le_refl _)).mono hb.size
theorem entersGr1 : ∀ args w,(callFunc 36 args).run Tryz.prog w = .ok (.enter 36 args) w := enters_of Tryz.func36 (by kernel_rfl) rfl
theorem entersGr3 : ∀ args w,(callFunc 38 args).run Tryz.prog w = .ok (.enter 38 args) w := enters_of Tryz.func38 (by kernel_rfl) rfl
theorem lawGreat1 (x : RoofT) (hx : x.name.size ≤ maxLen) (w : World) : Calls Tryz.prog 36 #[x.val] w fun e w' => e = .returned (.bool (decide (60 < x.name.size))) ∧ Below w.heap.size w w' := by
 obtain ⟨nm,lo,hi,most⟩ := x
 simp only at *
 unfold maxLen at hx
 have HB := (Below.refl w.heap.size w).alloc (Nat.le_refl _) (.cells #[.string nm,.int .i64 lo,.int .i64 hi,.int .i64 most] 69)
 have y0 := (Blk.new w 69 #[.string nm,.int .i64 lo,.int .i64 hi,.int .i64 most]).cell 0
 simp only [List.getElem?_toArray,List.getElem?_cons_zero] at y0
 obtain ⟨q,hq⟩ : ∃ q,decide ((60 : Int) < (nm.size : Int)) = q := ⟨_,rfl⟩
 have hq2 : decide (60 < nm.size) = q := by rw [← hq,decide_eq_decide];omega
 rw [hq2]
 clear hq2
 go_enter Tryz.func36,Tryz.ntmps36
 go_wp2_with fail
 go_ret
 exact ⟨ret_bool (by first | rfl | assumption),HB⟩
theorem lawGreat3 (u : Value) (Y : List FindT) (x : FindT) (g : Nat) (w : World) (hu : FindsAt w w.heap.size u Y) (hg : w.cell? ⟨g,0,none⟩ = some u) (hl : g < w.heap.size) : Calls Tryz.prog 38 (#[x.val] ++ #[.pointer (some ⟨g,0,none⟩)]) w fun e w' => e = .returned (.bool (!decide (x ∈ Y))) ∧ Below w.heap.size w w' := by
 have HB := (Below.refl w.heap.size w).alloc (Nat.le_refl _) (.cells #[.int .i64 x.kind,.string x.name] 49)
 have HD := Blk.new w 49 #[.int .i64 x.kind,.string x.name]
 have hg' := (HB.cell (p := ⟨g,0,none⟩) hl).trans hg
 have hc := containsFind u Y x _ (finds_grow hu HB)
 obtain ⟨A,c,rfl,-⟩ := hu.open_
 have z0 := HD.cell 0
 have z1 := HD.cell 1
 simp only [List.getElem?_toArray,List.getElem?_cons_succ,List.getElem?_cons_zero] at z0 z1
 generalize decide (x ∈ Y) = q at *
 obtain ⟨k,n⟩ := x
 simp only at *
 rw [show #[FindT.val ⟨k,n⟩] ++ #[.pointer (some ⟨g,0,none⟩)] = #[FindT.val ⟨k,n⟩,.pointer (some ⟨g,0,none⟩)] by simp]
 clear hu HD
 go_enter Tryz.func38,Tryz.ntmps38
 go_upto_region 1 with fail
 generalize w.alloc (.cells #[.int .i64 k,.string n] 49) = W1 at *
 go_wp2_with (first | (go_at_call 22;refine hc.mono ?_;rintro e w2 ⟨rfl,hb2⟩))
 go_ret
 exact ⟨rfl,HB.trans (hb2.mono HB.size)⟩
theorem lawGreat2 (v u : Value) (X Y : List FindT) (w : World) (hv : FindsAt w w.heap.size v X) (hu : FindsAt w w.heap.size u Y) : Calls Tryz.prog 37 #[v,u] w fun e w' => e = .returned (.bool (!X.any fun x => !decide (x ∈ Y))) ∧ Below w.heap.size w w' := by
 obtain ⟨A,c,rfl,-⟩ := hv.open_
 obtain ⟨A1,c1,rfl,-⟩ := hu.open_
 have HB := Lib.hid ((Below.refl w.heap.size w).alloc (Nat.le_refl _) (.cells #[.slice A1 Y.length c1] 39))
 have HD := Lib.hid (Blk.new w 39 #[.slice A1 Y.length c1])
 have hcf := containsFuncFind _ X 38 #[.pointer (some ⟨w.heap.size,0,none⟩)] (fun x => !decide (x ∈ Y)) entersGr3 _ (finds_grow hv HB.out) (fun t _ W hb => by
  have h1 := finds_grow hu (HB.out.trans (hb.mono HB.out.size))
  have h2 := HD.out.below hb HD.out.lt
  have h3 := h2.cell 0
  simp only [List.getElem?_toArray,List.getElem?_cons_zero] at h3
  exact lawGreat3 _ Y t w.heap.size W h1 h3 h2.lt)
 generalize (X.any fun x => !decide (x ∈ Y)) = q at *
 clear hv hu HD
 go_enter Tryz.func37,Tryz.ntmps37
 go_upto_region 1 with fail
 generalize w.alloc (.cells #[.slice A1 Y.length c1] 39) = W1 at *
 go_wp2_with (first | (go_at_call 29;refine hcf.mono ?_;rintro e w2 ⟨rfl,hb2⟩))
 go_ret
 exact ⟨rfl,HB.out.trans (hb2.mono HB.out.size)⟩
theorem all_sub {X Y : List FindT} (h : ∀ x ∈ X,x ∈ Y) : (!X.any fun x => !decide (x ∈ Y)) = true := by
 rw [Bool.not_eq_true',List.any_eq_false]
 intro x hx
 rw [decide_eq_true (h x hx)]
 decide
theorem lawGreatAll (v u : Value) (X Y : List FindT) (w : World) (hv : FindsAt w w.heap.size v X) (hu : FindsAt w w.heap.size u Y) (h : ∀ x ∈ X,x ∈ Y) : Calls Tryz.prog 37 #[v,u] w fun e w' => e = .returned (.bool true) ∧ Below w.heap.size w w' := by
 have h1 := lawGreat2 v u X Y w hv hu
 rw [all_sub h] at h1
 exact h1
def cmpN (a b : FrT) : Int := if frGood a = true ∧ frGood b = true then cmpF a b else 0
def cmpE (a b : FrT) : Int := if frGood a = true ∧ frGood b = true then 0 else 1
theorem raCmpX (a b : FrT) (w : World) : Calls Tryz.prog 31 #[a.val,b.val] w fun e w' => e = .returned (.tuple #[.int .i64 (cmpN a b),.int .i64 (cmpE a b)]) ∧ Below w.heap.size w w' := by
 by_cases hg : frGood a = true ∧ frGood b = true
 ·have h := raCmpA a b w hg.1 hg.2
  unfold cmpN cmpE
  rw [if_pos hg,if_pos hg]
  exact h
 have hva := fun W => raValid a W
 have hvb := fun W => raValid b W
 have e1 : cmpN a b = 0 := if_neg hg
 have e2 : cmpE a b = 1 := if_neg hg
 rw [e1,e2]
 clear e1 e2
 obtain ⟨an,ad⟩ := a
 obtain ⟨bn,bd⟩ := b
 generalize frGood ⟨an,ad⟩ = ga at *
 generalize frGood ⟨bn,bd⟩ = gb at *
 have D1 := Lib.hid (Blk.new (w.alloc (.cells #[.int .i64 an,.int .i64 ad] 23)) 23 #[.int .i64 bn,.int .i64 bd])
 have HB := Lib.hid (((Below.refl _ w).alloc (Nat.le_refl _) (.cells #[.int .i64 an,.int .i64 ad] 23)).alloc (by simp) (.cells #[.int .i64 bn,.int .i64 bd] 23))
 rw [World.size_alloc] at D1
 go_enter Tryz.func31,Tryz.ntmps31
 go_wp2_with fail
 generalize (w.alloc (.cells #[.int .i64 an,.int .i64 ad] 23)).alloc (.cells #[.int .i64 bn,.int .i64 bd] 23) = W1 at *
 refine (hva W1).mono ?_
 rintro e w2 ⟨rfl,hb2⟩
 have HB := Lib.hid (HB.out.trans (hb2.mono HB.out.size))
 cases ga with
 | false =>
  go_wp2_with fail
  go_ret2
  exact ⟨rfl,HB.out⟩
 | true =>
  cases gb with
  | true => exact absurd ⟨rfl,rfl⟩ hg
  | false =>
   have D1 := D1.out.below hb2 D1.out.lt
   have u0 := D1.cell 0
   have u1 := D1.cell 1
   simp only [List.getElem?_toArray,List.getElem?_cons_succ,List.getElem?_cons_zero] at u0 u1
   clear hg
   go_wp2_with fail
   refine (hvb w2).mono ?_
   rintro e w3 ⟨rfl,hb3⟩
   have HB := Lib.hid (HB.out.trans (hb3.mono HB.out.size))
   go_wp2_with fail
   go_ret2
   exact ⟨rfl,HB.out⟩
end Go.Proofs.YtknkhnahflmjiaaGreatDoor

namespace Go.Proofs.YtknkhnahflmjiaaGreatDoor
open Go.RowKit Go.Shelf
theorem Check23Post.one {s : SetT} {f : FrT} {w w' : World} {e : Ending} (h : Check23Post s f w e w') : ∃ A c,e = .returned (.tuple #[.slice A (chkL s f).length c,.int .i64 (check23E s f)]) ∧ Below w.heap.size w w' ∧ FindsAt w' w'.heap.size (.slice A (chkL s f).length c) (chkL s f) := by
 obtain ⟨hb,⟨h0,v,rfl,hF⟩ | ⟨h0,rfl⟩⟩ := h
 ·obtain ⟨A,c,rfl,-⟩ := hF.open_
  have e : chkL s f = finds23 s.most f (linesL s) := if_pos h0
  rw [e]
  exact ⟨A,c,by rw [h0],hb,hF⟩
 ·have e : chkL s f = [] := if_neg h0
  rw [e]
  exact ⟨none,0,rfl,hb,Flat.of_own (World.ownsRow_nil _ 0 49 2)⟩
theorem RoofsPost.len {l : List RoofT} {at_ : List LoadT} {f : FrT} {w w' : World} {e : Ending} (h : RoofsPost l at_ f w e w') : ∃ A c,e = .returned (.tuple #[.slice A (rofL l at_ f).length c,.int .i64 (roofsE l at_ f)]) ∧ Below w.heap.size w w' ∧ FindsAt w' w'.heap.size (.slice A (rofL l at_ f).length c) (rofL l at_ f) := by
 obtain ⟨hb,⟨h0,v,rfl,hF⟩ | ⟨h0,rfl⟩⟩ := h
 ·obtain ⟨A,c,rfl,-⟩ := hF.open_
  have e : rofL l at_ f = findsR f l at_ := if_pos h0
  rw [e]
  exact ⟨A,c,by rw [h0],hb,hF⟩
 ·have e : rofL l at_ f = [] := if_neg h0
  rw [e]
  exact ⟨none,0,rfl,hb,Flat.of_own (World.ownsRow_nil _ 0 49 2)⟩
theorem OverPost.len {l : List RoofT} {at_ : List LoadT} {w w' : World} {e : Ending} (h : OverPost l at_ w e w') : ∃ A c,e = .returned (.tuple #[.slice A (ovrL l at_).length c,.int .i64 (gridE nameB l at_)]) ∧ Below w.heap.size w w' ∧ FindsAt w' w'.heap.size (.slice A (ovrL l at_).length c) (ovrL l at_) := by
 obtain ⟨hb,⟨h0,v,rfl,hF⟩ | ⟨h0,rfl⟩⟩ := h
 ·obtain ⟨A,c,rfl,-⟩ := hF.open_
  have e : ovrL l at_ = findsO l at_ := if_pos h0
  rw [e]
  exact ⟨A,c,by rw [h0],hb,hF⟩
 ·have e : ovrL l at_ = [] := if_neg h0
  rw [e]
  exact ⟨none,0,rfl,hb,Flat.of_own (World.ownsRow_nil _ 0 49 2)⟩
theorem cmp_swap {a b : FrT} (h : cmpE a b = 0) : (0 < cmpN a b → qOf b ≤ qOf a) ∧ (¬ 0 < cmpN a b → qOf a ≤ qOf b) := by
 unfold cmpE at h
 split at h
 ·rename_i hg
  have e : cmpN a b = cmpF a b := if_pos hg
  have h1 := cmp_q hg.1 hg.2
  have h2 := @cmp_two a b
  rw [e]
  refine ⟨fun h3 => Rat.le_of_lt (h1.2.1 (by omega)),fun h3 => Rat.not_lt.1 fun h4 => ?_⟩
  have h5 := h1.2.2 h4
  omega
 ·cases h
theorem great_end {l : List RoofT} {at_ : List LoadT} {lo hi : FrT} (hle : qOf lo ≤ qOf hi) (h1 : roofsE l at_ lo = 0) (h2 : roofsE l at_ hi = 0) :
  roofsE l at_ ⟨1,1⟩ = 0 ∧ gridE nameB l at_ = 0 ∧ (rofL l at_ ⟨1,1⟩).map FindT.name = (ovrL l at_).map FindT.name ∧ (∀ x ∈ rofL l at_ lo,x ∈ rofL l at_ hi) ∧ ∀ x ∈ rofL l at_ ⟨1,1⟩,x ∈ rofL l at_ lo := by
 obtain ⟨a1,a2,-⟩ := roofs_0 h1
 exact ⟨roofs_1 a1,a1,great_over a1,great_roofs hle h1 h2,great_roofs (fac_1 a2).2 (roofs_1 a1) h1⟩
set_option maxRecDepth 100000 in
set_option maxHeartbeats 8000000 in
theorem lawGreater (v v1 v2 : Value) (s : SetT) (l : List RoofT) (at_ : List LoadT) (a b : FrT) (m : Int) (w : World) (hm : 0 ≤ m ∧ m ≤ 65535) (hv : SetAt w w.heap.size v s) (hn : SetNames s) (hv1 : RoofsAt w w.heap.size v1 l) (hn1 : ∀ x ∈ l,x.name.size ≤ maxLen) (hl : LoadsAt w w.heap.size v2 at_) :
  Calls Tryz.prog 9 #[v,v1,v2,a.val,b.val,.int .u16 m] w fun e w' => e = .returned (.bool true) ∧ Below w.heap.size w w' := by
 have HAw := Lib.hid fun W => lawAwake23 W
 have HFew := Lib.hid fun W (hb : Below w.heap.size w W) => law23Few v s W (hv.grow hb) hn
 have HCf := Lib.hid fun W (hb : Below w.heap.size w W) => containsFuncRoof v1 l 36 #[] (fun x => decide (60 < x.name.size)) entersGr1 W (hv1.grow hb) (fun t ht w' _ => lawGreat1 t (hn1 t ht) w')
 have HCmp := Lib.hid fun W => raCmpX a b W
 have HSw := Lib.hid (@cmp_swap a b)
 have HCk := Lib.hid fun W (hb : Below w.heap.size w W) (f : FrT) => (lmCheck v s f W (hv.grow hb) hn).mono fun _ _ h => h.one
 have HRf := Lib.hid fun W (hb : Below w.heap.size w W) (f : FrT) => (lmRoofs v1 v2 l at_ f W (hv1.grow hb) hn1 ((hl.below hb (Nat.le_refl _)).mono hb.size)).mono fun _ _ h => h.len
 have HOv := Lib.hid fun W (hb : Below w.heap.size w W) => (gdOverF v1 v2 l at_ W (hv1.grow hb) hn1 ((hl.below hb (Nat.le_refl _)).mono hb.size)).mono fun _ _ h => h.len
 obtain ⟨M,hM⟩ : ∃ M,IntKind.i64.wrap (s.most + m) = M := ⟨_,rfl⟩
 have HGl := Lib.hid fun (f : FrT) => @great_limit s m f hm
 rw [hM] at HGl
 have v1m : IntKind.i64.wrap m = m := IntWalk.i64_in _ (by omega)
 obtain ⟨Al,cl,Ai,ci,Ab,cb,rfl,hs1,hs2,hs3⟩ := hv
 have HCt : Hid (∀ W,Below w.heap.size w W → ∀ f : FrT,Calls Tryz.prog 18 #[.agg #[.string s.name,.int .i64 s.depth,.int .i64 s.low,.int .i64 s.high,.int .i64 s.len,.slice Al s.lines.length cl,.int .i64 s.pipe,.int .i64 s.arbor,.int .i64 s.purch,.int .i64 M,.int .i64 s.brake,.slice Ai s.items.length ci,.slice Ab s.bricks.length cb],f.val] W fun e w' => ∃ A c,e = .returned (.tuple #[.slice A (chkL (mostS s M) f).length c,.int .i64 (check23E (mostS s M) f)]) ∧ Below W.heap.size W w' ∧ FindsAt w' w'.heap.size (.slice A (chkL (mostS s M) f).length c) (chkL (mostS s M) f)) := fun W hb f => (lmCheck _ (mostS s M) f W (SetAt.grow (s := mostS s M) ⟨Al,cl,Ai,ci,Ab,cb,rfl,hs1,hs2,hs3⟩ hb) ⟨hn.name,hn.items,hn.bricks⟩).mono fun _ _ h => h.one
 obtain ⟨A,c,rfl,-,hc2,-⟩ := hv1.open_
 obtain ⟨A1,c1,rfl,-,hc3,-⟩ := hl.open_
 unfold maxLen at hc2 hc3
 obtain ⟨an,ad⟩ := a
 obtain ⟨bn,bd⟩ := b
 have HD := Lib.hid (((Blk.new w 37 #[.string s.name,.int .i64 s.depth,.int .i64 s.low,.int .i64 s.high,.int .i64 s.len,.slice Al s.lines.length cl,.int .i64 s.pipe,.int .i64 s.arbor,.int .i64 s.purch,.int .i64 s.most,.int .i64 s.brake,.slice Ai s.items.length ci,.slice Ab s.bricks.length cb]).alloc (.cells #[.int .i64 an,.int .i64 ad] 23)).alloc (.cells #[.int .i64 bn,.int .i64 bd] 23))
 have hE := (Blk.new (w.alloc (.cells #[.string s.name,.int .i64 s.depth,.int .i64 s.low,.int .i64 s.high,.int .i64 s.len,.slice Al s.lines.length cl,.int .i64 s.pipe,.int .i64 s.arbor,.int .i64 s.purch,.int .i64 s.most,.int .i64 s.brake,.slice Ai s.items.length ci,.slice Ab s.bricks.length cb] 37)) 23 #[.int .i64 an,.int .i64 ad]).alloc (.cells #[.int .i64 bn,.int .i64 bd] 23)
 have hF := Blk.new ((w.alloc (.cells #[.string s.name,.int .i64 s.depth,.int .i64 s.low,.int .i64 s.high,.int .i64 s.len,.slice Al s.lines.length cl,.int .i64 s.pipe,.int .i64 s.arbor,.int .i64 s.purch,.int .i64 s.most,.int .i64 s.brake,.slice Ai s.items.length ci,.slice Ab s.bricks.length cb] 37)).alloc (.cells #[.int .i64 an,.int .i64 ad] 23)) 23 #[.int .i64 bn,.int .i64 bd]
 rw [World.size_alloc] at hE
 rw [World.size_alloc,World.size_alloc] at hF
 have HE := Lib.hid hE
 have HF := Lib.hid hF
 have HB := Lib.hid ((((Below.refl _ w).alloc (Nat.le_refl _) (.cells #[.string s.name,.int .i64 s.depth,.int .i64 s.low,.int .i64 s.high,.int .i64 s.len,.slice Al s.lines.length cl,.int .i64 s.pipe,.int .i64 s.arbor,.int .i64 s.purch,.int .i64 s.most,.int .i64 s.brake,.slice Ai s.items.length ci,.slice Ab s.bricks.length cb] 37)).alloc (by simp) (.cells #[.int .i64 an,.int .i64 ad] 23)).alloc (by simp;omega) (.cells #[.int .i64 bn,.int .i64 bd] 23))
 generalize (l.any fun x => decide (60 < x.name.size)) = lg at *
 have HGe := Lib.hid fun (lo hi : FrT) => @great_end l at_ lo hi
 have HGc := Lib.hid fun (lo hi : FrT) => @great_check s lo hi
 clear hE hF hn hs1 hs2 hs3 hv1 hn1 hl hm
 unfold setVal at *
 go_enter Tryz.func9,Tryz.ntmps9
 go_upto_region 1 with fail
 generalize ((w.alloc (.cells #[.string s.name,.int .i64 s.depth,.int .i64 s.low,.int .i64 s.high,.int .i64 s.len,.slice Al s.lines.length cl,.int .i64 s.pipe,.int .i64 s.arbor,.int .i64 s.purch,.int .i64 s.most,.int .i64 s.brake,.slice Ai s.items.length ci,.slice Ab s.bricks.length cb] 37)).alloc (.cells #[.int .i64 an,.int .i64 ad] 23)).alloc (.cells #[.int .i64 bn,.int .i64 bd] 23) = W1 at *
 go_upto_region 3 with (first | (go_at_call 11;refine (HAw.out _).mono ?_;rintro e w1 ⟨rfl,hb1⟩))
 have HD := Lib.hid (HD.out.below hb1 HD.out.lt)
 have HE := Lib.hid (HE.out.below hb1 HE.out.lt)
 have HF := Lib.hid (HF.out.below hb1 HF.out.lt)
 have HB := Lib.hid (HB.out.trans (hb1.mono HB.out.size))
 clear hb1 HAw
 have z0 := HD.out.cell 0;have z1 := HD.out.cell 1;have z2 := HD.out.cell 2;have z3 := HD.out.cell 3;have z4 := HD.out.cell 4;have z5 := HD.out.cell 5;have z6 := HD.out.cell 6;have z7 := HD.out.cell 7;have z8 := HD.out.cell 8;have z9 := HD.out.cell 9;have z10 := HD.out.cell 10;have z11 := HD.out.cell 11;have z12 := HD.out.cell 12
 simp only [List.getElem?_toArray,List.getElem?_cons_succ,List.getElem?_cons_zero] at z0 z1 z2 z3 z4 z5 z6 z7 z8 z9 z10 z11 z12
 have hfw := HFew.out _ HB.out
 go_wp2_with (first | (go_at_call 17;exact Go.WalkKit.wp_stop))
 refine hfw.mono ?_
 rintro e w2 ⟨q,rfl,hb2⟩
 have HD := Lib.hid (HD.out.below hb2 HD.out.lt)
 have HE := Lib.hid (HE.out.below hb2 HE.out.lt)
 have HF := Lib.hid (HF.out.below hb2 HF.out.lt)
 have HB := Lib.hid (HB.out.trans (hb2.mono HB.out.size))
 clear hb2 hfw HFew z0 z1 z2 z3 z4 z5 z6 z7 z8 z9 z10 z11 z12
 by_cases hq : q = false
 ·subst hq
  go_wp2_with fail
  go_ret
  exact ⟨rfl,HB.out⟩
 have hq : q = true := by cases q with | true => rfl | false => exact absurd rfl hq
 subst hq
 by_cases c25 : (25 : Int) < (l.length : Int)
 ·have d25 : decide ((25 : Int) < (l.length : Int)) = true := decide_eq_true c25
  clear c25
  go_wp2_with fail
  go_ret
  exact ⟨rfl,HB.out⟩
 have d25 : decide ((25 : Int) < (l.length : Int)) = false := decide_eq_false c25
 clear c25
 by_cases c30 : (30 : Int) < (at_.length : Int)
 ·have d30 : decide ((30 : Int) < (at_.length : Int)) = true := decide_eq_true c30
  clear c30
  go_wp2_with fail
  go_ret
  exact ⟨rfl,HB.out⟩
 have d30 : decide ((30 : Int) < (at_.length : Int)) = false := decide_eq_false c30
 clear c30
 have hcf := HCf.out _ HB.out
 go_wp2_with (first | (go_at_call 32;exact Go.WalkKit.wp_stop))
 refine hcf.mono ?_
 rintro e w3 ⟨rfl,hb3⟩
 have HD := Lib.hid (HD.out.below hb3 HD.out.lt)
 have HE := Lib.hid (HE.out.below hb3 HE.out.lt)
 have HF := Lib.hid (HF.out.below hb3 HF.out.lt)
 have HB := Lib.hid (HB.out.trans (hb3.mono HB.out.size))
 clear hb3 hcf HCf
 by_cases hlg : lg = true
 ·subst hlg
  go_wp2_with fail
  go_ret
  exact ⟨rfl,HB.out⟩
 have hlg : lg = false := by cases lg with | false => rfl | true => exact absurd rfl hlg
 subst hlg
 have HEc0 := HE.out.cell 0
 have HEc1 := HE.out.cell 1
 have HFc0 := HF.out.cell 0
 have HFc1 := HF.out.cell 1
 simp only [List.getElem?_toArray,List.getElem?_cons_succ,List.getElem?_cons_zero] at HEc0 HEc1 HFc0 HFc1
 go_upto_region 6 with (first | (go_at_call 31;refine (HCmp.out _).mono ?_;rintro e w4 ⟨rfl,hb4⟩))
 clear HEc0 HEc1 HFc0 HFc1
 have HD := Lib.hid (HD.out.below hb4 HD.out.lt)
 have HE := Lib.hid (HE.out.below hb4 HE.out.lt)
 have HF := Lib.hid (HF.out.below hb4 HF.out.lt)
 have HB := Lib.hid (HB.out.trans (hb4.mono HB.out.size))
 clear hb4 HCmp d25 d30
 by_cases hce : cmpE ⟨an,ad⟩ ⟨bn,bd⟩ = 0
 rotate_left
 ·have hne : (cmpE ⟨an,ad⟩ ⟨bn,bd⟩ != 0) = true := bne_iff_ne.2 hce
  clear hce
  go_wp2_with fail
  go_ret
  exact ⟨rfl,HB.out⟩
 have HSw := Lib.hid (HSw.out hce)
 rw [hce]
 generalize cmpN ⟨an,ad⟩ ⟨bn,bd⟩ = cn at *
 clear hce
 obtain ⟨tc,htc⟩ : ∃ t,decide (0 < cn) = t := ⟨_,rfl⟩
 have HSw : Hid ((tc = true → qOf ⟨bn,bd⟩ ≤ qOf ⟨an,ad⟩) ∧ (tc = false → qOf ⟨an,ad⟩ ≤ qOf ⟨bn,bd⟩)) := by
  rw [← htc]
  exact ⟨fun h => HSw.out.1 (of_decide_eq_true h),fun h => HSw.out.2 (by have := of_decide_eq_false h;omega)⟩
 go_upto_if 56 with fail
 go_cut [12] from 47 (fun r wx => r = .bool false ∧ ∃ la lb ha hb : Int,qOf ⟨la,lb⟩ ≤ qOf ⟨ha,hb⟩ ∧ Hid (Blk wx w.heap.size 37 #[.string s.name,.int .i64 s.depth,.int .i64 s.low,.int .i64 s.high,.int .i64 s.len,.slice Al s.lines.length cl,.int .i64 s.pipe,.int .i64 s.arbor,.int .i64 s.purch,.int .i64 s.most,.int .i64 s.brake,.slice Ai s.items.length ci,.slice Ab s.bricks.length cb]) ∧ Hid (Blk wx (w.heap.size + 1) 23 #[.int .i64 la,.int .i64 lb]) ∧ Hid (Blk wx (w.heap.size + 1 + 1) 23 #[.int .i64 ha,.int .i64 hb]) ∧ Hid (Below w.heap.size w wx))
 case first =>
  clear htc
  by_cases hc : tc = true
  ·have hle := HSw.out.1 hc
   subst hc
   clear HSw
   have HEc0 := HE.out.cell 0
   have HEc1 := HE.out.cell 1
   have HFc0 := HF.out.cell 0
   have HFc1 := HF.out.cell 1
   simp only [List.getElem?_toArray,List.getElem?_cons_succ,List.getElem?_cons_zero] at HEc0 HEc1 HFc0 HFc1
   have e0 := HE.out.frozen 0
   have e1 := HE.out.frozen 1
   have f0 := HF.out.frozen 0
   have f1 := HF.out.frozen 1
   go_wp2_with fail
   go_meet
   have hne : w.heap.size + 1 ≠ w.heap.size + 1 + 1 := by omega
   have hne1 : w.heap.size ≠ w.heap.size + 1 := by omega
   have hne2 : w.heap.size ≠ w.heap.size + 1 + 1 := by omega
   refine ⟨rfl,bn,bd,an,ad,hle,?_,?_,?_,?_⟩
   ·exact ((((HD.out.far (p := ⟨w.heap.size + 1,0,none⟩) hne1 (.int .i64 bn)).far (p := ⟨w.heap.size + 1,1,none⟩) hne1 (.int .i64 bd)).far (p := ⟨w.heap.size + 1 + 1,0,none⟩) hne2 (.int .i64 an)).far (p := ⟨w.heap.size + 1 + 1,1,none⟩) hne2 (.int .i64 ad))
   ·exact ((((HE.out.set_ 0 (.int .i64 bn)).set_ 1 (.int .i64 bd)).far (p := ⟨w.heap.size + 1 + 1,0,none⟩) hne (.int .i64 an)).far (p := ⟨w.heap.size + 1 + 1,1,none⟩) hne (.int .i64 ad))
   ·exact ((((HF.out.far (p := ⟨w.heap.size + 1,0,none⟩) (Ne.symm hne) (.int .i64 bn)).far (p := ⟨w.heap.size + 1,1,none⟩) (Ne.symm hne) (.int .i64 bd)).set_ 0 (.int .i64 an)).set_ 1 (.int .i64 ad))
   ·exact ((((HB.out.setCell (p := ⟨w.heap.size + 1,0,none⟩) (Nat.le_succ _) (.int .i64 bn)).setCell (p := ⟨w.heap.size + 1,1,none⟩) (Nat.le_succ _) (.int .i64 bd)).setCell (p := ⟨w.heap.size + 1 + 1,0,none⟩) (by show w.heap.size ≤ w.heap.size + 1 + 1;omega) (.int .i64 an)).setCell (p := ⟨w.heap.size + 1 + 1,1,none⟩) (by show w.heap.size ≤ w.heap.size + 1 + 1;omega) (.int .i64 ad))
  ·have hc : tc = false := by cases tc with | false => rfl | true => exact absurd rfl hc
   have hle := HSw.out.2 hc
   subst hc
   clear HSw
   go_wp2_with fail
   go_meet
   exact ⟨rfl,an,ad,bn,bd,hle,HD,HE,HF,HB⟩
 clear HD HE HF HB HSw htc
 obtain ⟨rfl,la,lb,ha,hb,hle,HD,HE,HF,HB⟩ := hcut
 have HLe := Lib.hid hle
 clear hle
 have z0 := HD.out.cell 0;have z1 := HD.out.cell 1;have z2 := HD.out.cell 2;have z3 := HD.out.cell 3;have z4 := HD.out.cell 4;have z5 := HD.out.cell 5;have z6 := HD.out.cell 6;have z7 := HD.out.cell 7;have z8 := HD.out.cell 8;have z9 := HD.out.cell 9;have z10 := HD.out.cell 10;have z11 := HD.out.cell 11;have z12 := HD.out.cell 12
 simp only [List.getElem?_toArray,List.getElem?_cons_succ,List.getElem?_cons_zero] at z0 z1 z2 z3 z4 z5 z6 z7 z8 z9 z10 z11 z12
 have HEc0 := HE.out.cell 0
 have HEc1 := HE.out.cell 1
 have HFc0 := HF.out.cell 0
 have HFc1 := HF.out.cell 1
 simp only [List.getElem?_toArray,List.getElem?_cons_succ,List.getElem?_cons_zero] at HEc0 HEc1 HFc0 HFc1
 go_upto_region 12 with (first | (go_at_call 18;refine (HCk.out _ HB.out ⟨la,lb⟩).mono ?_;rintro e w5 ⟨A5,c5,rfl,hb5,hF5⟩))
 have F5 := Lib.hid hF5
 clear z0 z1 z2 z3 z4 z5 z6 z7 z8 z9 z10 z11 z12 hF5
 clear HEc0 HEc1 HFc0 HFc1
 have HD := Lib.hid (HD.out.below hb5 HD.out.lt)
 have HE := Lib.hid (HE.out.below hb5 HE.out.lt)
 have HF := Lib.hid (HF.out.below hb5 HF.out.lt)
 have HB := Lib.hid (HB.out.trans (hb5.mono HB.out.size))
 clear hb5
 have z0 := HD.out.cell 0;have z1 := HD.out.cell 1;have z2 := HD.out.cell 2;have z3 := HD.out.cell 3;have z4 := HD.out.cell 4;have z5 := HD.out.cell 5;have z6 := HD.out.cell 6;have z7 := HD.out.cell 7;have z8 := HD.out.cell 8;have z9 := HD.out.cell 9;have z10 := HD.out.cell 10;have z11 := HD.out.cell 11;have z12 := HD.out.cell 12
 simp only [List.getElem?_toArray,List.getElem?_cons_succ,List.getElem?_cons_zero] at z0 z1 z2 z3 z4 z5 z6 z7 z8 z9 z10 z11 z12
 have HEc0 := HE.out.cell 0
 have HEc1 := HE.out.cell 1
 have HFc0 := HF.out.cell 0
 have HFc1 := HF.out.cell 1
 simp only [List.getElem?_toArray,List.getElem?_cons_succ,List.getElem?_cons_zero] at HEc0 HEc1 HFc0 HFc1
 go_upto_region 13 with (first | (go_at_call 18;refine (HCk.out _ HB.out ⟨ha,hb⟩).mono ?_;rintro e w6 ⟨A6,c6,rfl,hb6,hF6⟩))
 have F6 := Lib.hid hF6
 clear z0 z1 z2 z3 z4 z5 z6 z7 z8 z9 z10 z11 z12 hF6
 clear HEc0 HEc1 HFc0 HFc1
 have HD := Lib.hid (HD.out.below hb6 HD.out.lt)
 have HE := Lib.hid (HE.out.below hb6 HE.out.lt)
 have HF := Lib.hid (HF.out.below hb6 HF.out.lt)
 have F5 := Lib.hid (finds_grow F5.out hb6)
 have HB := Lib.hid (HB.out.trans (hb6.mono HB.out.size))
 clear hb6
 have HS1 := Lib.hid (HGc.out _ _ HLe.out)
 have HS2 := Lib.hid (HGl.out ⟨ha,hb⟩)
 clear HGc HGl HCk
 generalize chkL s ⟨la,lb⟩ = X at *
 generalize chkL s ⟨ha,hb⟩ = Y at *
 generalize check23E s ⟨la,lb⟩ = e1 at *
 generalize check23E s ⟨ha,hb⟩ = e2 at *
 go_cut [83] from 71 (fun r wx => r = .bool false ∧ Hid (Below w6.heap.size w6 wx))
 case first =>
  by_cases h1 : e1 = 0
  rotate_left
  ·have d1 : (e1 == 0) = false := beq_eq_false_iff_ne.2 h1
   clear h1
   go_wp2_with fail
   go_meet
   exact ⟨rfl,Below.refl _ _⟩
  by_cases h2 : e2 = 0
  rotate_left
  ·have d2 : (e2 == 0) = false := beq_eq_false_iff_ne.2 h2
   subst h1
   clear h2
   go_wp2_with fail
   go_meet
   exact ⟨rfl,Below.refl _ _⟩
  have HA := Lib.hid (lawGreatAll _ _ _ _ _ F5.out F6.out (HS1.out h1 h2))
  subst h1 h2
  go_wp2_with (exact Go.WalkKit.wp_stop)
  refine HA.out.mono ?_
  rintro e w7 ⟨rfl,hb7⟩
  go_wp2_with fail
  go_meet
  exact ⟨rfl,hb7⟩
 obtain ⟨rfl,hb8⟩ := hcut
 have hb8 := hb8.out
 have HD := Lib.hid (HD.out.below hb8 HD.out.lt)
 have HE := Lib.hid (HE.out.below hb8 HE.out.lt)
 have HF := Lib.hid (HF.out.below hb8 HF.out.lt)
 have F6 := Lib.hid (finds_grow F6.out hb8)
 have HB := Lib.hid (HB.out.trans (hb8.mono HB.out.size))
 clear hb8 F5 HS1
 have z0 := HD.out.cell 0;have z1 := HD.out.cell 1;have z2 := HD.out.cell 2;have z3 := HD.out.cell 3;have z4 := HD.out.cell 4;have z5 := HD.out.cell 5;have z6 := HD.out.cell 6;have z7 := HD.out.cell 7;have z8 := HD.out.cell 8;have z9 := HD.out.cell 9;have z10 := HD.out.cell 10;have z11 := HD.out.cell 11;have z12 := HD.out.cell 12
 simp only [List.getElem?_toArray,List.getElem?_cons_succ,List.getElem?_cons_zero] at z0 z1 z2 z3 z4 z5 z6 z7 z8 z9 z10 z11 z12
 have hT := Blk.new wc 37 #[.string s.name,.int .i64 s.depth,.int .i64 s.low,.int .i64 s.high,.int .i64 s.len,.slice Al s.lines.length cl,.int .i64 s.pipe,.int .i64 s.arbor,.int .i64 s.purch,.int .i64 s.most,.int .i64 s.brake,.slice Ai s.items.length ci,.slice Ab s.bricks.length cb]
 have z9' := hT.cell 9
 have t9' := hT.frozen 9
 simp only [List.getElem?_toArray,List.getElem?_cons_succ,List.getElem?_cons_zero] at z9'
 have HT := Lib.hid (Blk.new wc 37 #[.string s.name,.int .i64 s.depth,.int .i64 s.low,.int .i64 s.high,.int .i64 s.len,.slice Al s.lines.length cl,.int .i64 s.pipe,.int .i64 s.arbor,.int .i64 s.purch,.int .i64 M,.int .i64 s.brake,.slice Ai s.items.length ci,.slice Ab s.bricks.length cb])
 have hbt := (Below.refl wc.heap.size wc).alloc (Nat.le_refl _) (.cells #[.string s.name,.int .i64 s.depth,.int .i64 s.low,.int .i64 s.high,.int .i64 s.len,.slice Al s.lines.length cl,.int .i64 s.pipe,.int .i64 s.arbor,.int .i64 s.purch,.int .i64 M,.int .i64 s.brake,.slice Ai s.items.length ci,.slice Ab s.bricks.length cb] 37)
 clear hT
 go_upto_region 17 with fail
 clear z0 z1 z2 z3 z4 z5 z6 z7 z8 z9 z10 z11 z12 z9' t9'
 have HD := Lib.hid (HD.out.below hbt HD.out.lt)
 have HE := Lib.hid (HE.out.below hbt HE.out.lt)
 have HF := Lib.hid (HF.out.below hbt HF.out.lt)
 have F6 := Lib.hid (finds_grow F6.out hbt)
 have HB := Lib.hid (HB.out.trans (hbt.mono HB.out.size))
 clear hbt
 generalize wc.alloc (.cells #[.string s.name,.int .i64 s.depth,.int .i64 s.low,.int .i64 s.high,.int .i64 s.len,.slice Al s.lines.length cl,.int .i64 s.pipe,.int .i64 s.arbor,.int .i64 s.purch,.int .i64 M,.int .i64 s.brake,.slice Ai s.items.length ci,.slice Ab s.bricks.length cb] 37) = W9 at *
 generalize wc.heap.size = g at HT ⊢
 have z0 := HT.out.cell 0;have z1 := HT.out.cell 1;have z2 := HT.out.cell 2;have z3 := HT.out.cell 3;have z4 := HT.out.cell 4;have z5 := HT.out.cell 5;have z6 := HT.out.cell 6;have z7 := HT.out.cell 7;have z8 := HT.out.cell 8;have z9 := HT.out.cell 9;have z10 := HT.out.cell 10;have z11 := HT.out.cell 11;have z12 := HT.out.cell 12
 simp only [List.getElem?_toArray,List.getElem?_cons_succ,List.getElem?_cons_zero] at z0 z1 z2 z3 z4 z5 z6 z7 z8 z9 z10 z11 z12
 have HFc0 := HF.out.cell 0
 have HFc1 := HF.out.cell 1
 simp only [List.getElem?_toArray,List.getElem?_cons_succ,List.getElem?_cons_zero] at HFc0 HFc1
 go_upto_region 18 with (first | (go_at_call 18;refine (HCt.out _ HB.out ⟨ha,hb⟩).mono ?_;rintro e w7 ⟨A7,c7,rfl,hb7,hF7⟩))
 have F7 := Lib.hid hF7
 clear z0 z1 z2 z3 z4 z5 z6 z7 z8 z9 z10 z11 z12 hF7 HT
 clear HFc0 HFc1
 have HD := Lib.hid (HD.out.below hb7 HD.out.lt)
 have HE := Lib.hid (HE.out.below hb7 HE.out.lt)
 have HF := Lib.hid (HF.out.below hb7 HF.out.lt)
 have F6 := Lib.hid (finds_grow F6.out hb7)
 have HB := Lib.hid (HB.out.trans (hb7.mono HB.out.size))
 clear hb7 HCt
 generalize chkL (mostS s M) ⟨ha,hb⟩ = Zt at *
 generalize check23E (mostS s M) ⟨ha,hb⟩ = e3 at *
 go_cut [109] from 97 (fun r wx => r = .bool false ∧ Hid (Below w7.heap.size w7 wx))
 case first =>
  by_cases h2 : e2 = 0
  rotate_left
  ·have d2 : (e2 == 0) = false := beq_eq_false_iff_ne.2 h2
   clear h2
   go_wp2_with fail
   go_meet
   exact ⟨rfl,Below.refl _ _⟩
  by_cases h3 : e3 = 0
  rotate_left
  ·have d3 : (e3 == 0) = false := beq_eq_false_iff_ne.2 h3
   subst h2
   clear h3
   go_wp2_with fail
   go_meet
   exact ⟨rfl,Below.refl _ _⟩
  have HA := Lib.hid (lawGreatAll _ _ _ _ _ F7.out F6.out (HS2.out h3 h2))
  subst h2 h3
  go_wp2_with (exact Go.WalkKit.wp_stop)
  refine HA.out.mono ?_
  rintro e w8 ⟨rfl,hb8⟩
  go_wp2_with fail
  go_meet
  exact ⟨rfl,hb8⟩
 obtain ⟨rfl,hb9⟩ := hcut
 have hb9 := hb9.out
 have HD := Lib.hid (HD.out.below hb9 HD.out.lt)
 have HE := Lib.hid (HE.out.below hb9 HE.out.lt)
 have HF := Lib.hid (HF.out.below hb9 HF.out.lt)
 have HB := Lib.hid (HB.out.trans (hb9.mono HB.out.size))
 clear hb9 F6 F7 HS2 HD
 have HEc0 := HE.out.cell 0
 have HEc1 := HE.out.cell 1
 simp only [List.getElem?_toArray,List.getElem?_cons_succ,List.getElem?_cons_zero] at HEc0 HEc1
 go_upto_region 21 with (first | (go_at_call 34;refine (HRf.out _ HB.out ⟨la,lb⟩).mono ?_;rintro e wa ⟨Aa,ca,rfl,hba,hFa⟩))
 have FA := Lib.hid hFa
 clear hFa
 clear HEc0 HEc1
 have HF := Lib.hid (HF.out.below hba HF.out.lt)
 have HB := Lib.hid (HB.out.trans (hba.mono HB.out.size))
 clear hba HE
 have HFc0 := HF.out.cell 0
 have HFc1 := HF.out.cell 1
 simp only [List.getElem?_toArray,List.getElem?_cons_succ,List.getElem?_cons_zero] at HFc0 HFc1
 go_upto_region 22 with (first | (go_at_call 34;refine (HRf.out _ HB.out ⟨ha,hb⟩).mono ?_;rintro e wb ⟨Ab',cb',rfl,hbb,hFb⟩))
 have FB := Lib.hid hFb
 clear hFb
 clear HFc0 HFc1
 have FA := Lib.hid (finds_grow FA.out hbb)
 have HB := Lib.hid (HB.out.trans (hbb.mono HB.out.size))
 clear hbb HF
 have HG := Lib.hid (HGe.out _ _ HLe.out)
 clear HGe HLe
 generalize rofL l at_ ⟨la,lb⟩ = X4 at *
 generalize rofL l at_ ⟨ha,hb⟩ = Y4 at *
 generalize roofsE l at_ ⟨la,lb⟩ = e4 at *
 generalize roofsE l at_ ⟨ha,hb⟩ = e5 at *
 by_cases h4 : e4 = 0
 rotate_left
 ·have d4 : (e4 != 0) = true := bne_iff_ne.2 h4
  clear h4
  go_wp2_with fail
  go_ret
  exact ⟨rfl,HB.out⟩
 by_cases h5 : e5 = 0
 rotate_left
 ·have d5 : (e5 != 0) = true := bne_iff_ne.2 h5
  subst h4
  clear h5
  go_wp2_with fail
  go_ret
  exact ⟨rfl,HB.out⟩
 obtain ⟨r1,r2,r3,r4,r5⟩ := HG.out h4 h5
 subst h4 h5
 have HR := fun W (hb : Below w.heap.size w W) => HRf.out W hb ⟨1,1⟩
 have HO := HOv.out
 rw [r1] at HR
 rw [r2] at HO
 have HR := Lib.hid HR
 have HO := Lib.hid HO
 have H4 := Lib.hid r4
 have H5 := Lib.hid r5
 have H3 := Lib.hid r3
 have HLn : Hid ((rofL l at_ ⟨1,1⟩).length = (ovrL l at_).length) := by
  have h := congrArg List.length r3
  rwa [List.length_map,List.length_map] at h
 clear HG r1 r2 r3 r4 r5 HRf HOv
 generalize rofL l at_ ⟨1,1⟩ = Z4 at *
 generalize ovrL l at_ = O4 at *
 go_upto_region 25 with (first | (go_at_call 15;refine (law23Whole 1 _).mono ?_;rintro e w10 ⟨rfl,hb10⟩;have HB := Lib.hid (HB.out.trans (hb10.mono HB.out.size));have FA := Lib.hid (finds_grow FA.out hb10);have FB := Lib.hid (finds_grow FB.out hb10);clear hb10) | (go_at_call 34;refine (HR.out _ HB.out).mono ?_;rintro e w11 ⟨A11,c11,rfl,hb11,hF11⟩))
 have FZ := Lib.hid hF11
 clear hF11
 have FA := Lib.hid (finds_grow FA.out hb11)
 have FB := Lib.hid (finds_grow FB.out hb11)
 have HB := Lib.hid (HB.out.trans (hb11.mono HB.out.size))
 clear hb11 HR
 go_upto_region 26 with (first | (go_at_call 39;refine (HO.out _ HB.out).mono ?_;rintro e w12 ⟨A12,c12,rfl,hb12,hF12⟩))
 have FO := Lib.hid hF12
 clear hF12
 have FA := Lib.hid (finds_grow FA.out hb12)
 have FB := Lib.hid (finds_grow FB.out hb12)
 have FZ := Lib.hid (finds_grow FZ.out hb12)
 have HB := Lib.hid (HB.out.trans (hb12.mono HB.out.size))
 clear hb12 HO
 have hln : ((Z4.length : Int) != (O4.length : Int)) = false := by rw [HLn.out];exact bne_self_eq_false _
 have HA1 := Lib.hid (lawGreatAll _ _ _ _ _ FA.out FB.out H4.out)
 go_cut [169] from 143 (fun r wx => r = .bool false ∧ Hid (Below w12.heap.size w12 wx))
 case first =>
  go_wp2_with (exact Go.WalkKit.wp_stop)
  refine HA1.out.mono ?_
  rintro e w13 ⟨rfl,hb13⟩
  have HA2 := Lib.hid (lawGreatAll _ _ _ _ _ (finds_grow FZ.out hb13) (finds_grow FA.out hb13) H5.out)
  have Hb13 := Lib.hid hb13
  clear hb13 HA1
  go_wp2_with (exact Go.WalkKit.wp_stop)
  refine HA2.out.mono ?_
  rintro e w14 ⟨rfl,hb14⟩
  go_wp2_with fail
  go_meet
  exact ⟨rfl,Hb13.out.trans (hb14.mono Hb13.out.size)⟩
 obtain ⟨rfl,hb15⟩ := hcut
 have hb15 := hb15.out
 have FZ := Lib.hid (finds_grow FZ.out hb15)
 have FO := Lib.hid (finds_grow FO.out hb15)
 have HB := Lib.hid (HB.out.trans (hb15.mono HB.out.size))
 clear hb15 HA1 FA FB H4 H5 hln
 obtain ⟨Az,cz,hAz,hczl,hcz,hclz⟩ := FZ.out.open_
 obtain ⟨Ao,co,hAo,-,hco,hclo⟩ := FO.out.open_
 cases hAz
 cases hAo
 unfold maxLen at hcz hco
 have HZ := Lib.hid hclz
 have HOc := Lib.hid hclo
 clear hclz hclo FZ FO
 go_upto_region 29 with fail
 have HZ0 : Hid (Below wc.heap.size wc wc) := Below.refl _ _
 go_loopw [172] (fun ix wr => ∃ k : Nat,k ≤ Z4.length ∧ ix = .int .i64 k ∧ Hid (Below wc.heap.size wc wr)) (fun ix _ => Z4.length - (intOf ix).toNat)
 case atStart => exact ⟨0,Nat.zero_le _,rfl,HZ0⟩
 case round =>
  clear HZ0
  obtain ⟨k,hk,rfl,HT⟩ := hrel
  have k0 : (0 : Int) ≤ (k : Int) := Int.natCast_nonneg _
  have HBz := Lib.hid (HB.out.trans (HT.out.mono HB.out.size))
  by_cases hkl : k < Z4.length
  ·have k1 : (k : Int) < (Z4.length : Int) := by omega
   have hkO : k < O4.length := by rw [← HLn.out];exact hkl
   have k2 : (k : Int) < (O4.length : Int) := by omega
   obtain ⟨b1,o1,rfl,hb1,hx⟩ := HZ.out k hkl
   obtain ⟨b2,o2,rfl,hb2,hy⟩ := HOc.out k hkO
   have y1 := (HT.out.cell (p := ⟨b1,o1 + k * 2 + 1,none⟩) hb1).trans (hx k hkl).2
   have g1 := (HT.out.cell (p := ⟨b2,o2 + k * 2 + 1,none⟩) hb2).trans (hy k hkO).2
   have hnm : Z4[k].name = O4[k].name := by
    have h := congrArg (fun L => L[k]?) H3.out
    rw [List.getElem?_map,List.getElem?_map,List.getElem?_eq_getElem hkl,List.getElem?_eq_getElem hkO] at h
    exact Option.some.inj h
   rw [hnm] at y1
   generalize O4[k].name = nm at *
   have mm : (nm.toList != nm.toList) = false := bne_self_eq_false _
   have v1 : IntKind.i64.wrap ((k : Int) + 1) = (k : Int) + 1 := IntWalk.i64_in _ (by omega)
   clear hx hy hnm
   go_wp2
   go_quiet (fail)
   go_wp2
   go_roundw
   case rel => exact ⟨k + 1,hkl,by go_num,below_drewN HT.out _⟩
   case measure => simp [intOf];omega
  ·have k1 : ¬ (k : Int) < (Z4.length : Int) := by omega
   go_wp2_with fail
   go_ret
   exact ⟨rfl,HBz.out⟩
end Go.Proofs.YtknkhnahflmjiaaGreatDoor
