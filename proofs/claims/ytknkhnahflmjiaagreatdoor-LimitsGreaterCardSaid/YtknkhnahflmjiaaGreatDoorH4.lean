/- Parts of the proof, laid into one text: RaAdd. -/
import Derived.BigQuiet
import Derived.Deep.AppendLies
import Derived.Deep.DeepCutAuto
import Derived.Deep.Draws
import Derived.Deep.LoopGhost
import Derived.Deep.QuietTactic
import Derived.IntWalk
import Derived.Laws.Bits64b
import Derived.Lib.Hide
import Derived.Lib.ItoaNum
import Derived.LoopIn
import Derived.LoopNIn
import Derived.Maps.AppendAt
import Derived.Outline
import Derived.OwnWalkIn
import Derived.RangeFuncBox
import Derived.RangeFuncLeaves
import Derived.Shelf.Abstract
import Derived.Shelf.Bits.Mul64
import Derived.Shelf.Small.Bits
import Derived.Shelf.Spec.BitsCarry
import Derived.Shelf.Strconv.Itoa3
import Derived.StillTail
import Derived.StillTailTactics
import Derived.TacticsInMore
import Derived.Test.YtknkhnahflmjiaaGreatDoorB1
import Derived.Test.YtknkhnahflmjiaaGreatDoorE1
import Derived.Test.YtknkhnahflmjiaaGreatDoorE2
import Derived.Test.YtknkhnahflmjiaaGreatDoorE3
import Derived.Test.YtknkhnahflmjiaaGreatDoorE4
import Derived.Test.YtknkhnahflmjiaaGreatDoorE6
import Derived.Test.YtknkhnahflmjiaaGreatDoorE7
import Derived.Test.YtknkhnahflmjiaaGreatDoorH1
import Derived.Test.YtknkhnahflmjiaaGreatDoorH2
import Derived.Test.YtknkhnahflmjiaaGreatDoorH3
import Derived.Test.YtknkhnahflmjiaaGreatDoorProg
import Derived.WalkKit
import Derived.WalkLawsBesides
import Derived.WalkSpells

namespace Go.Proofs.YtknkhnahflmjiaaGreatDoor
open Go.RowKit Go.Shelf
structure AddK (w W : World) (an ad bn bd : Int) (g7 g8 : Nat) (xh xl yh yl : Nat) : Prop where
 a : Blk W w.heap.size 23 #[.int .i64 an,.int .i64 ad]
 b : Blk W (w.heap.size + 1) 23 #[.int .i64 bn,.int .i64 bd]
 r : Blk W (w.heap.size + 1 + 1) 23 #[.int .i64 0,.int .i64 0]
 x : Blk W g7 89 #[.int .u64 (xh : Int),.int .u64 (xl : Int)]
 y : Blk W g8 89 #[.int .u64 (yh : Int),.int .u64 (yl : Int)]
 bel : Below w.heap.size w W
section
variable {w W W' : World} {an ad bn bd : Int} {g7 g8 xh xl yh yl : Nat}
theorem AddK.grow (h : AddK w W an ad bn bd g7 g8 xh xl yh yl) (hb : Below W.heap.size W W') : AddK w W' an ad bn bd g7 g8 xh xl yh yl :=
 ⟨h.a.below hb h.a.lt,h.b.below hb h.b.lt,h.r.below hb h.r.lt,h.x.below hb h.x.lt,h.y.below hb h.y.lt,h.bel.trans (hb.mono h.bel.size)⟩
theorem AddK.put (h : AddK w W an ad bn bd g7 g8 xh xl yh yl) {g : Nat} (h0 : w.heap.size + 1 + 1 < g) (h7 : g ≠ g7) (h8 : g ≠ g8) (k : Nat) (v : Value) : AddK w (W.setCell ⟨g,k,none⟩ v) an ad bn bd g7 g8 xh xl yh yl :=
 ⟨h.a.far (p := ⟨g,k,none⟩) (by show w.heap.size ≠ g;omega) v,h.b.far (p := ⟨g,k,none⟩) (by show w.heap.size + 1 ≠ g;omega) v,h.r.far (p := ⟨g,k,none⟩) (by show w.heap.size + 1 + 1 ≠ g;omega) v,h.x.far (p := ⟨g,k,none⟩) (Ne.symm h7) v,h.y.far (p := ⟨g,k,none⟩) (Ne.symm h8) v,h.bel.setCell (p := ⟨g,k,none⟩) (by show w.heap.size ≤ g;omega) v⟩
end
set_option maxRecDepth 100000 in
set_option maxHeartbeats 8000000 in
theorem raAdd (a b : FrT) (w : World) (ha : frGood a = true) (hb : frGood b = true) :
  Calls Tryz.prog 16 #[a.val,b.val] w fun e w' => e = .returned (fracV (qOf a + qOf b)) ∧ Below w.heap.size w w' := by
 have hva := fun W => raValid a W
 have hvb := fun W => raValid b W
 rw [ha] at hva
 rw [hb] at hvb
 obtain ⟨a1,a2,a3,a4⟩ := good_bd ha
 obtain ⟨b1,b2,b3,b4⟩ := good_bd hb
 have wa : IntKind.u64.wrap a.den = ((a.den.natAbs : Nat) : Int) := by show a.den % 18446744073709551616 = _;omega
 have wb : IntKind.u64.wrap b.den = ((b.den.natAbs : Nat) : Int) := by show b.den % 18446744073709551616 = _;omega
 have HSa := Lib.hid fun W => size_g (n := a.num) W a3 a4
 have HSb := Lib.hid fun W => size_g (n := b.num) W b3 b4
 have hGo := @add_go a b ha hb
 obtain ⟨hg0,hgb,hq,hp,hp0⟩ := add_bd ha hb rfl
 obtain ⟨g,hg⟩ : ∃ g,a.den.natAbs.gcd b.den.natAbs = g := ⟨_,rfl⟩
 have HG := Lib.hid fun W => (raGcd a.den.natAbs b.den.natAbs W (by omega) (by omega)).mono fun _ _ h => (⟨h.1,match h.2 with | ⟨n,hn⟩ => hn ▸ below_drewN (Below.refl _ _) n⟩ : _ ∧ Below W.heap.size W _)
 rw [hg] at hGo hg0 hgb hq hp hp0 HG
 obtain ⟨p,hpe⟩ : ∃ p,b.den.natAbs / g = p := ⟨_,rfl⟩
 obtain ⟨q,hqe⟩ : ∃ q,a.den.natAbs / g = q := ⟨_,rfl⟩
 have t1 : (b.den.natAbs : Int) / (g : Int) = (p : Int) := by rw [← hpe,Int.natCast_ediv]
 have t2 : (a.den.natAbs : Int) / (g : Int) = (q : Int) := by rw [← hqe,Int.natCast_ediv]
 have t1' : (b.den.natAbs : Int).tdiv (g : Int) = (p : Int) := by rw [← hpe];exact (Int.ofNat_tdiv _ _).symm
 have t2' : (a.den.natAbs : Int).tdiv (g : Int) = (q : Int) := by rw [← hqe];exact (Int.ofNat_tdiv _ _).symm
 rw [hpe] at hp hp0
 rw [hqe] at hq
 have x1 : IntKind.u64.wrap (p : Int) = (p : Int) := Mul64.wrapN _ (by omega)
 have x2 : IntKind.u64.wrap (q : Int) = (q : Int) := Mul64.wrapN _ (by omega)
 have y1 : ((g : Int) == 0) = false := beq_eq_false_iff_ne.2 (by omega)
 have y3 : ¬ (g : Int) = 0 := by omega
 have y4 : ¬ g = 0 := by omega
 have HP1 := Lib.hid fun W => prod_g (x := a.num.natAbs) (y := p) W (by omega) (by omega)
 have HP2 := Lib.hid fun W => prod_g (x := b.num.natAbs) (y := q) W (by omega) (by omega)
 have hXb : a.num.natAbs * p ≤ 1152921504606846976 * 1152921504606846976 := Nat.mul_le_mul (by omega) hp
 have hYb : b.num.natAbs * q ≤ 1152921504606846976 * 1152921504606846976 := Nat.mul_le_mul (by omega) hq
 obtain ⟨X,hX⟩ : ∃ X,a.num.natAbs * p = X := ⟨_,rfl⟩
 obtain ⟨Y,hY⟩ : ∃ Y,b.num.natAbs * q = Y := ⟨_,rfl⟩
 obtain ⟨s1,ds1⟩ : ∃ s1,decide (a.num < 0) = s1 := ⟨_,rfl⟩
 obtain ⟨s2,ds2⟩ : ∃ s2,decide (b.num < 0) = s2 := ⟨_,rfl⟩
 rw [hX] at hXb HP1
 rw [hY] at hYb HP2
 rw [ds1,ds2] at hGo
 have hGo2 := fun n m (hn : n = addNum s1 s2 X Y) (hm : m = g.gcd (n % g)) => hGo (x := X) (y := Y) (n := n) (m := m) rfl (by rw [hpe];exact hX.symm) (by rw [hqe];exact hY.symm) hn hm
 rw [hqe] at hGo2
 have HGo := Lib.hid hGo2
 have HBd : Hid (b.den.natAbs ≤ 1152921504606846976 ∧ q ≤ 1152921504606846976 ∧ 0 < g ∧ g ≤ 1152921504606846976) := ⟨by omega,hq,hg0,hgb⟩
 have HXb : Hid (X ≤ 1152921504606846976 * 1152921504606846976 ∧ Y ≤ 1152921504606846976 * 1152921504606846976) := ⟨hXb,hYb⟩
 clear ha hb a1 a2 a3 a4 b1 b2 b3 b4 hGo hGo2 hg hg0 hgb hq hp hp0 hpe hqe hX hY hXb hYb
 have HBig := Lib.hid (@frac_big (qOf a + qOf b))
 have HFs := Lib.hid fun neg n d => @frac_sign (qOf a + qOf b) n d neg
 generalize qOf a + qOf b = P at *
 obtain ⟨an,ad⟩ := a
 obtain ⟨bn,bd⟩ := b
 simp only at *
 have D0 := ((Blk.new w 23 #[.int .i64 an,.int .i64 ad]).alloc (.cells #[.int .i64 bn,.int .i64 bd] 23)).alloc (.cells #[.int .i64 0,.int .i64 0] 23)
 have D1 := (Blk.new (w.alloc (.cells #[.int .i64 an,.int .i64 ad] 23)) 23 #[.int .i64 bn,.int .i64 bd]).alloc (.cells #[.int .i64 0,.int .i64 0] 23)
 have D2 := Blk.new ((w.alloc (.cells #[.int .i64 an,.int .i64 ad] 23)).alloc (.cells #[.int .i64 bn,.int .i64 bd] 23)) 23 #[.int .i64 0,.int .i64 0]
 have hB := (((Below.refl _ w).alloc (Nat.le_refl _) (.cells #[.int .i64 an,.int .i64 ad] 23)).alloc (by simp) (.cells #[.int .i64 bn,.int .i64 bd] 23)).alloc (by simp;omega) (.cells #[.int .i64 0,.int .i64 0] 23)
 have hs : (((w.alloc (.cells #[.int .i64 an,.int .i64 ad] 23)).alloc (.cells #[.int .i64 bn,.int .i64 bd] 23)).alloc (.cells #[.int .i64 0,.int .i64 0] 23)).heap.size = w.heap.size + 1 + 1 + 1 := by simp
 rw [show ((w.alloc (.cells #[.int .i64 an,.int .i64 ad] 23)).alloc (.cells #[.int .i64 bn,.int .i64 bd] 23)).heap.size = w.heap.size + 1 + 1 by simp] at D2
 rw [World.size_alloc] at D1
 go_enter Tryz.func16,Tryz.ntmps16
 go_wp2_with fail
 generalize ((w.alloc (.cells #[.int .i64 an,.int .i64 ad] 23)).alloc (.cells #[.int .i64 bn,.int .i64 bd] 23)).alloc (.cells #[.int .i64 0,.int .i64 0] 23) = W1 at *
 refine (hva W1).mono ?_
 rintro e w2 ⟨rfl,hb2⟩
 have D0 := D0.below hb2 D0.lt
 have D1 := D1.below hb2 D1.lt
 have D2 := D2.below hb2 D2.lt
 have hB := hB.trans (hb2.mono hB.size)
 have hs : w.heap.size + 1 + 1 < w2.heap.size := by have := hb2.size;omega
 have u0 := D1.cell 0
 have u1 := D1.cell 1
 simp only [List.getElem?_toArray,List.getElem?_cons_succ,List.getElem?_cons_zero] at u0 u1
 go_wp2_with fail
 refine (hvb w2).mono ?_
 rintro e w3 ⟨rfl,hb3⟩
 clear u0 u1 hva hvb
 have D0 := Lib.hid (D0.below hb3 D0.lt)
 have D1 := Lib.hid (D1.below hb3 D1.lt)
 have D2 := Lib.hid (D2.below hb3 D2.lt)
 have HB := Lib.hid (hB.trans (hb3.mono hB.size))
 have Hs : Hid (w.heap.size + 1 + 1 < w3.heap.size) := by have := hb3.size;unfold Hid;omega
 have y0 := D0.out.cell 1
 have y2 := D1.out.cell 1
 simp only [List.getElem?_toArray,List.getElem?_cons_succ,List.getElem?_cons_zero] at y0 y2
 clear hb2 hb3 hB hs
 go_upto_region 4 with (go_at_call 54;refine (HG.out _).mono ?_;rintro e w4 ⟨rfl,hb4⟩)
 have D0 := Lib.hid (D0.out.below hb4 D0.out.lt)
 have D1 := Lib.hid (D1.out.below hb4 D1.out.lt)
 have D2 := Lib.hid (D2.out.below hb4 D2.out.lt)
 have HB := Lib.hid (HB.out.trans (hb4.mono HB.out.size))
 have Hs : Hid (w.heap.size + 1 + 1 < w4.heap.size) := by have := hb4.size;have := Hs.out;unfold Hid;omega
 clear hb4 y0 y2
 have y0 := D0.out.cell 0
 have y1' := D0.out.cell 1
 have y2' := D1.out.cell 0
 have y3' := D1.out.cell 1
 simp only [List.getElem?_toArray,List.getElem?_cons_succ,List.getElem?_cons_zero] at y0 y1' y2' y3'
 have u0 := HeldB.cell y0
 have u1 := HeldB.cell y1'
 have u2 := HeldB.cell y2'
 have u3 := HeldB.cell y3'
 clear y0 y1' y2' y3'
 refine wp_region_apart 20 (fun jx => if jx = 2 then some (gV (.int .u64 (an.natAbs : Nat))) else if jx = 8 then some (gV (wideV X)) else if jx = 11 then some (gV (.int .u64 (bn.natAbs : Nat))) else if jx = 17 then some (gV (wideV Y)) else if jx = 18 then some (gWd w4.heap.size) else if jx = 19 then some (gWd w4.heap.size) else none) [7,8] (by kernel_rfl) (by kernel_rfl) (by kernel_rfl) (two_none rfl rfl) ?_
 simp only [List.take_succ_cons,List.take_zero,List.drop_succ_cons,List.drop_zero]
 refine wpG_quiet 2 (by kernel_rfl) (by rfl) (by decide) ?_
 simp only [List.take_succ_cons,List.take_zero,List.drop_succ_cons,List.drop_zero]
 repeat (go_big_quiet_step (fail))
 refine wpQuiet_nil ?_
 refine wpG_call rfl rfl (fun w1 _ _ => ⟨55,#[.int .i64 an],by go_simp,HSa.out w1⟩) ?_
 rintro _ rfl
 simp only [Act.put,List.setIfInBounds_toArray,List.set_cons_zero,List.set_cons_succ]
 refine wpG_quiet 5 (by kernel_rfl) (by rfl) (by decide) ?_
 simp only [List.take_succ_cons,List.take_zero,List.drop_succ_cons,List.drop_zero]
 repeat (go_big_quiet_step (fail))
 refine wpQuiet_nil ?_
 refine wpG_call rfl rfl (fun w1 _ _ => ⟨56,#[.int .u64 (an.natAbs : Nat),.int .u64 (p : Nat)],by go_simp,HP1.out w1⟩) ?_
 rintro _ rfl
 simp only [Act.put,List.setIfInBounds_toArray,List.set_cons_zero,List.set_cons_succ]
 refine wpG_quiet 2 (by kernel_rfl) (by rfl) (by decide) ?_
 simp only [List.take_succ_cons,List.take_zero,List.drop_succ_cons,List.drop_zero]
 repeat (go_big_quiet_step (fail))
 refine wpQuiet_nil ?_
 refine wpG_call rfl rfl (fun w1 _ _ => ⟨55,#[.int .i64 bn],by go_simp,HSb.out w1⟩) ?_
 rintro _ rfl
 simp only [Act.put,List.setIfInBounds_toArray,List.set_cons_zero,List.set_cons_succ]
 refine wpG_quiet 5 (by kernel_rfl) (by rfl) (by decide) ?_
 simp only [List.take_succ_cons,List.take_zero,List.drop_succ_cons,List.drop_zero]
 repeat (go_big_quiet_step (fail))
 refine wpQuiet_nil ?_
 refine wpG_call rfl rfl (fun w1 _ _ => ⟨56,#[.int .u64 (bn.natAbs : Nat),.int .u64 (q : Nat)],by go_simp,HP2.out w1⟩) ?_
 rintro _ rfl
 simp only [Act.put,List.setIfInBounds_toArray,List.set_cons_zero,List.set_cons_succ]
 refine wpG_new rfl rfl (fun w1 hb1 _ => gWd_new hb1.size (by go_simp)) ?_
 rintro _ ⟨g7,rfl⟩
 simp only [Act.put,List.setIfInBounds_toArray,List.set_cons_zero,List.set_cons_succ]
 refine wpG_new rfl rfl (fun w1 hb1 _ => gWd_new hb1.size (by go_simp)) ?_
 rintro _ ⟨g8,rfl⟩
 simp only [Act.put,List.setIfInBounds_toArray,List.set_cons_zero,List.set_cons_succ]
 refine wpG_nil ?_
 intro w8 hb8 hF hA
 have h6 : AtWide w4.heap.size (.pointer (some ⟨g7,0,none⟩)) w8 := hF 7
 have h7 : AtWide w4.heap.size (.pointer (some ⟨g8,0,none⟩)) w8 := hF 8
 have h67 : g8 ≠ g7 := fun e => (hA 7 (by simp) g7 rfl).2 8 (by simp) (by decide) (by rw [e];rfl)
 have D08 := D0.out.below hb8 D0.out.lt
 have D18 := D1.out.below hb8 D1.out.lt
 have D28 := D2.out.below hb8 D2.out.lt
 have B8 := HB.out.trans (hb8.mono HB.out.size)
 obtain ⟨_,e6,l6,b6⟩ := h6
 obtain ⟨_,e7,l7,b7⟩ := h7
 injection e6 with e6
 injection e6 with e6
 injection e6 with e6 _ _
 injection e7 with e7
 injection e7 with e7
 injection e7 with e7 _ _
 subst e6 e7
 have hs4 := Hs.out
 have HPl := Lib.hid fun W h => raPlus X Y W h
 have HMi := Lib.hid fun W h => raMinus X Y W (by have := HXb.out;omega) h
 have HMj := Lib.hid fun W h => raMinus Y X W (by have := HXb.out;omega) h
 have HLe := Lib.hid fun W => raLess X Y W
 unfold wideV at HPl HMi HMj HLe ⊢
 generalize X / 18446744073709551616 = xh at *
 generalize X % 18446744073709551616 = xl at *
 generalize Y / 18446744073709551616 = yh at *
 generalize Y % 18446744073709551616 = yl at *
 obtain ⟨B9,p6,p7,hk⟩ := wides_kept B8 l6 l7 (by omega) h67 b6 b7 (.int .u64 (xh : Int)) (.int .u64 (xl : Int)) (.int .u64 (yh : Int)) (.int .u64 (yl : Int)) rfl
 have HK : Hid (AddK w _ an ad bn bd g7 g8 xh xl yh yl) := ⟨hk D08 (by omega),hk D18 (by omega),hk D28 (by omega),p6,p7,B9⟩
 have HG7 : Hid (g7 < w8.heap.size ∧ g8 < w8.heap.size ∧ w.heap.size + 1 + 1 < w8.heap.size) := ⟨b6.lt,b7.lt,by have := hb8.size;omega⟩
 have f60 := b6.frozen 0
 have f61 := (b6.set_ 0 (.int .u64 (xh : Int))).frozen 1
 have b7x := (b7.far (p := ⟨g7,0,none⟩) h67 (.int .u64 (xh : Int))).far (p := ⟨g7,1,none⟩) h67 (.int .u64 (xl : Int))
 have b7y := b7x.set_ 0 (.int .u64 (yh : Int))
 have f70 := b7x.frozen 0
 have f71 := b7y.frozen 1
 have b60 := b6.cell 0
 have b61 := (b6.set_ 0 (.int .u64 (xh : Int))).cell 1
 have b70 := b7x.cell 0
 have b71 := b7y.cell 1
 simp only [List.setIfInBounds_toArray,List.set_cons_zero] at b71 b61
 simp only [List.getElem?_toArray,List.getElem?_cons_succ,List.getElem?_cons_zero] at b60 b61 b70 b71
 clear b7x b7y hk HSa HSb HP1 HP2 h67 hs4 Hs l6 l7 b6 b7 p6 p7 B8 B9 D08 D18 D28 hA hF hb8 HB D0 D1 D2 u0 u1 u2 u3 HG
 go_upto_region 5 with fail
 generalize hW4 : (((w8.setCell ⟨g7,0,none⟩ (.int .u64 (xh : Int))).setCell ⟨g7,1,none⟩ (.int .u64 (xl : Int))).setCell ⟨g8,0,none⟩ (.int .u64 (yh : Int))).setCell ⟨g8,1,none⟩ (.int .u64 (yl : Int)) = W4 at *
 have hW5 : w8.heap.size = W4.heap.size := by rw [← hW4];simp
 clear hW4
 clear f60 f61 f70 f71 b60 b61 b70 b71
 rw [hW5] at HG7
 clear hW5
 have z0 := HK.out.a.cell 0
 have k0 := (Blk.new W4 89 #[.int .u64 0,.int .u64 0]).cell 0
 have k1 := ((Blk.new W4 89 #[.int .u64 0,.int .u64 0]).set_ 0 (.int .u64 0)).cell 1
 have m0 := (Blk.new W4 89 #[.int .u64 0,.int .u64 0]).frozen 0
 have m1 := ((Blk.new W4 89 #[.int .u64 0,.int .u64 0]).set_ 0 (.int .u64 0)).frozen 1
 simp only [List.setIfInBounds_toArray,List.set_cons_zero,List.getElem?_toArray,List.getElem?_cons_succ,List.getElem?_cons_zero] at z0 k0 k1
 have hg7 := HG7.out
 have HK := Lib.hid (HK.out.grow ((Below.refl _ W4).alloc (Nat.le_refl _) (.cells #[.int .u64 0,.int .u64 0] 89)))
 have K10 := Lib.hid (Blk.new W4 89 #[.int .u64 0,.int .u64 0])
 clear hg7
 go_upto_region 7 with fail
 generalize W4.alloc (.cells #[.int .u64 0,.int .u64 0] 89) = W5 at *
 obtain ⟨g10,hg10⟩ : ∃ g10,W4.heap.size = g10 := ⟨_,rfl⟩
 rw [hg10] at HG7 K10 ⊢
 clear hg10
 have h3 : s1 = s2 ∨ (¬ s1 = s2 ∧ X < Y) ∨ (¬ s1 = s2 ∧ ¬ X < Y) := by
  by_cases h : s1 = s2
  ·exact .inl h
  ·by_cases h2 : X < Y
   ·exact .inr (.inl ⟨h,h2⟩)
   ·exact .inr (.inr ⟨h,h2⟩)
 rcases h3 with hst | ⟨hst,hlt⟩ | ⟨hst,hlt⟩
 case' inl =>
  have hbq : (s1 == s2) = true := by rw [hst];exact beq_self_eq_true _
  obtain ⟨neg,hneg⟩ : ∃ neg,s2 = neg := ⟨_,rfl⟩
  obtain ⟨num,hnum⟩ : ∃ num,num = X + Y := ⟨_,rfl⟩
  have hadd : num = addNum s1 s2 X Y := by rw [hnum];unfold addNum;rw [if_pos hst]
  have HNg : Hid (addNeg s1 s2 X Y = s1) := by unfold Hid addNeg;rw [if_pos hst]
  have hCl := fun W => HPl.out W (by have := HXb.out;omega)
  have HNg : Hid (addNeg s1 s2 X Y = neg) := HNg.out.trans (hst.trans hneg)
 case' inr.inl =>
  have hbq : (s1 == s2) = false := beq_eq_false_iff_ne.2 hst
  obtain ⟨neg,hneg⟩ : ∃ neg,(!s1) = neg := ⟨_,rfl⟩
  have hle := HLe.out
  rw [decide_eq_true hlt] at hle
  obtain ⟨num,hnum⟩ : ∃ num,num = Y - X := ⟨_,rfl⟩
  have hadd : num = addNum s1 s2 X Y := by rw [hnum];unfold addNum;rw [if_neg hst,if_pos hlt]
  have HNg : Hid (addNeg s1 s2 X Y = !s1) := by unfold Hid addNeg;rw [if_neg hst,if_pos hlt]
  have hCl := fun W => HMj.out W (Nat.le_of_lt hlt)
  have HNg : Hid (addNeg s1 s2 X Y = neg) := HNg.out.trans hneg
 case' inr.inr =>
  have hbq : (s1 == s2) = false := beq_eq_false_iff_ne.2 hst
  obtain ⟨neg,hneg⟩ : ∃ neg,s1 = neg := ⟨_,rfl⟩
  have hbq2 : (neg == s2) = false := by rw [← hneg];exact hbq
  have hst2 : ¬ neg = s2 := by rw [← hneg];exact hst
  have hle := HLe.out
  rw [decide_eq_false hlt] at hle
  obtain ⟨num,hnum⟩ : ∃ num,num = X - Y := ⟨_,rfl⟩
  have hadd : num = addNum s1 s2 X Y := by rw [hnum];unfold addNum;rw [if_neg hst,if_neg hlt]
  have HNg : Hid (addNeg s1 s2 X Y = s1) := by unfold Hid addNeg;rw [if_neg hst,if_neg hlt]
  have hCl := fun W => HMi.out W (Nat.le_of_not_lt hlt)
  have HNg : Hid (addNeg s1 s2 X Y = neg) := HNg.out.trans hneg
 all_goals
  have HR := Lib.hid (HGo.out num _ hadd rfl)
  have HNb : Hid (num < 340282366920938463463374607431768211456) := by have := HXb.out;unfold Hid;omega
  rw [← hnum] at hCl
  have HW : Hid (num = 18446744073709551616 * (num / 18446744073709551616) + num % 18446744073709551616) := (Nat.div_add_mod _ _).symm
  obtain ⟨rest,hrest⟩ : ∃ rest,num % g = rest := ⟨_,rfl⟩
  have hbd := HBd.out
  have hrl : rest < g := by rw [← hrest];exact Nat.mod_lt _ hbd.2.2.1
  obtain ⟨m,hm⟩ : ∃ m,g.gcd rest = m := ⟨_,rfl⟩
  have hm0 : 0 < m := by rw [← hm];exact Nat.gcd_pos_of_pos_left _ hbd.2.2.1
  have hml : m ≤ 1152921504606846976 := by rw [← hm];exact Nat.le_trans (Nat.gcd_le_left _ hbd.2.2.1) hbd.2.2.2
  have HOv := Lib.hid fun W => raOver num g W HNb.out hbd.2.2.1 (by omega)
  have HOm := Lib.hid fun W => raOver num m W HNb.out hm0 (by omega)
  have HGm := Lib.hid fun W => (raGcd g rest W (by omega) (by omega)).mono fun _ _ h => (⟨h.1,match h.2 with | ⟨n,hn⟩ => hn ▸ below_drewN (Below.refl _ _) n⟩ : _ ∧ Below W.heap.size W _)
  obtain ⟨k,hk⟩ : ∃ k,bd.natAbs / m = k := ⟨_,rfl⟩
  have hkl : k ≤ 1152921504606846976 := by rw [← hk];exact Nat.le_trans (Nat.div_le_self _ _) hbd.1
  have HT3 : Hid ((bd.natAbs : Int) / (m : Int) = (k : Int) ∧ (bd.natAbs : Int).tdiv (m : Int) = (k : Int)) := ⟨by rw [← hk,Int.natCast_ediv],by rw [← hk];exact (Int.ofNat_tdiv _ _).symm⟩
  have HM3 : Hid (0 < m ∧ k ≤ 1152921504606846976) := ⟨hm0,hkl⟩
  have HP3 := Lib.hid fun W => prod_g (x := q) (y := k) W (by omega) (by omega)
  rw [hrest] at HOv HR
  rw [hm] at HGm HR
  rw [hk] at HR
  clear hrest hrl hm hm0 hml hk hkl hbd
  unfold wideV at HOv HOm
  generalize num / 18446744073709551616 = nh at *
  generalize num % 18446744073709551616 = nl at *
  generalize num / g / 18446744073709551616 = oh at *
  generalize num / g % 18446744073709551616 = ol at *
  obtain ⟨n1,hn1⟩ : ∃ n1,num / m = n1 := ⟨_,rfl⟩
  rw [hn1] at HOm HR
  clear hn1
  have HX : Hid (n1 = 18446744073709551616 * (n1 / 18446744073709551616) + n1 % 18446744073709551616) := (Nat.div_add_mod _ _).symm
  generalize n1 / 18446744073709551616 = ah at *
  generalize n1 % 18446744073709551616 = al at *
  have HCl := Lib.hid hCl
  clear hCl hnum hadd HPl HMi HMj HGo
  have c0 := HK.out.x.cell 0
  have c1 := HK.out.x.cell 1
  have c2 := HK.out.y.cell 0
  have c3 := HK.out.y.cell 1
  have c4 := HK.out.a.cell 0
  have c5 := HK.out.b.cell 0
  simp only [List.getElem?_toArray,List.getElem?_cons_succ,List.getElem?_cons_zero] at c0 c1 c2 c3 c4 c5
  go_upto_region 11 with (first | (go_at_call 59;refine (hle _).mono ?_;rintro e w5 ⟨rfl,hb5⟩;have K10 := Lib.hid (K10.out.below hb5 K10.out.lt);have HK := Lib.hid (HK.out.grow hb5);clear c0 c1 c2 c3 c4 c5 hb5;have c0 := HK.out.x.cell 0;have c1 := HK.out.x.cell 1;have c2 := HK.out.y.cell 0;have c3 := HK.out.y.cell 1;have c4 := HK.out.a.cell 0;have c5 := HK.out.b.cell 0;simp only [List.getElem?_toArray,List.getElem?_cons_succ,List.getElem?_cons_zero] at c0 c1 c2 c3 c4 c5) | ((first | go_at_call 58 | go_at_call 60);refine (HCl.out _).mono ?_;rintro e w6 ⟨rfl,hb6⟩;have K10 := Lib.hid (K10.out.below hb6 K10.out.lt);have HK := Lib.hid (HK.out.grow hb6);have j0 := K10.out.cell 0;have f0 := K10.out.frozen 0;have K11 := K10.out.set_ 0 (.int .u64 (nh : Int));have j1 := K11.cell 1;have f1 := K11.frozen 1;simp only [List.setIfInBounds_toArray,List.set_cons_zero,List.getElem?_toArray,List.getElem?_cons_succ,List.getElem?_cons_zero] at j0 j1;clear K11))
  have hg7 := HG7.out
  have HK := Lib.hid ((HK.out.put (g := g10) (by omega) (by omega) (by omega) 0 (.int .u64 (nh : Int))).put (g := g10) (by omega) (by omega) (by omega) 1 (.int .u64 (nl : Int)))
  have K10 := Lib.hid ((K10.out.set_ 0 (.int .u64 (nh : Int))).set_ 1 (.int .u64 (nl : Int)))
  generalize (w6.setCell ⟨g10,0,none⟩ (.int .u64 (nh : Int))).setCell ⟨g10,1,none⟩ (.int .u64 (nl : Int)) = V at *
  clear hg7 j0 j1 f0 f1 hb6 HCl c0 c1 c2 c3 c4 c5 hbq
  simp only [List.setIfInBounds_toArray,List.set_cons_zero,List.set_cons_succ,] at K10
  clear HLe hneg ds1 ds2 HXb
  have j0 := K10.out.cell 0
  have j1 := K10.out.cell 1
  simp only [List.getElem?_toArray,List.getElem?_cons_succ,List.getElem?_cons_zero] at j0 j1
  by_cases hz : num = 0
  ·have hnh : nh = 0 := by have := HW.out;omega
   have hnl : nl = 0 := by have := HW.out;omega
   subst hnh
   subst hnl
   have HV : Hid (fracV P = .tuple #[.agg #[.int .i64 0,.int .i64 1],.int .i64 0]) := by unfold Hid;rw [HR.out.1 hz];rfl
   have r0 := HK.out.r.cell 0
   have g0 := HK.out.r.frozen 0
   have L3 := HK.out.r.set_ 0 (.int .i64 0)
   have r1 := L3.cell 1
   have g1 := L3.frozen 1
   have L4 := L3.set_ 1 (.int .i64 1)
   have z0 := L4.cell 0
   have z1 := L4.cell 1
   simp only [List.setIfInBounds_toArray,List.set_cons_zero,List.set_cons_succ,List.getElem?_toArray,List.getElem?_cons_succ,List.getElem?_cons_zero] at r0 r1 z0 z1
   have BZ := Lib.hid ((HK.out.bel.setCell (p := ⟨w.heap.size + 1 + 1,0,none⟩) (by show w.heap.size ≤ w.heap.size + 1 + 1;omega) (.int .i64 0)).setCell (p := ⟨w.heap.size + 1 + 1,1,none⟩) (by show w.heap.size ≤ w.heap.size + 1 + 1;omega) (.int .i64 1))
   clear L3 L4
   clear HR HBig HFs HOv HW hz
   go_wp2_with fail
   refine bodyPost_ret (v := .tuple #[.agg #[.int .i64 0,.int .i64 1],.int .i64 0]) (by simp [results,Tryz.results16,go_sem,z0,z1]) rfl ?_
   exact ⟨by rw [HV.out],BZ.out⟩
  have HR2 := Lib.hid (HR.out.2 hz)
  clear HR
  by_cases hn0 : nh = 0
  case' pos =>
   have hnl0 : ¬ nl = 0 := by have := HW.out;omega
   subst hn0
  all_goals
   clear hz HW
   go_upto_region 14 with (first | (go_at_call 61;refine (HOv.out _).mono ?_;rintro e w7 ⟨rfl,hb7⟩;have K10 := Lib.hid (K10.out.below hb7 K10.out.lt);have HK := Lib.hid (HK.out.grow hb7);have N11 := Blk.new w7 89 #[.int .u64 0,.int .u64 0];have k0 := N11.cell 0;have m0 := N11.frozen 0;have N12 := N11.set_ 0 (.int .u64 (oh : Int));have k1 := N12.cell 1;have m1 := N12.frozen 1;simp only [List.setIfInBounds_toArray,List.set_cons_zero,List.getElem?_toArray,List.getElem?_cons_succ,List.getElem?_cons_zero] at k0 k1;clear N11 N12))
   have hg7 := HG7.out
   have hke := K10.out.lt
   have HK := Lib.hid (HK.out.grow ((Below.refl _ w7).alloc (Nat.le_refl _) (.cells #[.int .u64 (oh : Int),.int .u64 (ol : Int)] 89)))
   have K10 := Lib.hid (K10.out.below ((Below.refl _ w7).alloc (Nat.le_refl _) (.cells #[.int .u64 (oh : Int),.int .u64 (ol : Int)] 89)) hke)
   generalize w7.alloc (.cells #[.int .u64 (oh : Int),.int .u64 (ol : Int)] 89) = V2 at *
   clear hke k0 k1 m0 m1 hb7 j0 j1 HOv
   have j0 := K10.out.cell 0
   have j1 := K10.out.cell 1
   simp only [List.getElem?_toArray,List.getElem?_cons_succ,List.getElem?_cons_zero] at j0 j1
   go_upto_region 15 with (first | (go_at_call 54;refine (HGm.out _).mono ?_;rintro e w8 ⟨rfl,hb8⟩))
   have K10 := Lib.hid (K10.out.below hb8 K10.out.lt)
   have HK := Lib.hid (HK.out.grow hb8)
   clear hb8 j0 j1 HGm
   have j0 := K10.out.cell 0
   have j1 := K10.out.cell 1
   simp only [List.getElem?_toArray,List.getElem?_cons_succ,List.getElem?_cons_zero] at j0 j1
   go_upto_region 16 with (first | (go_at_call 61;refine (HOm.out _).mono ?_;rintro e w9 ⟨rfl,hb9⟩;have K10 := Lib.hid (K10.out.below hb9 K10.out.lt);have HK := Lib.hid (HK.out.grow hb9);have j0 := K10.out.cell 0;have f0 := K10.out.frozen 0;have K11 := K10.out.set_ 0 (.int .u64 (ah : Int));have j1 := K11.cell 1;have f1 := K11.frozen 1;simp only [List.setIfInBounds_toArray,List.set_cons_zero,List.getElem?_toArray,List.getElem?_cons_succ,List.getElem?_cons_zero] at j0 j1;clear K11))
   have HK := Lib.hid ((HK.out.put (g := g10) (by omega) (by omega) (by omega) 0 (.int .u64 (ah : Int))).put (g := g10) (by omega) (by omega) (by omega) 1 (.int .u64 (al : Int)))
   have K10 := Lib.hid ((K10.out.set_ 0 (.int .u64 (ah : Int))).set_ 1 (.int .u64 (al : Int)))
   simp only [List.setIfInBounds_toArray,List.set_cons_zero,List.set_cons_succ,] at K10
   generalize (w9.setCell ⟨g10,0,none⟩ (.int .u64 (ah : Int))).setCell ⟨g10,1,none⟩ (.int .u64 (al : Int)) = V3 at *
   clear j0 j1 f0 f1 hb9 HOm
   have y1' := HK.out.a.cell 1
   have y3' := HK.out.b.cell 1
   simp only [List.getElem?_toArray,List.getElem?_cons_succ,List.getElem?_cons_zero] at y1' y3'
   have u1 := HeldB.cell y1'
   have u3 := HeldB.cell y3'
   clear y1' y3'
   obtain ⟨t3,t3'⟩ := HT3.out
   obtain ⟨hm0,hkl⟩ := HM3.out
   have x3 : IntKind.u64.wrap (k : Int) = (k : Int) := Mul64.wrapN _ (by omega)
   have y5 : ((m : Int) == 0) = false := beq_eq_false_iff_ne.2 (by omega)
   have y6 : ¬ (m : Int) = 0 := by omega
   have y7 : ¬ m = 0 := by omega
   refine wp_region_grow 12 (fun jx => if jx = 10 then some (gV (wideV (q * k))) else if jx = 11 then some (gWd V3.heap.size) else none) (by kernel_rfl) (by kernel_rfl) ?_
   simp only [List.take_succ_cons,List.take_zero,List.drop_succ_cons,List.drop_zero]
   refine wpG_quiet 10 (by kernel_rfl) (by rfl) (by decide) ?_
   simp only [List.take_succ_cons,List.take_zero,List.drop_succ_cons,List.drop_zero]
   repeat (go_big_quiet_step (fail))
   refine wpQuiet_nil ?_
   refine wpG_call rfl rfl (fun w1 _ _ => ⟨56,#[.int .u64 (q : Nat),.int .u64 (k : Nat)],by go_simp,HP3.out w1⟩) ?_
   rintro _ rfl
   simp only [Act.put,List.setIfInBounds_toArray,List.set_cons_zero,List.set_cons_succ]
   refine wpG_new rfl rfl (fun w1 hb1 _ => gWd_new hb1.size (by go_simp)) ?_
   rintro _ ⟨g14,rfl⟩
   simp only [Act.put,List.setIfInBounds_toArray,List.set_cons_zero,List.set_cons_succ]
   refine wpG_nil ?_
   intro w10 hb10 hF
   have h7 : AtWide V3.heap.size (.pointer (some ⟨g14,0,none⟩)) w10 := hF 14
   obtain ⟨_,e7,l7,b7⟩ := h7
   injection e7 with e7
   injection e7 with e7
   injection e7 with e7 _ _
   subst e7
   have hse := K10.out.lt
   have K10 := Lib.hid (K10.out.below hb10 K10.out.lt)
   have hsa := HK.out.x.lt
   have hsb := HK.out.y.lt
   have hsc := HK.out.r.lt
   have hsd := HK.out.bel.size
   have HK := Lib.hid (HK.out.grow hb10)
   obtain ⟨D,hD⟩ : ∃ D,q * k = D := ⟨_,rfl⟩
   rw [hD] at HR2
   unfold wideV
   rw [hD]
   have HY : Hid (D = 18446744073709551616 * (D / 18446744073709551616) + D % 18446744073709551616) := (Nat.div_add_mod _ _).symm
   generalize D / 18446744073709551616 = dh at *
   generalize D % 18446744073709551616 = dl at *
   have hg7 := HG7.out
   have f70 := b7.frozen 0
   have b70 := b7.cell 0
   have b7y := b7.set_ 0 (.int .u64 (dh : Int))
   have f71 := b7y.frozen 1
   have b71 := b7y.cell 1
   simp only [List.setIfInBounds_toArray,List.set_cons_zero,List.getElem?_toArray,List.getElem?_cons_succ,List.getElem?_cons_zero] at b70 b71
   have HK := Lib.hid ((HK.out.put (g := g14) (by omega) (by omega) (by omega) 0 (.int .u64 (dh : Int))).put (g := g14) (by omega) (by omega) (by omega) 1 (.int .u64 (dl : Int)))
   have K10 := Lib.hid ((K10.out.far (p := ⟨g14,0,none⟩) (by show g10 ≠ g14;omega) (.int .u64 (dh : Int))).far (p := ⟨g14,1,none⟩) (by show g10 ≠ g14;omega) (.int .u64 (dl : Int)))
   have K14 := Lib.hid (b7y.set_ 1 (.int .u64 (dl : Int)))
   simp only [List.setIfInBounds_toArray,List.set_cons_zero,List.set_cons_succ,] at K14
   clear b7 b7y l7 hF hb10 HP3 u1 u3 t3 t3' x3 y5 y6 y7 hm0 hkl HT3 HM3 hsa hsb hsc hsd hse hg7
   go_upto_region 17 with fail
   generalize (w10.setCell ⟨g14,0,none⟩ (.int .u64 (dh : Int))).setCell ⟨g14,1,none⟩ (.int .u64 (dl : Int)) = V4 at *
   clear f70 f71 b70 b71
   have j0 := K10.out.cell 0
   have j1 := K10.out.cell 1
   have j2 := K14.out.cell 0
   have j3 := K14.out.cell 1
   simp only [List.getElem?_toArray,List.getElem?_cons_succ,List.getElem?_cons_zero] at j0 j1 j2 j3
   by_cases c1 : 0 < ah
   ·have d1 : decide ((0 : Int) < (ah : Int)) = true := decide_eq_true (by omega)
    have d2 : decide (0 < ah) = true := decide_eq_true c1
    have HV : Hid (fracV P = .tuple #[.agg #[.int .i64 0,.int .i64 0],.int .i64 5]) := HBig.out (by obtain ⟨e1,e2,-⟩ := HR2.out;have := HX.out;have := HY.out;omega)
    have r0 := HK.out.r.cell 0
    have g0 := HK.out.r.frozen 0
    have L3 := HK.out.r.set_ 0 (.int .i64 0)
    have r1 := L3.cell 1
    have g1 := L3.frozen 1
    have L4 := L3.set_ 1 (.int .i64 0)
    have z0 := L4.cell 0
    have z1 := L4.cell 1
    simp only [List.setIfInBounds_toArray,List.set_cons_zero,List.set_cons_succ,List.getElem?_toArray,List.getElem?_cons_succ,List.getElem?_cons_zero] at r0 r1 z0 z1
    have BZ := Lib.hid ((HK.out.bel.setCell (p := ⟨w.heap.size + 1 + 1,0,none⟩) (by show w.heap.size ≤ w.heap.size + 1 + 1;omega) (.int .i64 0)).setCell (p := ⟨w.heap.size + 1 + 1,1,none⟩) (by show w.heap.size ≤ w.heap.size + 1 + 1;omega) (.int .i64 0))
    clear L3 L4
    clear HR2 HBig HFs HX HY c1
    go_wp2_with fail
    refine bodyPost_ret (v := .tuple #[.agg #[.int .i64 0,.int .i64 0],.int .i64 5]) (by simp [results,Tryz.results16,go_sem,z0,z1]) rfl ?_
    exact ⟨by rw [HV.out],BZ.out⟩
   have d1 : decide ((0 : Int) < (ah : Int)) = false := decide_eq_false (by omega)
   have d2 : decide (0 < ah) = false := decide_eq_false c1
   have N0 : Hid (ah = 0) := by unfold Hid;omega
   clear c1
   by_cases c1 : 0 < dh
   ·have d3 : decide ((0 : Int) < (dh : Int)) = true := decide_eq_true (by omega)
    have d4 : decide (0 < dh) = true := decide_eq_true c1
    have HV : Hid (fracV P = .tuple #[.agg #[.int .i64 0,.int .i64 0],.int .i64 5]) := HBig.out (by obtain ⟨e1,e2,-⟩ := HR2.out;have := HX.out;have := HY.out;omega)
    have r0 := HK.out.r.cell 0
    have g0 := HK.out.r.frozen 0
    have L3 := HK.out.r.set_ 0 (.int .i64 0)
    have r1 := L3.cell 1
    have g1 := L3.frozen 1
    have L4 := L3.set_ 1 (.int .i64 0)
    have z0 := L4.cell 0
    have z1 := L4.cell 1
    simp only [List.setIfInBounds_toArray,List.set_cons_zero,List.set_cons_succ,List.getElem?_toArray,List.getElem?_cons_succ,List.getElem?_cons_zero] at r0 r1 z0 z1
    have BZ := Lib.hid ((HK.out.bel.setCell (p := ⟨w.heap.size + 1 + 1,0,none⟩) (by show w.heap.size ≤ w.heap.size + 1 + 1;omega) (.int .i64 0)).setCell (p := ⟨w.heap.size + 1 + 1,1,none⟩) (by show w.heap.size ≤ w.heap.size + 1 + 1;omega) (.int .i64 0))
    clear L3 L4
    clear HR2 HBig HFs HX HY c1
    go_wp2_with fail
    refine bodyPost_ret (v := .tuple #[.agg #[.int .i64 0,.int .i64 0],.int .i64 5]) (by simp [results,Tryz.results16,go_sem,z0,z1]) rfl ?_
    exact ⟨by rw [HV.out],BZ.out⟩
   have d3 : decide ((0 : Int) < (dh : Int)) = false := decide_eq_false (by omega)
   have d4 : decide (0 < dh) = false := decide_eq_false c1
   have HV := HFs.out neg al dl (by have := HR2.out.1;have := HX.out;have := N0.out;omega) (by have := HR2.out.2.1;have := HY.out;omega) (by rw [← HNg.out];exact HR2.out.2.2)
   obtain ⟨fx,fy,fz,hf⟩ := signV_form neg al dl
   have hsg := fun W => raSigned neg al dl W
   rw [hf] at HV hsg
   have HV := Lib.hid HV
   clear hf HR2 HBig HFs HX HY c1 N0
   go_wp2_with (first | (go_at_call 57;refine (hsg _).mono ?_;rintro e w11 ⟨rfl,hb11⟩;have HK := Lib.hid (HK.out.grow hb11);have r0 := HK.out.r.cell 0;have g0 := HK.out.r.frozen 0;have L3 := HK.out.r.set_ 0 (.int .i64 fx);have r1 := L3.cell 1;have g1 := L3.frozen 1;have L4 := L3.set_ 1 (.int .i64 fy);have z0 := L4.cell 0;have z1 := L4.cell 1;simp only [List.setIfInBounds_toArray,List.set_cons_zero,List.set_cons_succ,List.getElem?_toArray,List.getElem?_cons_succ,List.getElem?_cons_zero] at r0 r1 z0 z1;have BZ := Lib.hid ((HK.out.bel.setCell (p := ⟨w.heap.size + 1 + 1,0,none⟩) (by show w.heap.size ≤ w.heap.size + 1 + 1;omega) (.int .i64 fx)).setCell (p := ⟨w.heap.size + 1 + 1,1,none⟩) (by show w.heap.size ≤ w.heap.size + 1 + 1;omega) (.int .i64 fy));clear L3 L4))
   refine bodyPost_ret (v := .tuple #[.agg #[.int .i64 fx,.int .i64 fy],.int .i64 fz]) (by simp [results,Tryz.results16,go_sem,z0,z1]) rfl ?_
   exact ⟨by rw [HV.out],BZ.out⟩
end Go.Proofs.YtknkhnahflmjiaaGreatDoor
