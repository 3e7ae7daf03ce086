/- Parts of the proof, laid into one text: RaMul, RaDiv, AddW. -/
import Derived.BigQuiet
import Derived.Deep.AppendLies
import Derived.Deep.DeepCutAuto
import Derived.Deep.Draws
import Derived.Deep.LoopGhost
import Derived.Deep.QuietTactic
import Derived.IntWalk
import Derived.Laws.Bits64b
import Derived.Lib.Hide
import Derived.Lib.ItoaNum
import Derived.LoopIn
import Derived.LoopNIn
import Derived.Maps.AppendAt
import Derived.Outline
import Derived.OwnWalkIn
import Derived.RangeFuncBox
import Derived.RangeFuncLeaves
import Derived.Shelf.Abstract
import Derived.Shelf.Bits.Mul64
import Derived.Shelf.Small.Bits
import Derived.Shelf.Spec.BitsCarry
import Derived.Shelf.Strconv.Itoa3
import Derived.StillTail
import Derived.StillTailTactics
import Derived.TacticsInMore
import Derived.Test.YtknkhnahflmjiaaGreatDoorB1
import Derived.Test.YtknkhnahflmjiaaGreatDoorE1
import Derived.Test.YtknkhnahflmjiaaGreatDoorE2
import Derived.Test.YtknkhnahflmjiaaGreatDoorE3
import Derived.Test.YtknkhnahflmjiaaGreatDoorE4
import Derived.Test.YtknkhnahflmjiaaGreatDoorE6
import Derived.Test.YtknkhnahflmjiaaGreatDoorE7
import Derived.Test.YtknkhnahflmjiaaGreatDoorH1
import Derived.Test.YtknkhnahflmjiaaGreatDoorH2
import Derived.Test.YtknkhnahflmjiaaGreatDoorProg
import Derived.WalkKit
import Derived.WalkLawsBesides
import Derived.WalkSpells

namespace Go.Proofs.YtknkhnahflmjiaaGreatDoor
open Go.RowKit Go.Shelf
theorem gcd_nums {A D : Nat} (hD : 0 < D) (hA : A ≤ 1152921504606846976) (hD2 : D ≤ 1152921504606846976) : ∃ g p q : Nat,Nat.gcd A D = g ∧ A / g = p ∧ D / g = q ∧ 0 < g ∧ p ≤ 1152921504606846976 ∧ q ≤ 1152921504606846976 ∧ (A : Int).tdiv (g : Int) = (p : Int) ∧ (D : Int).tdiv (g : Int) = (q : Int) := by
 refine ⟨_,_,_,rfl,rfl,rfl,Nat.gcd_pos_of_pos_right _ hD,Nat.le_trans (Nat.div_le_self _ _) hA,Nat.le_trans (Nat.div_le_self _ _) hD2,(Int.ofNat_tdiv _ _).symm,(Int.ofNat_tdiv _ _).symm⟩
theorem size_b {n : Int} {W : World} (h1 : -1152921504606846976 ≤ n) (h2 : n ≤ 1152921504606846976) (w' : World) (_ : Below W.heap.size W w') :
  Calls Tryz.prog 55 #[.int .i64 n] w' fun e w'' => e = .returned (.int .u64 (n.natAbs : Nat)) ∧ Below w'.heap.size w' w'' :=
 (raSize n w' h1 h2).mono fun _ _ ⟨he,hw⟩ => ⟨he,hw ▸ Below.refl _ _⟩
theorem signV_form (neg : Bool) (n d : Nat) : ∃ x y z : Int,signV neg n d = .tuple #[.agg #[.int .i64 x,.int .i64 y],.int .i64 z] := by
 unfold signV
 split
 ·exact ⟨_,_,_,rfl⟩
 ·exact ⟨_,_,_,rfl⟩
theorem wides_kept {o w W : World} {B g6 g7 : Nat} (hB : Below w.heap.size w W) (h6 : B ≤ g6) (h7 : B ≤ g7) (hw : w.heap.size ≤ B) (hne : g7 ≠ g6) (b6 : Blk W g6 89 #[.int .u64 0,.int .u64 0]) (b7 : Blk W g7 89 #[.int .u64 0,.int .u64 0])
  (x0 x1 y0 y1 : Value) (hW : o = ((((W.setCell ⟨g6,0,none⟩ x0).setCell ⟨g6,1,none⟩ x1).setCell ⟨g7,0,none⟩ y0).setCell ⟨g7,1,none⟩ y1)) :
  Below w.heap.size w o ∧ Blk o g6 89 #[x0,x1] ∧ Blk o g7 89 #[y0,y1] ∧ ∀ {g : Nat} {t : TypeId} {c : Array Value},Blk W g t c → g < B → Blk o g t c := by
 subst hW
 exact ⟨(((hB.setCell (by show w.heap.size ≤ g6;omega) _).setCell (by show w.heap.size ≤ g6;omega) _).setCell (by show w.heap.size ≤ g7;omega) _).setCell (by show w.heap.size ≤ g7;omega) _,
  (((b6.set_ 0 x0).set_ 1 x1).far (p := ⟨g7,0,none⟩) (Ne.symm hne) y0).far (p := ⟨g7,1,none⟩) (Ne.symm hne) y1,(((b7.far (p := ⟨g6,0,none⟩) hne x0).far (p := ⟨g6,1,none⟩) hne x1).set_ 0 y0).set_ 1 y1,
  fun {g _ _} hb hg => (((hb.far (p := ⟨g6,0,none⟩) (show g ≠ g6 by omega) x0).far (p := ⟨g6,1,none⟩) (show g ≠ g6 by omega) x1).far (p := ⟨g7,0,none⟩) (show g ≠ g7 by omega) y0).far (p := ⟨g7,1,none⟩) (show g ≠ g7 by omega) y1⟩
set_option maxRecDepth 100000 in
set_option maxHeartbeats 8000000 in
theorem raMul (a b : FrT) (w : World) (ha : frGood a = true) (hb : frGood b = true) :
  Calls Tryz.prog 14 #[a.val,b.val] w fun e w' => e = .returned (fracV (qOf a * qOf b)) ∧ Below w.heap.size w w' := by
 have hva := fun W => raValid a W
 have hvb := fun W => raValid b W
 rw [ha] at hva
 rw [hb] at hvb
 obtain ⟨a1,a2,a3,a4⟩ := good_bd ha
 obtain ⟨b1,b2,b3,b4⟩ := good_bd hb
 have wa : IntKind.u64.wrap a.den = ((a.den.natAbs : Nat) : Int) := by show a.den % 18446744073709551616 = _;omega
 have wb : IntKind.u64.wrap b.den = ((b.den.natAbs : Nat) : Int) := by show b.den % 18446744073709551616 = _;omega
 have HSa := Lib.hid fun W => size_g (n := a.num) W a3 a4
 have HSb := Lib.hid fun W => size_g (n := b.num) W b3 b4
 have HCa := Lib.hid fun (W : World) => HeldB.call (size_b (W := W) a3 a4)
 have HCb := Lib.hid fun (W : World) => HeldB.call (size_b (W := W) b3 b4)
 have hGo := @mul_go a b ha hb
 obtain ⟨g,p1,q2,hg,hp1,hq2,hg0,lp1,lq2,tp1,tq2⟩ := gcd_nums (A := a.num.natAbs) (D := b.den.natAbs) (by omega) (by omega) (by omega)
 obtain ⟨h,p2,q1,hh,hp2,hq1,hh0,lp2,lq1,tp2,tq1⟩ := gcd_nums (A := b.num.natAbs) (D := a.den.natAbs) (by omega) (by omega) (by omega)
 rw [hg,hh,hp1,hq2,hp2,hq1] at hGo
 have HGo := Lib.hid (hGo rfl rfl)
 have HGa := Lib.hid fun (W : World) => HeldB.callq (W := W) fun w' _ => by have := raGcd a.num.natAbs b.den.natAbs w' (by omega) (by omega);rw [hg] at this;exact this
 have HGb := Lib.hid fun (W : World) => HeldB.callq (W := W) fun w' _ => by have := raGcd b.num.natAbs a.den.natAbs w' (by omega) (by omega);rw [hh] at this;exact this
 have HP1 := Lib.hid fun W => prod_g (x := p1) (y := p2) W (by omega) (by omega)
 have HP2 := Lib.hid fun W => prod_g (x := q1) (y := q2) W (by omega) (by omega)
 have x1 : IntKind.u64.wrap ((p1 : Nat) : Int) = ((p1 : Nat) : Int) := by show (p1 : Int) % 18446744073709551616 = _;omega
 have x2 : IntKind.u64.wrap ((p2 : Nat) : Int) = ((p2 : Nat) : Int) := by show (p2 : Int) % 18446744073709551616 = _;omega
 have x3 : IntKind.u64.wrap ((q1 : Nat) : Int) = ((q1 : Nat) : Int) := by show (q1 : Int) % 18446744073709551616 = _;omega
 have x4 : IntKind.u64.wrap ((q2 : Nat) : Int) = ((q2 : Nat) : Int) := by show (q2 : Int) % 18446744073709551616 = _;omega
 have y1 : ((g : Int) == 0) = false := beq_eq_false_iff_ne.2 (by omega)
 have y2 : ((h : Int) == 0) = false := beq_eq_false_iff_ne.2 (by omega)
 have y3 : ¬ (g : Int) = 0 := by omega
 have y4 : ¬ (h : Int) = 0 := by omega
 have ds1 : ∃ s1,decide (a.num < 0) = s1 := ⟨_,rfl⟩
 have ds2 : ∃ s2,decide (b.num < 0) = s2 := ⟨_,rfl⟩
 obtain ⟨s1,ds1⟩ := ds1
 obtain ⟨s2,ds2⟩ := ds2
 rw [ds1,ds2] at HGo
 clear ha hb a1 a2 a3 a4 b1 b2 b3 b4 hGo hg hp1 hq2 hg0 lp1 lq2 hh hp2 hq1 hh0 lp2 lq1
 have HBig := Lib.hid (@frac_big (qOf a * qOf b))
 have HFs := Lib.hid fun neg n d => @frac_sign (qOf a * qOf b) n d neg
 generalize qOf a * qOf b = P at *
 obtain ⟨an,ad⟩ := a
 obtain ⟨bn,bd⟩ := b
 simp only at *
 have D0 := ((Blk.new w 23 #[.int .i64 an,.int .i64 ad]).alloc (.cells #[.int .i64 bn,.int .i64 bd] 23)).alloc (.cells #[.int .i64 0,.int .i64 0] 23)
 have D1 := (Blk.new (w.alloc (.cells #[.int .i64 an,.int .i64 ad] 23)) 23 #[.int .i64 bn,.int .i64 bd]).alloc (.cells #[.int .i64 0,.int .i64 0] 23)
 have D2 := Blk.new ((w.alloc (.cells #[.int .i64 an,.int .i64 ad] 23)).alloc (.cells #[.int .i64 bn,.int .i64 bd] 23)) 23 #[.int .i64 0,.int .i64 0]
 have hB := (((Below.refl _ w).alloc (Nat.le_refl _) (.cells #[.int .i64 an,.int .i64 ad] 23)).alloc (by simp) (.cells #[.int .i64 bn,.int .i64 bd] 23)).alloc (by simp;omega) (.cells #[.int .i64 0,.int .i64 0] 23)
 have hs : (((w.alloc (.cells #[.int .i64 an,.int .i64 ad] 23)).alloc (.cells #[.int .i64 bn,.int .i64 bd] 23)).alloc (.cells #[.int .i64 0,.int .i64 0] 23)).heap.size = w.heap.size + 1 + 1 + 1 := by simp
 rw [show ((w.alloc (.cells #[.int .i64 an,.int .i64 ad] 23)).alloc (.cells #[.int .i64 bn,.int .i64 bd] 23)).heap.size = w.heap.size + 1 + 1 by simp] at D2
 rw [World.size_alloc] at D1
 go_enter Tryz.func14,Tryz.ntmps14
 go_wp2_with fail
 generalize ((w.alloc (.cells #[.int .i64 an,.int .i64 ad] 23)).alloc (.cells #[.int .i64 bn,.int .i64 bd] 23)).alloc (.cells #[.int .i64 0,.int .i64 0] 23) = W1 at *
 refine (hva W1).mono ?_
 rintro e w2 ⟨rfl,hb2⟩
 have D0 := D0.below hb2 D0.lt
 have D1 := D1.below hb2 D1.lt
 have D2 := D2.below hb2 D2.lt
 have hB := hB.trans (hb2.mono hB.size)
 have hs : w.heap.size + 1 + 1 < w2.heap.size := by have := hb2.size;omega
 have u0 := D1.cell 0
 have u1 := D1.cell 1
 simp only [List.getElem?_toArray,List.getElem?_cons_succ,List.getElem?_cons_zero] at u0 u1
 go_wp2_with fail
 refine (hvb w2).mono ?_
 rintro e w3 ⟨rfl,hb3⟩
 clear u0 u1 hva hvb
 have D0 := Lib.hid (D0.below hb3 D0.lt)
 have D1 := Lib.hid (D1.below hb3 D1.lt)
 have D2 := Lib.hid (D2.below hb3 D2.lt)
 have HB := Lib.hid (hB.trans (hb3.mono hB.size))
 have Hs : Hid (w.heap.size + 1 + 1 < w3.heap.size) := by have := hb3.size;unfold Hid;omega
 clear hb2 hb3 hB hs
 go_wp2_with (exact Go.WalkKit.wp_stop)
 have y0 := D0.out.cell 0
 have y1' := D0.out.cell 1
 have y2' := D1.out.cell 0
 have y3' := D1.out.cell 1
 simp only [List.getElem?_toArray,List.getElem?_cons_succ,List.getElem?_cons_zero] at y0 y1' y2' y3'
 have u0 := HeldB.cell y0
 have u1 := HeldB.cell y1'
 have u2 := HeldB.cell y2'
 have u3 := HeldB.cell y3'
 have cSa := HCa.out w3
 have cSb := HCb.out w3
 have cGa := HGa.out w3
 have cGb := HGb.out w3
 clear y0 y1' y2' y3' HCa HCb HGa HGb
 refine wp_region_heldb (by kernel_rfl) (by kernel_rfl) ?_
 repeat (go_big_quiet_step (first | (go_at_call 55;first | with_reducible exact cSa _ | with_reducible exact cSb _) | (go_at_call 54;first | with_reducible exact cGa _ | with_reducible exact cGb _)))
 refine wpQuiet_nil ?_
 rintro w4 ⟨⟨w4',hb4⟩,rfl⟩
 have D0 := Lib.hid (D0.out.below hb4 D0.out.lt)
 have D1 := Lib.hid (D1.out.below hb4 D1.out.lt)
 have D2 := Lib.hid (D2.out.below hb4 D2.out.lt)
 have HB := Lib.hid (HB.out.trans (hb4.mono HB.out.size))
 have Hs : Hid (w.heap.size + 1 + 1 < w4.heap.size) := by have := hb4.size;have := Hs.out;unfold Hid;omega
 clear hb4 u0 u1 u2 u3 cSa cSb cGa cGb
 go_wp2_with (exact Go.WalkKit.wp_stop)
 have y0 := D0.out.cell 0
 have y1' := D0.out.cell 1
 have y2' := D1.out.cell 0
 have y3' := D1.out.cell 1
 simp only [List.getElem?_toArray,List.getElem?_cons_succ,List.getElem?_cons_zero] at y0 y1' y2' y3'
 have u0 := HeldB.cell y0
 have u1 := HeldB.cell y1'
 have u2 := HeldB.cell y2'
 have u3 := HeldB.cell y3'
 clear y0 y1' y2' y3'
 refine wp_region_apart 24 (fun jx => if jx = 2 then some (gV (.int .u64 (an.natAbs : Nat))) else if jx = 7 then some (gV (.int .u64 (bn.natAbs : Nat))) else if jx = 10 then some (gV (wideV (p1 * p2))) else if jx = 21 then some (gV (wideV (q1 * q2))) else if jx = 22 then some (gWd w4.heap.size) else if jx = 23 then some (gWd w4.heap.size) else none) [8,9] (by kernel_rfl) (by kernel_rfl) (by kernel_rfl) (two_none rfl rfl) ?_
 simp only [List.take_succ_cons,List.take_zero,List.drop_succ_cons,List.drop_zero]
 refine wpG_quiet 2 (by kernel_rfl) (by rfl) (by decide) ?_
 simp only [List.take_succ_cons,List.take_zero,List.drop_succ_cons,List.drop_zero]
 repeat (go_big_quiet_step (fail))
 refine wpQuiet_nil ?_
 refine wpG_call rfl rfl (fun w1 _ _ => ⟨55,#[.int .i64 an],by go_simp,HSa.out w1⟩) ?_
 rintro _ rfl
 simp only [Act.put,List.setIfInBounds_toArray,List.set_cons_zero,List.set_cons_succ]
 refine wpG_quiet 4 (by kernel_rfl) (by rfl) (by decide) ?_
 simp only [List.take_succ_cons,List.take_zero,List.drop_succ_cons,List.drop_zero]
 repeat (go_big_quiet_step (fail))
 refine wpQuiet_nil ?_
 refine wpG_call rfl rfl (fun w1 _ _ => ⟨55,#[.int .i64 bn],by go_simp,HSb.out w1⟩) ?_
 rintro _ rfl
 simp only [Act.put,List.setIfInBounds_toArray,List.set_cons_zero,List.set_cons_succ]
 refine wpG_quiet 2 (by kernel_rfl) (by rfl) (by decide) ?_
 simp only [List.take_succ_cons,List.take_zero,List.drop_succ_cons,List.drop_zero]
 repeat (go_big_quiet_step (fail))
 refine wpQuiet_nil ?_
 refine wpG_call rfl rfl (fun w1 _ _ => ⟨56,#[.int .u64 (p1 : Nat),.int .u64 (p2 : Nat)],by go_simp,HP1.out w1⟩) ?_
 rintro _ rfl
 simp only [Act.put,List.setIfInBounds_toArray,List.set_cons_zero,List.set_cons_succ]
 refine wpG_quiet 10 (by kernel_rfl) (by rfl) (by decide) ?_
 simp only [List.take_succ_cons,List.take_zero,List.drop_succ_cons,List.drop_zero]
 repeat (go_big_quiet_step (fail))
 refine wpQuiet_nil ?_
 refine wpG_call rfl rfl (fun w1 _ _ => ⟨56,#[.int .u64 (q1 : Nat),.int .u64 (q2 : Nat)],by go_simp,HP2.out w1⟩) ?_
 rintro _ rfl
 simp only [Act.put,List.setIfInBounds_toArray,List.set_cons_zero,List.set_cons_succ]
 refine wpG_new rfl rfl (fun w1 hb1 _ => gWd_new hb1.size (by go_simp)) ?_
 rintro _ ⟨g8,rfl⟩
 simp only [Act.put,List.setIfInBounds_toArray,List.set_cons_zero,List.set_cons_succ]
 refine wpG_new rfl rfl (fun w1 hb1 _ => gWd_new hb1.size (by go_simp)) ?_
 rintro _ ⟨g9,rfl⟩
 simp only [Act.put,List.setIfInBounds_toArray,List.set_cons_zero,List.set_cons_succ]
 refine wpG_nil ?_
 intro w8 hb8 hF hA
 have h6 : AtWide w4.heap.size (.pointer (some ⟨g8,0,none⟩)) w8 := hF 8
 have h7 : AtWide w4.heap.size (.pointer (some ⟨g9,0,none⟩)) w8 := hF 9
 have h67 : g9 ≠ g8 := fun e => (hA 8 (by simp) g8 rfl).2 9 (by simp) (by decide) (by rw [e];rfl)
 have D08 := D0.out.below hb8 D0.out.lt
 have D18 := D1.out.below hb8 D1.out.lt
 have D28 := D2.out.below hb8 D2.out.lt
 have B8 := HB.out.trans (hb8.mono HB.out.size)
 obtain ⟨_,e6,l6,b6⟩ := h6
 obtain ⟨_,e7,l7,b7⟩ := h7
 injection e6 with e6
 injection e6 with e6
 injection e6 with e6 _ _
 injection e7 with e7
 injection e7 with e7
 injection e7 with e7 _ _
 subst e6 e7
 have hs4 := Hs.out
 unfold wideV at *
 generalize hn : p1 * p2 = n at *
 generalize hd : q1 * q2 = d at *
 clear hn hd
 generalize hx1 : n / 18446744073709551616 = nh at *
 generalize hx2 : n % 18446744073709551616 = nl at *
 generalize hy1 : d / 18446744073709551616 = dh at *
 generalize hy2 : d % 18446744073709551616 = dl at *
 have HX : Hid (n = 18446744073709551616 * nh + nl) := by unfold Hid;omega
 have HY : Hid (d = 18446744073709551616 * dh + dl) := by unfold Hid;omega
 clear hx1 hx2 hy1 hy2
 obtain ⟨B9,p6,p7,hk⟩ := wides_kept B8 l6 l7 (by omega) h67 b6 b7 (.int .u64 (nh : Int)) (.int .u64 (nl : Int)) (.int .u64 (dh : Int)) (.int .u64 (dl : Int)) rfl
 have K0 := hk D08 (by omega)
 have K1 := hk D18 (by omega)
 have K2 := Lib.hid (hk D28 (by omega))
 have f60 := b6.frozen 0
 have f61 := b6.frozen 1
 have b7x := (b7.far (p := ⟨g8,0,none⟩) h67 (.int .u64 (nh : Int))).far (p := ⟨g8,1,none⟩) h67 (.int .u64 (nl : Int))
 have b7y := b7x.set_ 0 (.int .u64 (dh : Int))
 have f70 := b7x.frozen 0
 have f71 := b7y.frozen 1
 have b70 := b7x.cell 0
 have b71 := b7y.cell 1
 have q60 := p6.cell 0
 have q61 := p6.cell 1
 have q70 := p7.cell 0
 have q71 := p7.cell 1
 have q00 := K0.cell 0
 have q10 := K1.cell 0
 have b60 := b6.cell 0
 have b61 := b6.cell 1
 have q20 := K2.out.cell 0
 have f20 := K2.out.frozen 0
 have K3 := K2.out.set_ 0 (.int .i64 0)
 have q21 := K3.cell 1
 have f21 := K3.frozen 1
 have K4 := K3.set_ 1 (.int .i64 0)
 have z0 := K4.cell 0
 have z1 := K4.cell 1
 simp only [List.setIfInBounds_toArray,List.set_cons_zero,List.set_cons_succ] at b71 q21 z0 z1
 simp only [List.getElem?_toArray,List.getElem?_cons_succ,List.getElem?_cons_zero] at q60 q61 q70 q71 q00 q10 b60 b61 b70 b71 q20 q21 z0 z1
 have BZ := Lib.hid ((B9.setCell (p := ⟨w.heap.size + 1 + 1,0,none⟩) (by show w.heap.size ≤ w.heap.size + 1 + 1;omega) (.int .i64 0)).setCell (p := ⟨w.heap.size + 1 + 1,1,none⟩) (by show w.heap.size ≤ w.heap.size + 1 + 1;omega) (.int .i64 0))
 have B9 := Lib.hid B9
 clear b7x b7y K3 K4 K0 K1 hk HSa HSb HP1 HP2 h67 hs4 Hs l6 l7 b6 b7 p6 p7 B8 D08 D18 D28 hA hF hb8 HB D0 D1 D2 u0 u1 u2 u3 x1 x2 x3 x4 tp1 tp2 tq1 tq2 y1 y2 y3 y4 wa wb
 by_cases c1 : 0 < nh
 ·have d1 : decide ((0 : Int) < (nh : Int)) = true := decide_eq_true (by omega)
  have d2 : decide (0 < nh) = true := decide_eq_true c1
  have HV : Hid (fracV P = .tuple #[.agg #[.int .i64 0,.int .i64 0],.int .i64 5]) := HBig.out (by obtain ⟨e1,e2,-⟩ := HGo.out;have := HX.out;have := HY.out;omega)
  clear c1 HGo HFs HBig HX HY
  go_wp2_with fail
  refine bodyPost_ret (v := .tuple #[.agg #[.int .i64 0,.int .i64 0],.int .i64 5]) (by simp [results,Tryz.results14,go_sem,z0,z1]) rfl ?_
  exact ⟨by rw [HV.out],BZ.out⟩
 have d1 : decide ((0 : Int) < (nh : Int)) = false := decide_eq_false (by omega)
 have d2 : decide (0 < nh) = false := decide_eq_false c1
 have n0 : nh = 0 := by omega
 have N0 := Lib.hid n0
 clear n0 c1
 by_cases c1 : 0 < dh
 ·have d3 : decide ((0 : Int) < (dh : Int)) = true := decide_eq_true (by omega)
  have d4 : decide (0 < dh) = true := decide_eq_true c1
  have HV : Hid (fracV P = .tuple #[.agg #[.int .i64 0,.int .i64 0],.int .i64 5]) := HBig.out (by obtain ⟨e1,e2,-⟩ := HGo.out;have := HX.out;have := HY.out;omega)
  clear c1 HGo HFs HBig HX HY
  go_wp2_with fail
  refine bodyPost_ret (v := .tuple #[.agg #[.int .i64 0,.int .i64 0],.int .i64 5]) (by simp [results,Tryz.results14,go_sem,z0,z1]) rfl ?_
  exact ⟨by rw [HV.out],BZ.out⟩
 have d3 : decide ((0 : Int) < (dh : Int)) = false := decide_eq_false (by omega)
 have d4 : decide (0 < dh) = false := decide_eq_false c1
 have hm0 : dh = 0 := by omega
 have HX2 : Hid (n = nl) := by have := HX.out;have := N0.out;unfold Hid;omega
 have HY2 : Hid (d = dl) := by have := HY.out;unfold Hid;omega
 rw [HX2.out,HY2.out] at HGo
 clear c1 hm0 HX HY N0 HX2 HY2 HBig BZ z0 z1 q21 f21 q20 f20
 by_cases c1 : 0 < nl
 ·have d5 : decide ((0 : Int) < (nl : Int)) = true := decide_eq_true (by omega)
  have d6 : decide (0 < nl) = true := decide_eq_true c1
  rw [d6,Bool.true_and] at HGo
  have HV := Lib.hid (HFs.out (!(s1 == s2)) nl dl HGo.out.1 HGo.out.2.1 HGo.out.2.2)
  obtain ⟨fx,fy,fz,hf⟩ := signV_form (!(s1 == s2)) nl dl
  have hsg := fun W => raSigned (!(s1 == s2)) nl dl W
  rw [hf] at HV hsg
  clear hf HGo HFs c1
  go_wp2_with fail
  refine (hsg _).mono ?_
  rintro e w9 ⟨rfl,hb9⟩
  have L2 := K2.out.below hb9 K2.out.lt
  have HB9 := B9.out.trans (hb9.mono B9.out.size)
  have r0 := L2.cell 0
  have g0 := L2.frozen 0
  have L3 := L2.set_ 0 (.int .i64 fx)
  have r1 := L3.cell 1
  have g1 := L3.frozen 1
  have L4 := L3.set_ 1 (.int .i64 fy)
  have z0 := L4.cell 0
  have z1 := L4.cell 1
  simp only [List.setIfInBounds_toArray,List.set_cons_zero,List.set_cons_succ] at r1 z0 z1
  simp only [List.getElem?_toArray,List.getElem?_cons_succ,List.getElem?_cons_zero] at r0 r1 z0 z1
  have BZ := Lib.hid ((HB9.setCell (p := ⟨w.heap.size + 1 + 1,0,none⟩) (by show w.heap.size ≤ w.heap.size + 1 + 1;omega) (.int .i64 fx)).setCell (p := ⟨w.heap.size + 1 + 1,1,none⟩) (by show w.heap.size ≤ w.heap.size + 1 + 1;omega) (.int .i64 fy))
  clear L2 L3 L4 HB9 hb9 K2 B9 hsg
  go_wp2_with fail
  refine bodyPost_ret (v := .tuple #[.agg #[.int .i64 fx,.int .i64 fy],.int .i64 fz]) (by simp [results,Tryz.results14,go_sem,z0,z1]) rfl ?_
  exact ⟨by rw [HV.out],BZ.out⟩
 ·have d5 : decide ((0 : Int) < (nl : Int)) = false := decide_eq_false (by omega)
  have d6 : decide (0 < nl) = false := decide_eq_false c1
  rw [d6,Bool.false_and] at HGo
  have HV := Lib.hid (HFs.out false nl dl HGo.out.1 HGo.out.2.1 HGo.out.2.2)
  obtain ⟨fx,fy,fz,hf⟩ := signV_form false nl dl
  have hsg := fun W => raSigned false nl dl W
  rw [hf] at HV hsg
  clear hf HGo HFs c1
  go_wp2_with fail
  refine (hsg _).mono ?_
  rintro e w9 ⟨rfl,hb9⟩
  have L2 := K2.out.below hb9 K2.out.lt
  have HB9 := B9.out.trans (hb9.mono B9.out.size)
  have r0 := L2.cell 0
  have g0 := L2.frozen 0
  have L3 := L2.set_ 0 (.int .i64 fx)
  have r1 := L3.cell 1
  have g1 := L3.frozen 1
  have L4 := L3.set_ 1 (.int .i64 fy)
  have z0 := L4.cell 0
  have z1 := L4.cell 1
  simp only [List.setIfInBounds_toArray,List.set_cons_zero,List.set_cons_succ] at r1 z0 z1
  simp only [List.getElem?_toArray,List.getElem?_cons_succ,List.getElem?_cons_zero] at r0 r1 z0 z1
  have BZ := Lib.hid ((HB9.setCell (p := ⟨w.heap.size + 1 + 1,0,none⟩) (by show w.heap.size ≤ w.heap.size + 1 + 1;omega) (.int .i64 fx)).setCell (p := ⟨w.heap.size + 1 + 1,1,none⟩) (by show w.heap.size ≤ w.heap.size + 1 + 1;omega) (.int .i64 fy))
  clear L2 L3 L4 HB9 hb9 K2 B9 hsg
  go_wp2_with fail
  refine bodyPost_ret (v := .tuple #[.agg #[.int .i64 fx,.int .i64 fy],.int .i64 fz]) (by simp [results,Tryz.results14,go_sem,z0,z1]) rfl ?_
  exact ⟨by rw [HV.out],BZ.out⟩
end Go.Proofs.YtknkhnahflmjiaaGreatDoor

namespace Go.Proofs.YtknkhnahflmjiaaGreatDoor
open Go.RowKit Go.Shelf
theorem fracV_form (q : Rat) : ∃ x y z : Int,fracV q = .tuple #[.agg #[.int .i64 x,.int .i64 y],.int .i64 z] := by
 unfold fracV
 split
 ·exact ⟨_,_,_,rfl⟩
 ·exact ⟨_,_,_,rfl⟩
set_option maxRecDepth 100000 in
set_option maxHeartbeats 4000000 in
theorem raDiv (a b : FrT) (w : World) (ha : frGood a = true) (hb : frGood b = true) (h0 : b.num ≠ 0) :
  Calls Tryz.prog 50 #[a.val,b.val] w fun e w' => e = .returned (fracV (qOf a / qOf b)) ∧ Below w.heap.size w w' := by
 have hva := fun W => raValid a W
 have hvb := fun W => raValid b W
 rw [ha] at hva
 rw [hb] at hvb
 obtain ⟨i1,i2⟩ := inv_fr hb h0
 have hM := fun W => raMul a (invF b) W ha i1
 rw [i2,← Rat.div_def] at hM
 obtain ⟨b1,b2,b3,b4⟩ := good_bd hb
 obtain ⟨fx,fy,fz,hf⟩ := fracV_form (qOf a / qOf b)
 rw [hf] at hM ⊢
 clear ha hb i1 i2 hf
 have e0 : (b.num == 0) = false := beq_eq_false_iff_ne.2 h0
 have n1 : IntKind.i64.wrap (-b.den) = -b.den := IntWalk.i64_in _ (by omega)
 have n2 : IntKind.i64.wrap (-b.num) = -b.num := IntWalk.i64_in _ (by omega)
 clear b1 b2 b3 b4 h0
 have HI : Hid (invF b = if b.num < 0 then ⟨-b.den,-b.num⟩ else ⟨b.den,b.num⟩) := rfl
 generalize invF b = ib at *
 obtain ⟨an,ad⟩ := a
 obtain ⟨bn,bd⟩ := b
 simp only at *
 have D0 := ((Blk.new w 23 #[.int .i64 an,.int .i64 ad]).alloc (.cells #[.int .i64 bn,.int .i64 bd] 23)).alloc (.cells #[.int .i64 0,.int .i64 0] 23)
 have D1 := (Blk.new (w.alloc (.cells #[.int .i64 an,.int .i64 ad] 23)) 23 #[.int .i64 bn,.int .i64 bd]).alloc (.cells #[.int .i64 0,.int .i64 0] 23)
 have D2 := Blk.new ((w.alloc (.cells #[.int .i64 an,.int .i64 ad] 23)).alloc (.cells #[.int .i64 bn,.int .i64 bd] 23)) 23 #[.int .i64 0,.int .i64 0]
 have hB := (((Below.refl _ w).alloc (Nat.le_refl _) (.cells #[.int .i64 an,.int .i64 ad] 23)).alloc (by simp) (.cells #[.int .i64 bn,.int .i64 bd] 23)).alloc (by simp;omega) (.cells #[.int .i64 0,.int .i64 0] 23)
 rw [show ((w.alloc (.cells #[.int .i64 an,.int .i64 ad] 23)).alloc (.cells #[.int .i64 bn,.int .i64 bd] 23)).heap.size = w.heap.size + 1 + 1 by simp] at D2
 rw [World.size_alloc] at D1
 go_enter Tryz.func50,Tryz.ntmps50
 go_wp2_with fail
 generalize ((w.alloc (.cells #[.int .i64 an,.int .i64 ad] 23)).alloc (.cells #[.int .i64 bn,.int .i64 bd] 23)).alloc (.cells #[.int .i64 0,.int .i64 0] 23) = W1 at *
 refine (hva W1).mono ?_
 rintro e w2 ⟨rfl,hb2⟩
 have D0 := D0.below hb2 D0.lt
 have D1 := D1.below hb2 D1.lt
 have D2 := D2.below hb2 D2.lt
 have hB := hB.trans (hb2.mono hB.size)
 have u0 := D1.cell 0
 have u1 := D1.cell 1
 simp only [List.getElem?_toArray,List.getElem?_cons_succ,List.getElem?_cons_zero] at u0 u1
 go_wp2_with fail
 refine (hvb w2).mono ?_
 rintro e w3 ⟨rfl,hb3⟩
 clear u0 u1 hva hvb
 have D0 := Lib.hid (D0.below hb3 D0.lt)
 have D1 := Lib.hid (D1.below hb3 D1.lt)
 have D2 := Lib.hid (D2.below hb3 D2.lt)
 have HB := Lib.hid (hB.trans (hb3.mono hB.size))
 clear hb2 hb3 hB
 have y0 := D0.out.cell 0
 have y1 := D0.out.cell 1
 have y2 := D1.out.cell 0
 have y3 := D1.out.cell 1
 simp only [List.getElem?_toArray,List.getElem?_cons_succ,List.getElem?_cons_zero] at y0 y1 y2 y3
 by_cases hn : bn < 0
 ·have e1 : decide (bn < 0) = true := decide_eq_true hn
  rw [show ib = ⟨-bd,-bn⟩ from HI.out.trans (if_pos hn)] at hM
  clear hn HI
  go_wp2_with fail
  refine (hM _).mono ?_
  rintro e w4 ⟨rfl,hb4⟩
  have D24 := D2.out.below hb4 D2.out.lt
  have HB4 := HB.out.trans (hb4.mono HB.out.size)
  have q0 := D24.cell 0
  have q1 := D24.cell 1
  have f0 := D24.frozen 0
  have E1 := (D24.set_ 0 (.int .i64 fx))
  have f1 := E1.frozen 1
  have E2 := E1.set_ 1 (.int .i64 fy)
  have p0 := E2.cell 0
  have p1 := E2.cell 1
  have r1 := E1.cell 1
  simp only [List.setIfInBounds_toArray,List.set_cons_zero,List.set_cons_succ] at p0 p1 r1
  simp only [List.getElem?_toArray,List.getElem?_cons_succ,List.getElem?_cons_zero] at q0 q1 p0 p1 r1
  have HBz := Lib.hid ((HB4.setCell (p := ⟨w.heap.size + 1 + 1,0,none⟩) (by show w.heap.size ≤ w.heap.size + 1 + 1;omega) (.int .i64 fx)).setCell (p := ⟨w.heap.size + 1 + 1,1,none⟩) (by show w.heap.size ≤ w.heap.size + 1 + 1;omega) (.int .i64 fy))
  clear D24 HB4 E1 E2 hM
  go_wp2_with fail
  refine bodyPost_ret (v := .tuple #[.agg #[.int .i64 fx,.int .i64 fy],.int .i64 fz]) (by simp [results,Tryz.results50,go_sem,p0,p1]) rfl ?_
  exact ⟨rfl,HBz.out⟩
 ·have e1 : decide (bn < 0) = false := decide_eq_false hn
  rw [show ib = ⟨bd,bn⟩ from HI.out.trans (if_neg hn)] at hM
  clear hn HI
  go_wp2_with fail
  refine (hM _).mono ?_
  rintro e w4 ⟨rfl,hb4⟩
  have D24 := D2.out.below hb4 D2.out.lt
  have HB4 := HB.out.trans (hb4.mono HB.out.size)
  have q0 := D24.cell 0
  have q1 := D24.cell 1
  have f0 := D24.frozen 0
  have E1 := (D24.set_ 0 (.int .i64 fx))
  have f1 := E1.frozen 1
  have E2 := E1.set_ 1 (.int .i64 fy)
  have p0 := E2.cell 0
  have p1 := E2.cell 1
  have r1 := E1.cell 1
  simp only [List.setIfInBounds_toArray,List.set_cons_zero,List.set_cons_succ] at p0 p1 r1
  simp only [List.getElem?_toArray,List.getElem?_cons_succ,List.getElem?_cons_zero] at q0 q1 p0 p1 r1
  have HBz := Lib.hid ((HB4.setCell (p := ⟨w.heap.size + 1 + 1,0,none⟩) (by show w.heap.size ≤ w.heap.size + 1 + 1;omega) (.int .i64 fx)).setCell (p := ⟨w.heap.size + 1 + 1,1,none⟩) (by show w.heap.size ≤ w.heap.size + 1 + 1;omega) (.int .i64 fy))
  clear D24 HB4 E1 E2 hM
  go_wp2_with fail
  refine bodyPost_ret (v := .tuple #[.agg #[.int .i64 fx,.int .i64 fy],.int .i64 fz]) (by simp [results,Tryz.results50,go_sem,p0,p1]) rfl ?_
  exact ⟨rfl,HBz.out⟩
end Go.Proofs.YtknkhnahflmjiaaGreatDoor

namespace Go.Proofs.YtknkhnahflmjiaaGreatDoor
open Go.RowKit Go.Shelf
set_option maxRecDepth 100000 in
set_option maxHeartbeats 2000000 in
theorem raPlus (m n : Nat) (w : World) (h : m + n < 340282366920938463463374607431768211456) : Calls Tryz.prog 58 #[wideV m,wideV n] w fun e w' => e = .returned (wideV (m + n)) ∧ Below w.heap.size w w' := by
 have HL : Hid (((m + n) % 18446744073709551616 : Nat) = (m % 18446744073709551616 + n % 18446744073709551616 + 0) % 18446744073709551616) := by unfold Hid;omega
 have HH : Hid (((m + n) / 18446744073709551616 : Nat) = (m / 18446744073709551616 + n / 18446744073709551616 + (m % 18446744073709551616 + n % 18446744073709551616 + 0) / 18446744073709551616) % 18446744073709551616) := by unfold Hid;omega
 have hc : (m % 18446744073709551616 + n % 18446744073709551616 + 0) / 18446744073709551616 ≤ 1 := by omega
 unfold wideV
 rw [HL.out,HH.out]
 clear HL HH h
 generalize m / 18446744073709551616 = mh at *
 generalize m % 18446744073709551616 = ml at *
 generalize n / 18446744073709551616 = nh at *
 generalize n % 18446744073709551616 = nl at *
 have hA : ∀ W,(callFunc 100 #[.int .u64 (ml : Int),.int .u64 (nl : Int),.int .u64 0]).run Tryz.prog W = _ := fun W => bitsAdd64 ml nl 0 (by decide) W
 have hA2 := fun W => bitsAdd64 mh nh _ hc W
 generalize (ml + nl + 0) / 18446744073709551616 = c at *
 generalize (ml + nl + 0) % 18446744073709551616 = lo at *
 generalize (mh + nh + c) % 18446744073709551616 = hi at *
 generalize (mh + nh + c) / 18446744073709551616 = c2 at *
 have D0 := ((Blk.new w 89 #[.int .u64 (mh : Int),.int .u64 (ml : Int)]).alloc (.cells #[.int .u64 (nh : Int),.int .u64 (nl : Int)] 89)).alloc (.cells #[.int .u64 0,.int .u64 0] 89)
 have D1 := (Blk.new (w.alloc (.cells #[.int .u64 (mh : Int),.int .u64 (ml : Int)] 89)) 89 #[.int .u64 (nh : Int),.int .u64 (nl : Int)]).alloc (.cells #[.int .u64 0,.int .u64 0] 89)
 have D2 := Blk.new ((w.alloc (.cells #[.int .u64 (mh : Int),.int .u64 (ml : Int)] 89)).alloc (.cells #[.int .u64 (nh : Int),.int .u64 (nl : Int)] 89)) 89 #[.int .u64 0,.int .u64 0]
 have hB := (((Below.refl _ w).alloc (Nat.le_refl _) (.cells #[.int .u64 (mh : Int),.int .u64 (ml : Int)] 89)).alloc (by simp) (.cells #[.int .u64 (nh : Int),.int .u64 (nl : Int)] 89)).alloc (by simp;omega) (.cells #[.int .u64 0,.int .u64 0] 89)
 rw [show ((w.alloc (.cells #[.int .u64 (mh : Int),.int .u64 (ml : Int)] 89)).alloc (.cells #[.int .u64 (nh : Int),.int .u64 (nl : Int)] 89)).heap.size = w.heap.size + 1 + 1 by simp] at D2
 rw [World.size_alloc] at D1
 go_enter Tryz.func58,Tryz.ntmps58
 go_upto_region 1 with fail
 generalize ((w.alloc (.cells #[.int .u64 (mh : Int),.int .u64 (ml : Int)] 89)).alloc (.cells #[.int .u64 (nh : Int),.int .u64 (nl : Int)] 89)).alloc (.cells #[.int .u64 0,.int .u64 0] 89) = W1 at *
 have x0 := D0.cell 0
 have x1 := D0.cell 1
 have y0 := D1.cell 0
 have y1 := D1.cell 1
 have r0 := D2.cell 0
 have r1 := D2.cell 1
 have f0 := D2.frozen 0
 have D3 := D2.set_ 0 (.int .u64 (hi : Int))
 have f1 := D3.frozen 1
 have D4 := Lib.hid (D3.set_ 1 (.int .u64 (lo : Int)))
 have s1 := D3.cell 1
 have z0 := D4.out.cell 0
 have z1 := D4.out.cell 1
 simp only [List.setIfInBounds_toArray,List.set_cons_zero,List.set_cons_succ,List.getElem?_toArray,List.getElem?_cons_succ,List.getElem?_cons_zero] at x0 x1 y0 y1 r0 r1 s1 z0 z1
 have HB := Lib.hid ((hB.setCell (p := ⟨w.heap.size + 1 + 1,0,none⟩) (by show w.heap.size ≤ w.heap.size + 1 + 1;omega) (.int .u64 (hi : Int))).setCell (p := ⟨w.heap.size + 1 + 1,1,none⟩) (by show w.heap.size ≤ w.heap.size + 1 + 1;omega) (.int .u64 (lo : Int)))
 clear D0 D1 D2 D3 hB
 go_wp2_with (first | simp only [hA] | simp only [hA2])
 refine bodyPost_ret (v := .agg #[.int .u64 (hi : Int),.int .u64 (lo : Int)]) (by simp [results,Tryz.results58,go_sem,z0,z1]) rfl ?_
 exact ⟨rfl,HB.out⟩
set_option maxRecDepth 100000 in
set_option maxHeartbeats 2000000 in
theorem raMinus (m n : Nat) (w : World) (hm : m < 340282366920938463463374607431768211456) (h : n ≤ m) : Calls Tryz.prog 60 #[wideV m,wideV n] w fun e w' => e = .returned (wideV (m - n)) ∧ Below w.heap.size w w' := by
 obtain ⟨b,hb⟩ : ∃ b,b = if m % 18446744073709551616 < n % 18446744073709551616 + 0 then 1 else 0 := ⟨_,rfl⟩
 have HL : Hid (((m - n) % 18446744073709551616 : Nat) = (m % 18446744073709551616 + 18446744073709551616 - n % 18446744073709551616 - 0) % 18446744073709551616) := by unfold Hid;omega
 have HH : Hid (((m - n) / 18446744073709551616 : Nat) = (m / 18446744073709551616 + 18446744073709551616 - n / 18446744073709551616 - b) % 18446744073709551616) := by
  unfold Hid
  subst hb
  split <;> omega
 have hc : b ≤ 1 := by subst hb;split <;> omega
 unfold wideV
 rw [HL.out,HH.out]
 clear HL HH h hm
 generalize m / 18446744073709551616 = mh at *
 generalize m % 18446744073709551616 = ml at *
 generalize n / 18446744073709551616 = nh at *
 generalize n % 18446744073709551616 = nl at *
 have hA : ∀ W,(callFunc 101 #[.int .u64 (ml : Int),.int .u64 (nl : Int),.int .u64 0]).run Tryz.prog W = _ := fun W => bitsSub64 ml nl 0 (by decide) W
 have hA2 := fun W => bitsSub64 mh nh b hc W
 rw [← hb] at hA
 generalize (ml + 18446744073709551616 - nl - 0) % 18446744073709551616 = lo at *
 generalize (mh + 18446744073709551616 - nh - b) % 18446744073709551616 = hi at *
 generalize (if mh < nh + b then 1 else 0 : Nat) = c2 at *
 clear hb hc
 have D0 := ((Blk.new w 89 #[.int .u64 (mh : Int),.int .u64 (ml : Int)]).alloc (.cells #[.int .u64 (nh : Int),.int .u64 (nl : Int)] 89)).alloc (.cells #[.int .u64 0,.int .u64 0] 89)
 have D1 := (Blk.new (w.alloc (.cells #[.int .u64 (mh : Int),.int .u64 (ml : Int)] 89)) 89 #[.int .u64 (nh : Int),.int .u64 (nl : Int)]).alloc (.cells #[.int .u64 0,.int .u64 0] 89)
 have D2 := Blk.new ((w.alloc (.cells #[.int .u64 (mh : Int),.int .u64 (ml : Int)] 89)).alloc (.cells #[.int .u64 (nh : Int),.int .u64 (nl : Int)] 89)) 89 #[.int .u64 0,.int .u64 0]
 have hB := (((Below.refl _ w).alloc (Nat.le_refl _) (.cells #[.int .u64 (mh : Int),.int .u64 (ml : Int)] 89)).alloc (by simp) (.cells #[.int .u64 (nh : Int),.int .u64 (nl : Int)] 89)).alloc (by simp;omega) (.cells #[.int .u64 0,.int .u64 0] 89)
 rw [show ((w.alloc (.cells #[.int .u64 (mh : Int),.int .u64 (ml : Int)] 89)).alloc (.cells #[.int .u64 (nh : Int),.int .u64 (nl : Int)] 89)).heap.size = w.heap.size + 1 + 1 by simp] at D2
 rw [World.size_alloc] at D1
 go_enter Tryz.func60,Tryz.ntmps60
 go_upto_region 1 with fail
 generalize ((w.alloc (.cells #[.int .u64 (mh : Int),.int .u64 (ml : Int)] 89)).alloc (.cells #[.int .u64 (nh : Int),.int .u64 (nl : Int)] 89)).alloc (.cells #[.int .u64 0,.int .u64 0] 89) = W1 at *
 have x0 := D0.cell 0
 have x1 := D0.cell 1
 have y0 := D1.cell 0
 have y1 := D1.cell 1
 have r0 := D2.cell 0
 have r1 := D2.cell 1
 have f0 := D2.frozen 0
 have D3 := D2.set_ 0 (.int .u64 (hi : Int))
 have f1 := D3.frozen 1
 have D4 := Lib.hid (D3.set_ 1 (.int .u64 (lo : Int)))
 have s1 := D3.cell 1
 have z0 := D4.out.cell 0
 have z1 := D4.out.cell 1
 simp only [List.setIfInBounds_toArray,List.set_cons_zero,List.set_cons_succ,List.getElem?_toArray,List.getElem?_cons_succ,List.getElem?_cons_zero] at x0 x1 y0 y1 r0 r1 s1 z0 z1
 have HB := Lib.hid ((hB.setCell (p := ⟨w.heap.size + 1 + 1,0,none⟩) (by show w.heap.size ≤ w.heap.size + 1 + 1;omega) (.int .u64 (hi : Int))).setCell (p := ⟨w.heap.size + 1 + 1,1,none⟩) (by show w.heap.size ≤ w.heap.size + 1 + 1;omega) (.int .u64 (lo : Int)))
 clear D0 D1 D2 D3 hB
 go_wp2_with (first | simp only [hA] | simp only [hA2])
 refine bodyPost_ret (v := .agg #[.int .u64 (hi : Int),.int .u64 (lo : Int)]) (by simp [results,Tryz.results60,go_sem,z0,z1]) rfl ?_
 exact ⟨rfl,HB.out⟩
set_option maxRecDepth 100000 in
set_option maxHeartbeats 2000000 in
theorem raOver (m b : Nat) (w : World) (hm : m < 340282366920938463463374607431768211456) (hb0 : 0 < b) (hb : b < 18446744073709551616) : Calls Tryz.prog 61 #[wideV m,.int .u64 (b : Int)] w fun e w' => e = .returned (.tuple #[wideV (m / b),.int .u64 ((m % b : Nat) : Int)]) ∧ Below w.heap.size w w' := by
 obtain ⟨t1,t2⟩ := @two_digits 18446744073709551616 (m / 18446744073709551616) (m % 18446744073709551616) b
 rw [show m / 18446744073709551616 * 18446744073709551616 + m % 18446744073709551616 = m from Nat.div_add_mod' m _] at t1 t2
 have hhb : m / 18446744073709551616 % b < b := Nat.mod_lt _ hb0
 have hql : (m / 18446744073709551616 % b * 18446744073709551616 + m % 18446744073709551616) / b < 18446744073709551616 := by
  rw [Nat.div_lt_iff_lt_mul hb0]
  have h1 := Nat.mul_le_mul_right 18446744073709551616 (Nat.succ_le_of_lt hhb)
  rw [Nat.succ_mul] at h1
  have h2 := Nat.mul_comm b 18446744073709551616
  omega
 have hs : ∀ {x y z : Nat},x = y * 18446744073709551616 + z → z < 18446744073709551616 → x / 18446744073709551616 = y ∧ x % 18446744073709551616 = z := by intros;omega
 obtain ⟨hH,hL⟩ := hs t1 hql
 have HH := Lib.hid hH
 have HL := Lib.hid hL
 clear hs hH hL
 have hD := fun W => bitsDiv64 (m / 18446744073709551616 % b) (m % 18446744073709551616) b W hhb (by omega) hb
 unfold wideV
 rw [HL.out,HH.out,t2]
 have v1 : IntKind.u64.wrap (((m / 18446744073709551616 : Nat) : Int) / (b : Int)) = ((m / 18446744073709551616 / b : Nat) : Int) := by
  rw [← Int.natCast_ediv]
  exact Mul64.wrapN _ (Nat.lt_of_le_of_lt (Nat.div_le_self _ _) (by omega))
 have v2 : ((m / 18446744073709551616 : Nat) : Int) % (b : Int) = ((m / 18446744073709551616 % b : Nat) : Int) := (Int.natCast_emod _ _).symm
 have b0 : ¬ b = 0 := by omega
 have b1 : ((b : Int) == 0) = false := beq_eq_false_iff_ne.2 (by omega)
 clear t1 t2 hhb hql HH HL hm hb0 hb
 generalize m / 18446744073709551616 = mh at *
 generalize m % 18446744073709551616 = ml at *
 generalize mh / b = qh at *
 generalize mh % b = rh at *
 generalize (rh * 18446744073709551616 + ml) / b = ql at *
 generalize (rh * 18446744073709551616 + ml) % b = rl at *
 have hD2 := fun W => (hD W).mono fun _ _ h => (⟨h.1,match h.2 with | ⟨n,hn⟩ => hn ▸ below_drewN (Below.refl _ _) n⟩ : _ ∧ Below W.heap.size W _)
 have D0 := (Blk.new w 89 #[.int .u64 (mh : Int),.int .u64 (ml : Int)]).alloc (.cells #[.int .u64 0,.int .u64 0] 89)
 have D1 := Blk.new (w.alloc (.cells #[.int .u64 (mh : Int),.int .u64 (ml : Int)] 89)) 89 #[.int .u64 0,.int .u64 0]
 have hB := ((Below.refl _ w).alloc (Nat.le_refl _) (.cells #[.int .u64 (mh : Int),.int .u64 (ml : Int)] 89)).alloc (by simp) (.cells #[.int .u64 0,.int .u64 0] 89)
 rw [World.size_alloc] at D1
 go_enter Tryz.func61,Tryz.ntmps61
 go_upto_region 1 with fail
 generalize (w.alloc (.cells #[.int .u64 (mh : Int),.int .u64 (ml : Int)] 89)).alloc (.cells #[.int .u64 0,.int .u64 0] 89) = W1 at *
 have x0 := D0.cell 0
 have x1 := D0.cell 1
 simp only [List.getElem?_toArray,List.getElem?_cons_succ,List.getElem?_cons_zero] at x0 x1
 have u0 := HeldB.cell x0
 have u1 := HeldB.cell x1
 have cD := HeldB.call (W := W1) fun w' _ => hD2 w'
 clear x0 x1
 refine wp_region_heldb (by kernel_rfl) (by kernel_rfl) ?_
 repeat (go_big_quiet_step (first | (go_at_call 102;with_reducible exact cD _)))
 refine wpQuiet_nil ?_
 rintro w4 ⟨⟨w4',hb4⟩,rfl⟩
 have D0 := D0.below hb4 D0.lt
 have D2 := D1.below hb4 D1.lt
 have hB := hB.trans (hb4.mono hB.size)
 have x0 := D0.cell 0
 have x1 := D0.cell 1
 have r0 := D2.cell 0
 have f0 := D2.frozen 0
 have D3 := D2.set_ 0 (.int .u64 (qh : Int))
 have f1 := D3.frozen 1
 have D4 := Lib.hid (D3.set_ 1 (.int .u64 (ql : Int)))
 have s1 := D3.cell 1
 have z0 := D4.out.cell 0
 have z1 := D4.out.cell 1
 simp only [List.setIfInBounds_toArray,List.set_cons_zero,List.set_cons_succ,List.getElem?_toArray,List.getElem?_cons_succ,List.getElem?_cons_zero] at x0 x1 r0 s1 z0 z1
 have HB := Lib.hid ((hB.setCell (p := ⟨w.heap.size + 1,0,none⟩) (by show w.heap.size ≤ w.heap.size + 1;omega) (.int .u64 (qh : Int))).setCell (p := ⟨w.heap.size + 1,1,none⟩) (by show w.heap.size ≤ w.heap.size + 1;omega) (.int .u64 (ql : Int)))
 clear D0 D1 D2 D3 hB hb4 u0 u1 cD hD hD2
 go_wp2_with fail
 refine bodyPost_ret (v := .tuple #[.agg #[.int .u64 (qh : Int),.int .u64 (ql : Int)],.int .u64 (rl : Int)]) (by simp [results,Tryz.results61,go_sem,z0,z1]) rfl ?_
 exact ⟨rfl,HB.out⟩
end Go.Proofs.YtknkhnahflmjiaaGreatDoor
