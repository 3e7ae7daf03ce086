/- For every input the law returns true, and its arguments read as they did: LawEasier, Open, Row, RowL, OpenSet, RowEasier. -/
import Derived.Below
import Derived.Carry
import Derived.ChangeSame
import Derived.Deep.Fields
import Derived.Deep.Slices
import Derived.LaidMore
import Derived.OpenShut
import Derived.ProofKit
import Derived.SliceStrings
import Derived.Stop.Joined
import Derived.Test.YtpnongeibpkbhaaGreatDoorCards
import Derived.Test.YtpnongeibpkbhaaGreatDoorD1
import Derived.Test.YtpnongeibpkbhaaGreatDoorD10
import Derived.Test.YtpnongeibpkbhaaGreatDoorD2
import Derived.Test.YtpnongeibpkbhaaGreatDoorD6
import Derived.Test.YtpnongeibpkbhaaGreatDoorG1
import Derived.Test.YtpnongeibpkbhaaGreatDoorRows
import Derived.Test.YtpnongeibpkbhaaGreatDoorTie

/- The law LinesetEasier: the walk. -/
namespace Go.Proofs.YtpnongeibpkbhaaGreatDoor
open Go.RowKit Go.Shelf

theorem setAt_ease {w : World} {B : Nat} {s : SetT} {Al Ai Ab : Option Addr} {cl ci cb : Nat} (hL : IntsAt w B (.slice Al s.lines.length cl) s.lines) (hI : ItemsAt w B (.slice Ai s.items.length ci) s.items) (hB : BricksAt w B (.slice Ab s.bricks.length cb) s.bricks) (k m : Int) :
    SetAt w B (setVal (easeS s k m) Al cl Ai ci Ab cb) (easeS s k m) := ⟨Al, cl, Ai, ci, Ab, cb, rfl, hL, hI, hB⟩
theorem names_ease {s : SetT} (h : SetNames s) (k m : Int) : SetNames (easeS s k m) := ⟨h.name, h.items, h.bricks⟩
set_option maxRecDepth 100000 in
set_option maxHeartbeats 4000000 in
theorem lawEasier (v : Value) (s : SetT) (m : Int) (w : World) (hv : SetAt w w.heap.size v s) (hn : SetNames s) (hm : 0 ≤ m ∧ m ≤ 65535) :
    Calls Tryz.prog 4 #[v, .int .u16 m] w fun e w' => e = .returned (.bool true) ∧ Below w.heap.size w w' := by
  have HSA : Hid (∀ W, Below w.heap.size w W → SetAt W W.heap.size v s) := fun W hb => (hv.below hb (Nat.le_refl _)).mono hb.size
  have HN := Lib.hid hn
  have HM := Lib.hid hm
  obtain ⟨Al, cl, Ai, ci, Ab, cb, rfl, hL, hI, hB⟩ := hv
  have HSE : Hid (∀ k n W, Below w.heap.size w W → SetAt W W.heap.size (setVal (easeS s k n) Al cl Ai ci Ab cb) (easeS s k n)) := fun k n W hb => ((setAt_ease hL hI hB k n).below hb (Nat.le_refl _)).mono hb.size
  clear hL hI hB hm
  have B1 := (Blk.new w 26 #[.string s.name, .int .i64 s.depth, .int .i64 s.low, .int .i64 s.high, .int .i64 s.len, .slice Al s.lines.length cl, .int .i64 s.pipe, .int .i64 s.arbor, .int .i64 s.purch, .int .i64 s.most, .int .i64 s.brake, .slice Ai s.items.length ci, .slice Ab s.bricks.length cb]).alloc (.cells #[.int .u16 m] 47)
  have B2 := Blk.new (w.alloc (.cells #[.string s.name, .int .i64 s.depth, .int .i64 s.low, .int .i64 s.high, .int .i64 s.len, .slice Al s.lines.length cl, .int .i64 s.pipe, .int .i64 s.arbor, .int .i64 s.purch, .int .i64 s.most, .int .i64 s.brake, .slice Ai s.items.length ci, .slice Ab s.bricks.length cb] 26)) 47 #[.int .u16 m]
  rw [World.size_alloc] at B2
  have HbW := ((Below.refl _ w).alloc (Nat.le_refl _) (.cells #[.string s.name, .int .i64 s.depth, .int .i64 s.low, .int .i64 s.high, .int .i64 s.len, .slice Al s.lines.length cl, .int .i64 s.pipe, .int .i64 s.arbor, .int .i64 s.purch, .int .i64 s.most, .int .i64 s.brake, .slice Ai s.items.length ci, .slice Ab s.bricks.length cb] 26)).alloc (by simp) (.cells #[.int .u16 m] 47)
  clear hn
  unfold setVal at *
  go_enter Tryz.func4, Tryz.ntmps4
  go_wp2_with fail
  generalize (w.alloc (.cells #[.string s.name, .int .i64 s.depth, .int .i64 s.low, .int .i64 s.high, .int .i64 s.len, .slice Al s.lines.length cl, .int .i64 s.pipe, .int .i64 s.arbor, .int .i64 s.purch, .int .i64 s.most, .int .i64 s.brake, .slice Ai s.items.length ci, .slice Ab s.bricks.length cb] 26)).alloc (.cells #[.int .u16 m] 47) = W1 at *
  have HA : Hid (∀ W, Below W1.heap.size W1 W → Blk W w.heap.size 26 #[.string s.name, .int .i64 s.depth, .int .i64 s.low, .int .i64 s.high, .int .i64 s.len, .slice Al s.lines.length cl, .int .i64 s.pipe, .int .i64 s.arbor, .int .i64 s.purch, .int .i64 s.most, .int .i64 s.brake, .slice Ai s.items.length ci, .slice Ab s.bricks.length cb] ∧ Blk W (w.heap.size + 1) 47 #[.int .u16 m] ∧ Below w.heap.size w W) := fun W hb => ⟨B1.below hb B1.lt, B2.below hb B2.lt, HbW.trans (hb.mono HbW.size)⟩
  clear B1 B2 HbW
  refine (lawAwake29 _).mono ?_
  rintro e w2 ⟨rfl, hb2⟩
  have HS := Lib.hid (HA.out w2 hb2)
  have HW := Lib.hid hb2
  have HD := Lib.hid HS.out.1
  have z0 := HD.out.cell 0
  have z1 := HD.out.cell 1
  have z2 := HD.out.cell 2
  have z3 := HD.out.cell 3
  have z4 := HD.out.cell 4
  have z5 := HD.out.cell 5
  have z6 := HD.out.cell 6
  have z7 := HD.out.cell 7
  have z8 := HD.out.cell 8
  have z9 := HD.out.cell 9
  have z10 := HD.out.cell 10
  have z11 := HD.out.cell 11
  have z12 := HD.out.cell 12
  simp only [List.getElem?_toArray, List.getElem?_cons_succ, List.getElem?_cons_zero] at z0 z1 z2 z3 z4 z5 z6 z7 z8 z9 z10 z11 z12
  clear hb2
  go_wp2_with fail
  refine (lawLarge29 _ s _ (HSA.out _ HS.out.2.2) HN.out).mono ?_
  rintro e w3 ⟨q, rfl, hb3⟩
  have HWx := Lib.hid (HW.out.trans (hb3.mono HW.out.size))
  have HSx := Lib.hid (HA.out w3 HWx.out)
  clear z0 z1 z2 z3 z4 z5 z6 z7 z8 z9 z10 z11 z12 hb3 HW HS HD
  have HW := HWx
  have HS := HSx
  clear HWx HSx
  have HD := Lib.hid HS.out.1
  have z0 := HD.out.cell 0
  have z1 := HD.out.cell 1
  have z2 := HD.out.cell 2
  have z3 := HD.out.cell 3
  have z4 := HD.out.cell 4
  have z5 := HD.out.cell 5
  have z6 := HD.out.cell 6
  have z7 := HD.out.cell 7
  have z8 := HD.out.cell 8
  have z9 := HD.out.cell 9
  have z10 := HD.out.cell 10
  have z11 := HD.out.cell 11
  have z12 := HD.out.cell 12
  simp only [List.getElem?_toArray, List.getElem?_cons_succ, List.getElem?_cons_zero] at z0 z1 z2 z3 z4 z5 z6 z7 z8 z9 z10 z11 z12
  cases q with
  | true =>
    go_wp2_with fail
    go_ret
    exact ⟨rfl, HS.out.2.2⟩
  | false =>
    go_wp2_with fail
    refine (lsCheck _ s _ (HSA.out _ HS.out.2.2) HN.out).mono ?_
    rintro e w4 ⟨hb4, ⟨hE, u, rfl, hF⟩ | ⟨hE, rfl⟩⟩
    rotate_left
    · have HWx := Lib.hid (HW.out.trans (hb4.mono HW.out.size))
      have HSx := Lib.hid (HA.out w4 HWx.out)
      have HDx := Lib.hid (HSx.out.1.alloc (.cells #[.slice none 0 0] 29))
      have HBx := Lib.hid (HSx.out.2.2.alloc HSx.out.2.2.size (.cells #[.slice none 0 0] 29))
      clear z0 z1 z2 z3 z4 z5 z6 z7 z8 z9 z10 z11 z12 HD
      have z0 := HDx.out.cell 0
      have z1 := HDx.out.cell 1
      have z2 := HDx.out.cell 2
      have z3 := HDx.out.cell 3
      have z4 := HDx.out.cell 4
      have z5 := HDx.out.cell 5
      have z6 := HDx.out.cell 6
      have z7 := HDx.out.cell 7
      have z8 := HDx.out.cell 8
      have z9 := HDx.out.cell 9
      have z10 := HDx.out.cell 10
      have z11 := HDx.out.cell 11
      have z12 := HDx.out.cell 12
      simp only [List.getElem?_toArray, List.getElem?_cons_succ, List.getElem?_cons_zero] at z0 z1 z2 z3 z4 z5 z6 z7 z8 z9 z10 z11 z12
      have hk2 : (linesErr s != 0) = true := bne_iff_ne.2 hE
      have hac := lsAccepted _ s _ (HSA.out _ HBx.out) HN.out
      have hav : accB s = false := by unfold accB; rw [beq_eq_false_iff_ne.2 hE]; rfl
      rw [hav] at hac
      generalize linesErr s = k at *
      clear hb4 hE hav
      go_wp2_with fail
      refine hac.mono ?_
      rintro e w5 ⟨rfl, hb5⟩
      have hb := HBx.out.trans (hb5.mono HBx.out.size)
      go_wp2_with fail
      go_ret
      exact ⟨rfl, hb⟩
    · have HE := Lib.hid hE
      have HF := Lib.hid hF
      obtain ⟨A, c, rfl, -⟩ := hF.open_
      have HW4 := Lib.hid (HW.out.trans (hb4.mono HW.out.size))
      have HS4 := Lib.hid (HA.out w4 HW4.out)
      have hk2 : (linesErr s != 0) = false := bne_eq_false_iff_eq.2 hE
      clear z0 z1 z2 z3 z4 z5 z6 z7 z8 z9 z10 z11 z12 HD HS HW hb4 hF hE
      go_wp2_with fail
      have B5 := (Blk.new w4 29 #[.slice A (findsL s).length c]).alloc (.cells #[.func (.func 17) #[] #[.pointer (some ⟨w.heap.size + 1, 0, none⟩)], .func (.func 18) #[] #[.pointer (some ⟨w.heap.size + 1, 0, none⟩)]] 49)
      have B6 := Blk.new (w4.alloc (.cells #[.slice A (findsL s).length c] 29)) 49 #[.func (.func 17) #[] #[.pointer (some ⟨w.heap.size + 1, 0, none⟩)], .func (.func 18) #[] #[.pointer (some ⟨w.heap.size + 1, 0, none⟩)]]
      rw [World.size_alloc] at B6
      have HbW := ((Below.refl _ w4).alloc (Nat.le_refl _) (.cells #[.slice A (findsL s).length c] 29)).alloc (by simp) (.cells #[.func (.func 17) #[] #[.pointer (some ⟨w.heap.size + 1, 0, none⟩)], .func (.func 18) #[] #[.pointer (some ⟨w.heap.size + 1, 0, none⟩)]] 49)
      generalize (w4.alloc (.cells #[.slice A (findsL s).length c] 29)).alloc (.cells #[.func (.func 17) #[] #[.pointer (some ⟨w.heap.size + 1, 0, none⟩)], .func (.func 18) #[] #[.pointer (some ⟨w.heap.size + 1, 0, none⟩)]] 49) = w6 at *
      have hg4 : w.heap.size + 1 < w4.heap.size := HS4.out.2.1.lt
      have HC : Hid (∀ W, Below w6.heap.size w6 W → Blk W w.heap.size 26 #[.string s.name, .int .i64 s.depth, .int .i64 s.low, .int .i64 s.high, .int .i64 s.len, .slice Al s.lines.length cl, .int .i64 s.pipe, .int .i64 s.arbor, .int .i64 s.purch, .int .i64 s.most, .int .i64 s.brake, .slice Ai s.items.length ci, .slice Ab s.bricks.length cb] ∧ Blk W (w.heap.size + 1) 47 #[.int .u16 m] ∧ Below w.heap.size w W ∧ Blk W w4.heap.size 29 #[.slice A (findsL s).length c] ∧ Blk W (w4.heap.size + 1) 49 #[.func (.func 17) #[] #[.pointer (some ⟨w.heap.size + 1, 0, none⟩)], .func (.func 18) #[] #[.pointer (some ⟨w.heap.size + 1, 0, none⟩)]] ∧ FindsAt W w4.heap.size (.slice A (findsL s).length c) (findsL s) ∧ w4.heap.size + 1 < W.heap.size) := fun W hb => by
        have h1 := HA.out W (HW4.out.trans ((HbW.trans (hb.mono HbW.size)).mono HW4.out.size))
        exact ⟨h1.1, h1.2.1, h1.2.2, B5.below hb B5.lt, B6.below hb B6.lt, HF.out.below (HbW.trans (hb.mono HbW.size)) (Nat.le_refl _), Nat.lt_of_lt_of_le B6.lt hb.size⟩
      clear B5 B6 HbW HF HS4 HW4 HA
      have eg1 := entersEa1
      have eg2 := entersEa2
      have hok := (lines_good HE.out).1
      have hkk := setB_ok hok
      have HK := Lib.hid hkk
      clear hok hkk
      go_loopw [43] (fun ix wr => (ix = .int .i64 0 ∨ ix = .int .i64 1 ∨ ix = .int .i64 2) ∧ Hid (Below w6.heap.size w6 wr)) (fun ix _ => 2 - (intOf ix).toNat)
      case atStart => exact ⟨.inl rfl, Below.refl _ _⟩
      case round =>
        obtain ⟨hix, HBr⟩ := hrel
        have HX := Lib.hid (HC.out wr HBr.out)
        have HD := Lib.hid HX.out.1
        have z0 := HD.out.cell 0
        have z1 := HD.out.cell 1
        have z2 := HD.out.cell 2
        have z3 := HD.out.cell 3
        have z4 := HD.out.cell 4
        have z5 := HD.out.cell 5
        have z6 := HD.out.cell 6
        have z7 := HD.out.cell 7
        have z8 := HD.out.cell 8
        have z9 := HD.out.cell 9
        have z10 := HD.out.cell 10
        have z11 := HD.out.cell 11
        have z12 := HD.out.cell 12
        simp only [List.getElem?_toArray, List.getElem?_cons_succ, List.getElem?_cons_zero] at z0 z1 z2 z3 z4 z5 z6 z7 z8 z9 z10 z11 z12
        have HG := Lib.hid HX.out.2.2.2.2.1
        have y0 := HG.out.cell 0
        have y1 := HG.out.cell 1
        simp only [List.getElem?_toArray, List.getElem?_cons_succ, List.getElem?_cons_zero] at y0 y1
        rcases hix with rfl | rfl | rfl
        · have h1 := easeOne wr.heap.size (w.heap.size + 1) s.brake m (wr.alloc (.cells #[.string s.name, .int .i64 s.depth, .int .i64 s.low, .int .i64 s.high, .int .i64 s.len, .slice Al s.lines.length cl, .int .i64 s.pipe, .int .i64 s.arbor, .int .i64 s.purch, .int .i64 s.most, .int .i64 s.brake, .slice Ai s.items.length ci, .slice Ab s.bricks.length cb] 26)) ((Blk.new wr 26 #[.string s.name, .int .i64 s.depth, .int .i64 s.low, .int .i64 s.high, .int .i64 s.len, .slice Al s.lines.length cl, .int .i64 s.pipe, .int .i64 s.arbor, .int .i64 s.purch, .int .i64 s.most, .int .i64 s.brake, .slice Ai s.items.length ci, .slice Ab s.bricks.length cb]).cell 10) ((HX.out.2.1.alloc (.cells #[.string s.name, .int .i64 s.depth, .int .i64 s.low, .int .i64 s.high, .int .i64 s.len, .slice Al s.lines.length cl, .int .i64 s.pipe, .int .i64 s.arbor, .int .i64 s.purch, .int .i64 s.most, .int .i64 s.brake, .slice Ai s.items.length ci, .slice Ab s.bricks.length cb] 26)).cell 0) ((Blk.new wr 26 #[.string s.name, .int .i64 s.depth, .int .i64 s.low, .int .i64 s.high, .int .i64 s.len, .slice Al s.lines.length cl, .int .i64 s.pipe, .int .i64 s.arbor, .int .i64 s.purch, .int .i64 s.most, .int .i64 s.brake, .slice Ai s.items.length ci, .slice Ab s.bricks.length cb]).frozen 10) HK.out.brake HM.out
          have h2 : Hid (∀ w8, w8 = ((wr.alloc (.cells #[.string s.name, .int .i64 s.depth, .int .i64 s.low, .int .i64 s.high, .int .i64 s.len, .slice Al s.lines.length cl, .int .i64 s.pipe, .int .i64 s.arbor, .int .i64 s.purch, .int .i64 s.most, .int .i64 s.brake, .slice Ai s.items.length ci, .slice Ab s.bricks.length cb] 26)).setCell ⟨wr.heap.size, 10, none⟩ (.int .i64 (s.brake + m))).drew → Blk w8 wr.heap.size 26 #[.string s.name, .int .i64 s.depth, .int .i64 s.low, .int .i64 s.high, .int .i64 s.len, .slice Al s.lines.length cl, .int .i64 s.pipe, .int .i64 s.arbor, .int .i64 s.purch, .int .i64 (s.most), .int .i64 (s.brake + m), .slice Ai s.items.length ci, .slice Ab s.bricks.length cb] ∧ Below wr.heap.size wr w8) := fun w8 e => by
            rw [e]
            exact ⟨(Blk.new wr 26 #[.string s.name, .int .i64 s.depth, .int .i64 s.low, .int .i64 s.high, .int .i64 s.len, .slice Al s.lines.length cl, .int .i64 s.pipe, .int .i64 s.arbor, .int .i64 s.purch, .int .i64 s.most, .int .i64 s.brake, .slice Ai s.items.length ci, .slice Ab s.bricks.length cb]).set_ 10 (.int .i64 (s.brake + m)), (((Below.refl _ wr).alloc (Nat.le_refl _) (.cells #[.string s.name, .int .i64 s.depth, .int .i64 s.low, .int .i64 s.high, .int .i64 s.len, .slice Al s.lines.length cl, .int .i64 s.pipe, .int .i64 s.arbor, .int .i64 s.purch, .int .i64 s.most, .int .i64 s.brake, .slice Ai s.items.length ci, .slice Ab s.bricks.length cb] 26)).setCell (p := ⟨wr.heap.size, 10, none⟩) (Nat.le_refl _) _).drew⟩
          have hle := HM.out
          have hsub : Hid ((findsL (easeS s (s.brake + m) (s.most))).any (fun x => !(findsL s).any fun y => decide (x = y)) = false) := by
            unfold Hid
            rw [List.any_eq_false]
            intro x hx
            have h3 := ease_sub HE.out (k := s.brake + m) (m := s.most) (by omega) (by omega) x hx
            have h4 : ((findsL s).any fun y => decide (x = y)) = true := List.any_eq_true.2 ⟨x, h3, decide_eq_true rfl⟩
            rw [h4]
            simp
          have her := ease_err HE.out (s.brake + m) (s.most)
          have hch := fun W (hb : Below w.heap.size w W) => lsCheck _ (easeS s (s.brake + m) (s.most)) W (HSE.out (s.brake + m) (s.most) W hb) (names_ease HN.out _ _)
          unfold setVal at hch
          have HCh := Lib.hid hch
          have HEr := Lib.hid her
          clear hle hch her
          go_wp2_with (go_at_fn 17; refine h1.mono ?_; rintro e w8 ⟨rfl, hw8⟩; have HT := h2.out w8 hw8; have HTb := Lib.hid HT.2; have HTd := Lib.hid HT.1; clear HT hw8; have z0 := HTd.out.cell 0; have z1 := HTd.out.cell 1; have z2 := HTd.out.cell 2; have z3 := HTd.out.cell 3; have z4 := HTd.out.cell 4; have z5 := HTd.out.cell 5; have z6 := HTd.out.cell 6; have z7 := HTd.out.cell 7; have z8 := HTd.out.cell 8; have z9 := HTd.out.cell 9; have z10 := HTd.out.cell 10; have z11 := HTd.out.cell 11; have z12 := HTd.out.cell 12; simp only [List.getElem?_toArray, List.getElem?_cons_succ, List.getElem?_cons_zero] at z0 z1 z2 z3 z4 z5 z6 z7 z8 z9 z10 z11 z12)
          have HB8 := Lib.hid (HX.out.2.2.1.trans (HTb.out.mono HX.out.2.2.1.size))
          have hck := HCh.out w8 HB8.out
          have her := HEr.out
          clear HCh HEr h1 h2 z0 z1 z2 z3 z4 z5 z6 z7 z8 z9 z10 z11 z12 y0 y1
          cases hst : setB (easeS s (s.brake + m) (s.most)) with
          | false =>
            rw [hst, if_neg (by simp)] at her
            refine hck.mono ?_
            rintro e w9 ⟨hb9, ⟨hE2, -⟩ | ⟨-, rfl⟩⟩
            · rw [her] at hE2; exact absurd hE2 (by decide)
            · have HB9 := Lib.hid (HBr.out.trans ((HTb.out.trans (hb9.mono HTb.out.size)).mono HBr.out.size))
              rw [her]
              clear hck hb9 her hst hsub HTb HTd HB8 HX HD HG
              go_wp2_with fail
              go_roundw
              case rel => exact ⟨.inr (.inl rfl), HB9⟩
              case measure => simp [intOf]
          | true =>
            rw [hst, if_pos rfl] at her
            refine hck.mono ?_
            rintro e w9 ⟨hb9, ⟨-, u, rfl, hF9⟩ | ⟨hE2, -⟩⟩
            rotate_left
            · exact absurd her hE2
            · have HB9 := Lib.hid (HBr.out.trans ((HTb.out.trans (hb9.mono HTb.out.size)).mono HBr.out.size))
              have hcf := containsFuncFind u (findsL (easeS s (s.brake + m) (s.most))) 20 #[.pointer (some ⟨w4.heap.size, 0, none⟩)] (fun x => !(findsL s).any fun y => decide (x = y)) entersEa3 w9 hF9 (fun t _ w' hb' => by
                have h5 := HC.out w' (HB9.out.trans (hb'.mono HB9.out.size))
                exact easeThree _ (findsL s) t w4.heap.size w4.heap.size w' h5.2.2.2.2.2.1 (Nat.le_trans (Nat.le_succ _) (Nat.le_of_lt h5.2.2.2.2.2.2)) (h5.2.2.2.1.cell 0) (Nat.lt_trans (Nat.lt_succ_self _) h5.2.2.2.2.2.2))
              rw [hsub.out] at hcf
              obtain ⟨A9, c9, rfl, -⟩ := hF9.open_
              clear hck hb9 her hst hsub HTb HTd HB8 HX HD HG hF9
              go_wp2_with fail
              refine hcf.mono ?_
              rintro e w10 ⟨rfl, hb10⟩
              have HB10 := Lib.hid (HB9.out.trans (hb10.mono HB9.out.size))
              clear hcf hb10
              go_wp2_with fail
              go_roundw
              case rel => exact ⟨.inr (.inl rfl), HB10⟩
              case measure => simp [intOf]
        · have h1 := easeTwo wr.heap.size (w.heap.size + 1) s.most m (wr.alloc (.cells #[.string s.name, .int .i64 s.depth, .int .i64 s.low, .int .i64 s.high, .int .i64 s.len, .slice Al s.lines.length cl, .int .i64 s.pipe, .int .i64 s.arbor, .int .i64 s.purch, .int .i64 s.most, .int .i64 s.brake, .slice Ai s.items.length ci, .slice Ab s.bricks.length cb] 26)) ((Blk.new wr 26 #[.string s.name, .int .i64 s.depth, .int .i64 s.low, .int .i64 s.high, .int .i64 s.len, .slice Al s.lines.length cl, .int .i64 s.pipe, .int .i64 s.arbor, .int .i64 s.purch, .int .i64 s.most, .int .i64 s.brake, .slice Ai s.items.length ci, .slice Ab s.bricks.length cb]).cell 9) ((HX.out.2.1.alloc (.cells #[.string s.name, .int .i64 s.depth, .int .i64 s.low, .int .i64 s.high, .int .i64 s.len, .slice Al s.lines.length cl, .int .i64 s.pipe, .int .i64 s.arbor, .int .i64 s.purch, .int .i64 s.most, .int .i64 s.brake, .slice Ai s.items.length ci, .slice Ab s.bricks.length cb] 26)).cell 0) ((Blk.new wr 26 #[.string s.name, .int .i64 s.depth, .int .i64 s.low, .int .i64 s.high, .int .i64 s.len, .slice Al s.lines.length cl, .int .i64 s.pipe, .int .i64 s.arbor, .int .i64 s.purch, .int .i64 s.most, .int .i64 s.brake, .slice Ai s.items.length ci, .slice Ab s.bricks.length cb]).frozen 9) HK.out.most HM.out
          have h2 : Hid (∀ w8, w8 = ((wr.alloc (.cells #[.string s.name, .int .i64 s.depth, .int .i64 s.low, .int .i64 s.high, .int .i64 s.len, .slice Al s.lines.length cl, .int .i64 s.pipe, .int .i64 s.arbor, .int .i64 s.purch, .int .i64 s.most, .int .i64 s.brake, .slice Ai s.items.length ci, .slice Ab s.bricks.length cb] 26)).setCell ⟨wr.heap.size, 9, none⟩ (.int .i64 (s.most + m))).drew → Blk w8 wr.heap.size 26 #[.string s.name, .int .i64 s.depth, .int .i64 s.low, .int .i64 s.high, .int .i64 s.len, .slice Al s.lines.length cl, .int .i64 s.pipe, .int .i64 s.arbor, .int .i64 s.purch, .int .i64 (s.most + m), .int .i64 (s.brake), .slice Ai s.items.length ci, .slice Ab s.bricks.length cb] ∧ Below wr.heap.size wr w8) := fun w8 e => by
            rw [e]
            exact ⟨(Blk.new wr 26 #[.string s.name, .int .i64 s.depth, .int .i64 s.low, .int .i64 s.high, .int .i64 s.len, .slice Al s.lines.length cl, .int .i64 s.pipe, .int .i64 s.arbor, .int .i64 s.purch, .int .i64 s.most, .int .i64 s.brake, .slice Ai s.items.length ci, .slice Ab s.bricks.length cb]).set_ 9 (.int .i64 (s.most + m)), (((Below.refl _ wr).alloc (Nat.le_refl _) (.cells #[.string s.name, .int .i64 s.depth, .int .i64 s.low, .int .i64 s.high, .int .i64 s.len, .slice Al s.lines.length cl, .int .i64 s.pipe, .int .i64 s.arbor, .int .i64 s.purch, .int .i64 s.most, .int .i64 s.brake, .slice Ai s.items.length ci, .slice Ab s.bricks.length cb] 26)).setCell (p := ⟨wr.heap.size, 9, none⟩) (Nat.le_refl _) _).drew⟩
          have hle := HM.out
          have hsub : Hid ((findsL (easeS s (s.brake) (s.most + m))).any (fun x => !(findsL s).any fun y => decide (x = y)) = false) := by
            unfold Hid
            rw [List.any_eq_false]
            intro x hx
            have h3 := ease_sub HE.out (k := s.brake) (m := s.most + m) (by omega) (by omega) x hx
            have h4 : ((findsL s).any fun y => decide (x = y)) = true := List.any_eq_true.2 ⟨x, h3, decide_eq_true rfl⟩
            rw [h4]
            simp
          have her := ease_err HE.out (s.brake) (s.most + m)
          have hch := fun W (hb : Below w.heap.size w W) => lsCheck _ (easeS s (s.brake) (s.most + m)) W (HSE.out (s.brake) (s.most + m) W hb) (names_ease HN.out _ _)
          unfold setVal at hch
          have HCh := Lib.hid hch
          have HEr := Lib.hid her
          clear hle hch her
          go_wp2_with (go_at_fn 18; refine h1.mono ?_; rintro e w8 ⟨rfl, hw8⟩; have HT := h2.out w8 hw8; have HTb := Lib.hid HT.2; have HTd := Lib.hid HT.1; clear HT hw8; have z0 := HTd.out.cell 0; have z1 := HTd.out.cell 1; have z2 := HTd.out.cell 2; have z3 := HTd.out.cell 3; have z4 := HTd.out.cell 4; have z5 := HTd.out.cell 5; have z6 := HTd.out.cell 6; have z7 := HTd.out.cell 7; have z8 := HTd.out.cell 8; have z9 := HTd.out.cell 9; have z10 := HTd.out.cell 10; have z11 := HTd.out.cell 11; have z12 := HTd.out.cell 12; simp only [List.getElem?_toArray, List.getElem?_cons_succ, List.getElem?_cons_zero] at z0 z1 z2 z3 z4 z5 z6 z7 z8 z9 z10 z11 z12)
          have HB8 := Lib.hid (HX.out.2.2.1.trans (HTb.out.mono HX.out.2.2.1.size))
          have hck := HCh.out w8 HB8.out
          have her := HEr.out
          clear HCh HEr h1 h2 z0 z1 z2 z3 z4 z5 z6 z7 z8 z9 z10 z11 z12 y0 y1
          cases hst : setB (easeS s (s.brake) (s.most + m)) with
          | false =>
            rw [hst, if_neg (by simp)] at her
            refine hck.mono ?_
            rintro e w9 ⟨hb9, ⟨hE2, -⟩ | ⟨-, rfl⟩⟩
            · rw [her] at hE2; exact absurd hE2 (by decide)
            · have HB9 := Lib.hid (HBr.out.trans ((HTb.out.trans (hb9.mono HTb.out.size)).mono HBr.out.size))
              rw [her]
              clear hck hb9 her hst hsub HTb HTd HB8 HX HD HG
              go_wp2_with fail
              go_roundw
              case rel => exact ⟨.inr (.inr rfl), HB9⟩
              case measure => simp [intOf]
          | true =>
            rw [hst, if_pos rfl] at her
            refine hck.mono ?_
            rintro e w9 ⟨hb9, ⟨-, u, rfl, hF9⟩ | ⟨hE2, -⟩⟩
            rotate_left
            · exact absurd her hE2
            · have HB9 := Lib.hid (HBr.out.trans ((HTb.out.trans (hb9.mono HTb.out.size)).mono HBr.out.size))
              have hcf := containsFuncFind u (findsL (easeS s (s.brake) (s.most + m))) 20 #[.pointer (some ⟨w4.heap.size, 0, none⟩)] (fun x => !(findsL s).any fun y => decide (x = y)) entersEa3 w9 hF9 (fun t _ w' hb' => by
                have h5 := HC.out w' (HB9.out.trans (hb'.mono HB9.out.size))
                exact easeThree _ (findsL s) t w4.heap.size w4.heap.size w' h5.2.2.2.2.2.1 (Nat.le_trans (Nat.le_succ _) (Nat.le_of_lt h5.2.2.2.2.2.2)) (h5.2.2.2.1.cell 0) (Nat.lt_trans (Nat.lt_succ_self _) h5.2.2.2.2.2.2))
              rw [hsub.out] at hcf
              obtain ⟨A9, c9, rfl, -⟩ := hF9.open_
              clear hck hb9 her hst hsub HTb HTd HB8 HX HD HG hF9
              go_wp2_with fail
              refine hcf.mono ?_
              rintro e w10 ⟨rfl, hb10⟩
              have HB10 := Lib.hid (HB9.out.trans (hb10.mono HB9.out.size))
              clear hcf hb10
              go_wp2_with fail
              go_roundw
              case rel => exact ⟨.inr (.inr rfl), HB10⟩
              case measure => simp [intOf]
        · have HDx := Lib.hid (HX.out.1.alloc (.cells #[.string s.name, .int .i64 s.depth, .int .i64 s.low, .int .i64 s.high, .int .i64 s.len, .slice Al s.lines.length cl, .int .i64 s.pipe, .int .i64 s.arbor, .int .i64 s.purch, .int .i64 67108864, .int .i64 67108864, .slice Ai s.items.length ci, .slice Ab s.bricks.length cb] 26))
          have HTx := Lib.hid (Blk.new wr 26 #[.string s.name, .int .i64 s.depth, .int .i64 s.low, .int .i64 s.high, .int .i64 s.len, .slice Al s.lines.length cl, .int .i64 s.pipe, .int .i64 s.arbor, .int .i64 s.purch, .int .i64 67108864, .int .i64 67108864, .slice Ai s.items.length ci, .slice Ab s.bricks.length cb])
          have hBx := (Below.refl _ wr).alloc (Nat.le_refl _) (.cells #[.string s.name, .int .i64 s.depth, .int .i64 s.low, .int .i64 s.high, .int .i64 s.len, .slice Al s.lines.length cl, .int .i64 s.pipe, .int .i64 s.arbor, .int .i64 s.purch, .int .i64 67108864, .int .i64 67108864, .slice Ai s.items.length ci, .slice Ab s.bricks.length cb] 26)
          have HBx := Lib.hid (HBr.out.trans (hBx.mono HBr.out.size))
          have f9 := (Blk.new wr 26 #[.string s.name, .int .i64 s.depth, .int .i64 s.low, .int .i64 s.high, .int .i64 s.len, .slice Al s.lines.length cl, .int .i64 s.pipe, .int .i64 s.arbor, .int .i64 s.purch, .int .i64 s.most, .int .i64 s.brake, .slice Ai s.items.length ci, .slice Ab s.bricks.length cb]).frozen 9
          have f10 := (Blk.new wr 26 #[.string s.name, .int .i64 s.depth, .int .i64 s.low, .int .i64 s.high, .int .i64 s.len, .slice Al s.lines.length cl, .int .i64 s.pipe, .int .i64 s.arbor, .int .i64 s.purch, .int .i64 s.most, .int .i64 s.brake, .slice Ai s.items.length ci, .slice Ab s.bricks.length cb]).frozen 10
          have z0 := HDx.out.cell 0
          have z1 := HDx.out.cell 1
          have z2 := HDx.out.cell 2
          have z3 := HDx.out.cell 3
          have z4 := HDx.out.cell 4
          have z5 := HDx.out.cell 5
          have z6 := HDx.out.cell 6
          have z7 := HDx.out.cell 7
          have z8 := HDx.out.cell 8
          have z9 := HDx.out.cell 9
          have z10 := HDx.out.cell 10
          have z11 := HDx.out.cell 11
          have z12 := HDx.out.cell 12
          simp only [List.getElem?_toArray, List.getElem?_cons_succ, List.getElem?_cons_zero] at z0 z1 z2 z3 z4 z5 z6 z7 z8 z9 z10 z11 z12
          have HOK := Lib.hid (lines_good HE.out).1
          have hWe := batWeight _ s _ (HSA.out _ (HC.out _ HBx.out).2.2.1) HN.out
          rw [if_pos HOK.out] at hWe
          have hpc : Hid (∀ W, Below w6.heap.size w6 W → CheckPost (easeS s 67108864 67108864) W = CheckPost (easeS s 67108864 67108864) W) := fun _ _ => rfl
          have hch := fun W (hb : Below w.heap.size w W) => lsCheck _ (easeS s 67108864 67108864) W (HSE.out 67108864 67108864 W hb) (names_ease HN.out _ _)
          unfold setVal at hch
          have HCh := Lib.hid hch
          have hst : setB (easeS s 67108864 67108864) = true := ease_valid HOK.out
          have her := ease_err HE.out 67108864 67108864
          rw [hst, if_pos rfl] at her
          have HEr := Lib.hid her
          clear hch hpc hst her hBx HX
          go_wp2_with fail
          generalize wr.alloc (.cells #[.string s.name, .int .i64 s.depth, .int .i64 s.low, .int .i64 s.high, .int .i64 s.len, .slice Al s.lines.length cl, .int .i64 s.pipe, .int .i64 s.arbor, .int .i64 s.purch, .int .i64 67108864, .int .i64 67108864, .slice Ai s.items.length ci, .slice Ab s.bricks.length cb] 26) = wx at *
          refine hWe.mono ?_
          rintro e w8 ⟨rfl, hb8⟩
          have HB8 := Lib.hid (HBx.out.trans (hb8.mono HBx.out.size))
          have HT8 := Lib.hid (HTx.out.below hb8 HTx.out.lt)
          have HD8 := Lib.hid (HC.out _ HB8.out).1
          clear z0 z1 z2 z3 z4 z5 z6 z7 z8 z9 z10 z11 z12
          clear z0 z1 z2 z3 z4 z5 z6 z7 z8 z9 z10 z11 z12 hWe f9 f10 y0 y1 hb8 HTx HBx HDx HD HG
          have z0 := HD8.out.cell 0
          have z1 := HD8.out.cell 1
          have z2 := HD8.out.cell 2
          have z3 := HD8.out.cell 3
          have z4 := HD8.out.cell 4
          have z5 := HD8.out.cell 5
          have z6 := HD8.out.cell 6
          have z7 := HD8.out.cell 7
          have z8 := HD8.out.cell 8
          have z9 := HD8.out.cell 9
          have z10 := HD8.out.cell 10
          have z11 := HD8.out.cell 11
          have z12 := HD8.out.cell 12
          simp only [List.getElem?_toArray, List.getElem?_cons_succ, List.getElem?_cons_zero] at z0 z1 z2 z3 z4 z5 z6 z7 z8 z9 z10 z11 z12
          have hBa := arbBalance _ s _ (HSA.out _ (HC.out _ HB8.out).2.2.1) HN.out
          rw [if_pos HOK.out] at hBa
          go_wp2_with fail
          refine hBa.mono ?_
          rintro e w9 ⟨rfl, hb9⟩
          have HB9 := Lib.hid (HB8.out.trans (hb9.mono HB8.out.size))
          have HT9 := Lib.hid (HT8.out.below hb9 HT8.out.lt)
          clear z0 z1 z2 z3 z4 z5 z6 z7 z8 z9 z10 z11 z12 hBa hb9 HT8 HD8 HB8
          have z0 := HT9.out.cell 0
          have z1 := HT9.out.cell 1
          have z2 := HT9.out.cell 2
          have z3 := HT9.out.cell 3
          have z4 := HT9.out.cell 4
          have z5 := HT9.out.cell 5
          have z6 := HT9.out.cell 6
          have z7 := HT9.out.cell 7
          have z8 := HT9.out.cell 8
          have z9 := HT9.out.cell 9
          have z10 := HT9.out.cell 10
          have z11 := HT9.out.cell 11
          have z12 := HT9.out.cell 12
          simp only [List.getElem?_toArray, List.getElem?_cons_succ, List.getElem?_cons_zero] at z0 z1 z2 z3 z4 z5 z6 z7 z8 z9 z10 z11 z12
          go_wp2_with fail
          refine (HCh.out _ (HC.out _ HB9.out).2.2.1).mono ?_
          rintro e wa ⟨hba, ⟨-, u, rfl, hFa⟩ | ⟨hE2, -⟩⟩
          rotate_left
          · exact absurd HEr.out hE2
          have HBa := Lib.hid (HB9.out.trans (hba.mono HB9.out.size))
          have hBe := (HC.out _ HBa.out).2.2.1
          clear z0 z1 z2 z3 z4 z5 z6 z7 z8 z9 z10 z11 z12 hba HT9 HB9 HCh
          have hend : Hid (max (balanceN s) (-balanceN s) ≤ 67108864 → weightN s ≤ 67108864 → ((findsL (easeS s 67108864 67108864)).any (fun x => x.kind == 2) || (((findsL (easeS s 67108864 67108864)).length : Int) == 0)) = true) := ease_end HE.out
          have hcf := containsFuncFind u (findsL (easeS s 67108864 67108864)) 24 #[] (fun x => x.kind == 2) entersEa4 wa hFa (fun t _ w' _ => by rw [show #[t.val] ++ #[] = #[t.val] by simp]; exact easeFour t w')
          obtain ⟨A9, c9, rfl, -⟩ := hFa.open_
          generalize balanceN s = bn at *
          generalize weightN s = wn at *
          generalize findsL (easeS s 67108864 67108864) = fl at *
          have HBe := Lib.hid hBe
          clear hFa hBe
          by_cases c1 : 67108864 < bn
          · have d1 := decide_eq_true c1
            clear c1 hcf
            go_wp2_with fail
            go_ret
            exact ⟨rfl, HBe.out⟩
          have d1 := decide_eq_false c1
          by_cases c2 : bn < -67108864
          · have d2 := decide_eq_true c2
            clear c1 c2 hcf
            go_wp2_with fail
            go_ret
            exact ⟨rfl, HBe.out⟩
          have d2 := decide_eq_false c2
          by_cases c3 : 67108864 < wn
          · have d3 := decide_eq_true c3
            clear c1 c2 c3 hcf
            go_wp2_with fail
            go_ret
            exact ⟨rfl, HBe.out⟩
          have d3 := decide_eq_false c3
          have he := hend.out (by omega) (by omega)
          clear c1 c2 c3 hend
          have hp : ((fl.any fun x => x.kind == 2) = true) ∨ ((fl.any fun x => x.kind == 2) = false ∧ ((fl.length : Int) == 0) = true) := by
            cases ha : fl.any fun x => x.kind == 2 with
            | true => exact .inl rfl
            | false => rw [ha] at he; exact .inr ⟨rfl, he⟩
          clear he
          generalize (fl.any fun x => x.kind == 2) = q at *
          rcases hp with rfl | ⟨rfl, hl0⟩
          all_goals
            go_wp2_with fail
            refine hcf.mono ?_
            rintro e wb ⟨rfl, hbb⟩
            have HBb := Lib.hid (HBe.out.trans (hbb.mono HBe.out.size))
            clear hcf hbb
            go_wp2_with fail
            go_ret
            exact ⟨rfl, HBb.out⟩
end Go.Proofs.YtpnongeibpkbhaaGreatDoor

/- An argument that is a slice of tasks, read as data, is a list of tasks in memory. -/
namespace Go.Proofs.YtpnongeibpkbhaaGreatDoor
open Go.RowKit Go.Shelf Go.ChangeShapes Go.WideShapes Go.Deep

theorem add_none (b off k : Nat) : (Addr.mk b off none).add k = ⟨b, off + k, none⟩ := by
  unfold Addr.add
  split
  · rename_i h; subst h; rfl
  · rfl
theorem cell_lt {w : World} {a : Addr} {v : Value} (h : w.cell? a = some v) : a.block < w.heap.size := by
  unfold World.cell? at h
  split at h
  · rename_i c t z hh
    exact (Array.getElem?_eq_some_iff.1 hh).1
  · cases h
theorem spot_none {w : World} {b off : Nat} {s : Option Nat} {v : Value} (h : w.cell? ((Addr.mk b off s).add 0) = some v) : s = none := by
  simpa [Addr.add] using World.cell?_spot h

theorem list5 {α : Type} : ∀ {cs : List α}, cs.length = 5 → ∃ a b c d e, cs = [a, b, c, d, e]
  | [a, b, c, d, e], _ => ⟨a, b, c, d, e, rfl⟩

section
variable {H : Type} {enc : TypeId × Value → H} {w : World} {base : Nat} {spare : Nat → Bool} {held : Bool}

theorem int_of_trod {fuel : Nat} {v : Value} {x : DataW H × List MemPlace} (h : DataW.trod enc Tryz.prog w base spare held fuel 3 [v] = some x) :
    ∃ n : Int, v = .int .i64 n ∧ -9223372036854775808 ≤ n ∧ n ≤ 9223372036854775807 := by
  obtain ⟨n, hv, -, hw⟩ := DataW.trod_int Tryz.underlying3 h
  simp [Lit.wf, IntKind.min, IntKind.max, IntKind.signed, IntKind.bits] at hw
  exact ⟨n, by simpa using hv, by omega, by omega⟩
theorem str_of_trod {fuel : Nat} {v : Value} {x : DataW H × List MemPlace} (h : DataW.trod enc Tryz.prog w base spare held fuel 9 [v] = some x) :
    ∃ s : ByteArray, v = .string s ∧ s.size ≤ maxLen := by
  obtain ⟨s, hv, -, hw⟩ := DataW.trod_string Tryz.underlying9 h
  exact ⟨s, by simpa using hv, hw⟩
end

instance : Inhabited Task := ⟨⟨⟨#[]⟩, 0, 0, 0, none, 0, []⟩⟩

theorem flat_at (l : List Task) (x : Nat) (u : Value) (hu : (l.flatMap Task.cells)[x]? = some u) : ∃ (hj : x / 5 < l.length), l[x / 5].cells[x % 5]? = some u := by
  have hlen : (l.flatMap Task.cells).length = l.length * 5 := by
    clear hu
    induction l with
    | nil => rfl
    | cons t l ih => rw [List.flatMap_cons, List.length_append, ih]; simp [Task.cells]; omega
  have hx := (List.getElem?_eq_some_iff.1 hu).1
  rw [hlen] at hx
  have hj : x / 5 < l.length := by omega
  refine ⟨hj, ?_⟩
  rw [← flat_get l (x / 5) (x % 5) hj (by omega), show x / 5 * 5 + x % 5 = x by omega]
  exact hu

section
variable {H : Type} {enc : TypeId × Value → H} {w : World} {base : Nat} {spare : Nat → Bool} {held : Bool}

end

end Go.Proofs.YtpnongeibpkbhaaGreatDoor

/- From a law's walk to its row: the arguments read behind the call as they did, the result is true. -/
namespace Go.Proofs.YtpnongeibpkbhaaGreatDoor
open Go.ChangeShapes Go.WideShapes Go.ChangeAt Go.RowKit

theorem Tryz.own : ownKnob Tryz.prog.godebug = none := by kernel_rfl
theorem Tryz.laidOut : laidOutB Tryz.prog = true := by kernel_rfl

section
variable {H : Type} {enc : TypeId × Value → H} {P : Program}
theorem post_of_below {f : Func} {s : ChangeSpec} {apart fresh handsOn again : Bool} {W W' : World} {args : Array Value} {v : Value} {ds gs : List (DataW H)} {before pa pv : List MemPlace}
    (hW : DataW.Whole enc P f.params.toList s.vars apart W args.toList ds gs before)
    (hres : ∀ (b : Nat) (sp : Nat → Bool) (hd : Bool), DataW.TrodAll enc P W' b sp hd f.resultTypes.toList (v.resultList f.resultTypes.size) (s.fn H (ds ++ gs)).results [])
    (hargs : ∀ sp : Nat → Bool, (∀ p ∈ before, sp p.block = true) → DataW.TrodAll enc P W' 0 sp true f.params.toList args.toList (s.fn H (ds ++ gs)).args pa)
    (hvars : ∀ sp : Nat → Bool, (∀ p ∈ before, sp p.block = true) → DataW.TrodVars enc P W' sp s.vars (s.fn H (ds ++ gs)).vars pv)
    (hps : before = pa ++ pv) (hb : Below W.heap.size W W')
    (hok : ∀ (j : Nat) (t : TypeId) (r : Value), f.resultTypes[j]? = some t → (v.resultList f.resultTypes.size)[j]? = some r → Value.okWide P W' .any 0 t r) :
    s.post enc P f apart fresh handsOn again W args v W' := by
  have hlt : ∀ p ∈ before, p.block < W.heap.size := fun p hp => hW.lt p hp
  have hold : ∀ p ∈ before, (fun b => decide (b < W.heap.size)) p.block = true := fun p hp => by simpa using hlt p hp
  refine ⟨ds, gs, before, [], pa, pv, hW, hres _ _ _, hargs _ hold, hvars _ hold, World.keptBut_mono (fun p hp => ⟨hp, ?_⟩) (hb.frame (· ∈ before)), fun _ => ?_⟩
  · rw [hps, List.mem_append] at hp
    exact Or.inr hp
  · obtain ⟨_, _, _, _, _, hz, hn⟩ := hW
    refine ⟨hok, _, _, ([] ++ pa) ++ pv, ⟨[] ++ pa, pv, trodAll_append (hargs _ (fun _ _ => rfl)) (hres _ _ _), hvars _ (fun _ _ => rfl), rfl, ?_, ?_⟩, ?_⟩
    · intro b off hp
      have hin : MemPlace.cell b off ∈ before := by rw [hps]; simpa using hp
      rw [hb.frozen (hlt _ hin)]
      exact hz b off hin
    · intro ha
      have := hn ha
      rw [hps] at this
      simpa using this
    · intro p hp _
      rw [hps]
      simpa using hp

theorem trodAll_len {W : World} {base : Nat} {sp : Nat → Bool} {held : Bool} : ∀ {ts : List TypeId} {vs : List Value} {ds : List (DataW H)} {ps : List MemPlace}, DataW.TrodAll enc P W base sp held ts vs ds ps → ds.length = ts.length
  | [], [], [], _, _ => rfl
  | _ :: ts, _ :: vs, _ :: ds, _, ⟨_, _, _, h2, _⟩ => by rw [List.length_cons, List.length_cons, trodAll_len h2]
/-- All arguments read as they did. -/
theorem stays_all (hl : laidOutB P = true) {W W' : World} {sp : Nat → Bool} (hb : Below W.heap.size W W') : ∀ {ts : List TypeId} {vs : List Value} {ds : List (DataW H)} {ps : List MemPlace},
    (∀ t ∈ ts, P.readableRec t = true ∧ t < P.types.size) → DataW.TrodAll enc P W 0 (fun _ => true) true ts vs ds ps → (∀ p ∈ ps, p.block < W.heap.size) → (∀ p ∈ ps, sp p.block = true) → DataW.TrodAll enc P W' 0 sp true ts vs ds ps
  | [], [], [], _, _, h, _, _ => h
  | t :: _, _ :: _, _ :: _, _, ht, ⟨p, q, h1, h2, e⟩, hlt, hs => ⟨p, q,
      WideElems.Trod_stays hl (ht t List.mem_cons_self).1 (ht t List.mem_cons_self).2 h1 (fun x hx => hb.same (hlt x (by rw [e]; exact List.mem_append_left _ hx))) (fun x hx => hs x (by rw [e]; exact List.mem_append_left _ hx)),
      stays_all hl hb (fun t ht' => ht t (List.mem_cons_of_mem _ ht')) h2 (fun x hx => hlt x (by rw [e]; exact List.mem_append_right _ hx)) (fun x hx => hs x (by rw [e]; exact List.mem_append_right _ hx)), e⟩
end


set_option maxRecDepth 100000 in
theorem law_lifted {K : FuncId} {fn : Func} {s : ChangeSpec} {conds : List PathCond} {H : Type} {enc : TypeId × Value → H} {os : Os} (started : os.Started) (noInit : Tryz.prog.inits.idxOf? K = none) (hfn : Tryz.prog.funcs[K]? = some fn)
    (hvars : s.vars = []) (hres : fn.resultTypes = #[4]) (hrd : ∀ t ∈ fn.params.toList, Tryz.prog.readableRec t = true ∧ t < Tryz.prog.types.size)
    (hspec : ∀ ds : List (DataW H), ds.length = fn.params.size → (s.fn H ds).results = [.lit (.bool true)] ∧ (s.fn H ds).args = ds ∧ (s.fn H ds).vars = [])
    (witness : ∃ (w : World) (tape : Tape) (i : Input), w.os = os ∧ (w.forCall tape i).Shaped Tryz.prog ∧ i.vars = [] ∧ Input.okWide Tryz.prog (w.forCall tape i) .any w.heap.size K i ∧
      s.pre6 enc Tryz.prog fn conds false (w.forCall tape i).memory i.args ∧ ({} : Assume).holds Tryz.prog (lone (Frame.enter Tryz.prog K i.args .normal) [] (w.forCall tape i)))
    (call : ∀ (W : World) (base : Nat) (args : Array Value) (ds : List (DataW H)) (ps : List MemPlace), (∀ (j : Nat) t v, fn.params[j]? = some t → args[j]? = some v → Value.okWide Tryz.prog W .any base t v) →
      DataW.TrodAll enc Tryz.prog W 0 (fun _ => true) true fn.params.toList args.toList ds ps → Calls Tryz.prog K args W fun e W' => e = .returned (.bool true) ∧ Below W.heap.size W W') :
    ReturnsInHanded {} Tryz.checked os K .any (s.pre6 enc Tryz.prog fn conds false) (s.post enc Tryz.prog fn false true false false) := by
  refine returnsInHanded_of_change (C := Tryz.checked) Tryz.own started noInit hfn witness ?_
  intro W base args ds gs before hval hW hcnd _
  have hW' := hW
  obtain ⟨p, q, hA, hV, rfl, hfz, hnd⟩ := hW
  rw [hvars] at hV
  obtain ⟨rfl, rfl⟩ := trodVars_none hV
  rw [List.append_nil] at hW'
  have hlen : ds.length = fn.params.size := by rw [trodAll_len hA, Array.length_toList]
  obtain ⟨e1, e2, e3⟩ := hspec ds hlen
  refine (call W base args ds p hval hA).mono fun e W' ⟨he, hb⟩ => ?_
  subst he
  have hlt : ∀ x ∈ p, x.block < W.heap.size := fun x hx => hW'.lt x hx
  refine ⟨_, rfl, post_of_below (pa := p) (pv := []) hW' (fun _ _ _ => ?_) (fun sp hsp => ?_) (fun _ _ => ?_) (by simp) hb ?_⟩
  · rw [List.append_nil, e1, hres]
    exact trodAll_mk1 (shut_bool Tryz.underlying4 _)
  · rw [List.append_nil, e2]
    exact stays_all Tryz.laidOut hb hrd hA hlt hsp
  · rw [List.append_nil, e3, hvars]
    rfl
  · exact ok_one hres rfl (okWide_bool_mk Tryz.underlying4 _)

end Go.Proofs.YtpnongeibpkbhaaGreatDoor

/- From a law's walk to its row, where the row lists variables. -/
namespace Go.Proofs.YtpnongeibpkbhaaGreatDoor
open Go.ChangeShapes Go.WideShapes Go.ChangeAt Go.RowKit

set_option maxRecDepth 100000 in
theorem law_liftedL {laidL : List (String × DataW Unit)} {K : FuncId} {fn : Func} {s : ChangeSpec} {H : Type} {enc : TypeId × Value → H} {os : Os} (started : os.Started) (noInit : Tryz.prog.inits.idxOf? K = none) (hfn : Tryz.prog.funcs[K]? = some fn)
    (hvars : s.vars = []) (hres : fn.resultTypes = #[4]) (hrd : ∀ t ∈ fn.params.toList, Tryz.prog.readableRec t = true ∧ t < Tryz.prog.types.size)
    (hspec : ∀ ds : List (DataW H), ds.length = fn.params.size → (s.fn H ds).results = [.lit (.bool true)] ∧ (s.fn H ds).args = ds ∧ (s.fn H ds).vars = [])
    (witness : ∃ (w : World) (tape : Tape) (i : Input), w.os = os ∧ (w.forCall tape i).Shaped Tryz.prog ∧ i.vars = [] ∧ Input.okWide Tryz.prog (w.forCall tape i) .any w.heap.size K i ∧
      ((s.pre enc Tryz.prog fn [] false (w.forCall tape i).memory i.args ∧ laidMetH Tryz.prog laidL (w.forCall tape i).memory) ∧ sizedMet enc Tryz.prog fn (OpenSpec.ofChange s) false (w.forCall tape i).memory i.args) ∧ ({} : Assume).holds Tryz.prog (lone (Frame.enter Tryz.prog K i.args .normal) [] (w.forCall tape i)))
    (call : ∀ (W : World) (base : Nat) (args : Array Value) (ds : List (DataW H)) (ps : List MemPlace), (∀ (j : Nat) t v, fn.params[j]? = some t → args[j]? = some v → Value.okWide Tryz.prog W .any base t v) →
      DataW.TrodAll enc Tryz.prog W 0 (fun _ => true) true fn.params.toList args.toList ds ps → Calls Tryz.prog K args W fun e W' => e = .returned (.bool true) ∧ Below W.heap.size W W') :
    ReturnsInHanded {} Tryz.checked os K .any (fun w args => (s.pre enc Tryz.prog fn [] false w args ∧ laidMetH Tryz.prog laidL w) ∧ sizedMet enc Tryz.prog fn (OpenSpec.ofChange s) false w args) (s.post enc Tryz.prog fn false true false false) := by
  refine returnsInHanded_of_change_and (C := Tryz.checked) (X := fun w _ => laidMetH Tryz.prog laidL w) (fun _ _ _ hh h => h.of_heap hh) Tryz.own started noInit hfn witness ?_
  intro W base args ds gs before hval hW _ _ _ _
  have hW' := hW
  obtain ⟨p, q, hA, hV, rfl, hfz, hnd⟩ := hW
  rw [hvars] at hV
  obtain ⟨rfl, rfl⟩ := trodVars_none hV
  rw [List.append_nil] at hW'
  have hlen : ds.length = fn.params.size := by rw [trodAll_len hA, Array.length_toList]
  obtain ⟨e1, e2, e3⟩ := hspec ds hlen
  refine (call W base args ds p hval hA).mono fun e W' ⟨he, hb⟩ => ?_
  subst he
  have hlt : ∀ x ∈ p, x.block < W.heap.size := fun x hx => hW'.lt x hx
  refine ⟨_, rfl, post_of_below (pa := p) (pv := []) hW' (fun _ _ _ => ?_) (fun sp hsp => ?_) (fun _ _ => ?_) (by simp) hb ?_⟩
  · rw [List.append_nil, e1, hres]
    exact trodAll_mk1 (shut_bool Tryz.underlying4 _)
  · rw [List.append_nil, e2]
    exact stays_all Tryz.laidOut hb hrd hA hlt hsp
  · rw [List.append_nil, e3, hvars]
    rfl
  · exact ok_one hres rfl (okWide_bool_mk Tryz.underlying4 _)
end Go.Proofs.YtpnongeibpkbhaaGreatDoor

/- An argument that is a line set, read as data, is a line set in memory. Written by gen_openset.py. -/
namespace Go.Proofs.YtpnongeibpkbhaaGreatDoor
open Go.RowKit Go.Shelf Go.ChangeShapes Go.WideShapes Go.Deep

theorem list3 {α : Type} : ∀ {cs : List α}, cs.length = 3 → ∃ a b c, cs = [a, b, c]
  | [a, b, c], _ => ⟨a, b, c, rfl⟩
theorem list7 {α : Type} : ∀ {cs : List α}, cs.length = 7 → ∃ a b c d e f g, cs = [a, b, c, d, e, f, g]
  | [a, b, c, d, e, f, g], _ => ⟨a, b, c, d, e, f, g, rfl⟩
theorem list13 {α : Type} : ∀ {cs : List α}, cs.length = 13 → ∃ a0 a1 a2 a3 a4 a5 a6 a7 a8 a9 a10 a11 a12, cs = [a0, a1, a2, a3, a4, a5, a6, a7, a8, a9, a10, a11, a12]
  | [a0, a1, a2, a3, a4, a5, a6, a7, a8, a9, a10, a11, a12], _ => ⟨a0, a1, a2, a3, a4, a5, a6, a7, a8, a9, a10, a11, a12, rfl⟩
theorem flatAtK {α : Type} (f : α → List Value) (k : Nat) (hk : 0 < k) (hf : ∀ x, (f x).length = k) (l : List α) (x : Nat) (u : Value) (hu : (l.flatMap f)[x]? = some u) : ∃ (hj : x / k < l.length), (f l[x / k])[x % k]? = some u := by
  have hlen : (l.flatMap f).length = l.length * k := by
    clear hu
    induction l with
    | nil => simp
    | cons t l ih => rw [List.flatMap_cons, List.length_append, ih, hf, List.length_cons, Nat.succ_mul]; omega
  have hx := (List.getElem?_eq_some_iff.1 hu).1
  rw [hlen] at hx
  have hj : x / k < l.length := by rw [Nat.div_lt_iff_lt_mul hk]; exact hx
  refine ⟨hj, ?_⟩
  rw [← flatGet f k hf l (x / k) (x % k) hj (Nat.mod_lt _ hk), Nat.div_add_mod' x k]
  exact hu

section
variable {H : Type} {enc : TypeId × Value → H} {w : World} {base : Nat} {spare : Nat → Bool} {held : Bool}
theorem intsS_of_trod {fuel : Nat} {v : Value} {x : DataW H × List MemPlace} (h : DataW.trod enc Tryz.prog w base spare held fuel 22 [v] = some x) :
    ∃ (s : List Int) (A : Option Addr) (c : Nat), v = .slice A s.length c ∧ IntsAt w w.heap.size v s := by
  rcases open_slice1 Tryz.underlying22 (by kernel_rfl) h with ⟨hcs, -⟩ | ⟨a, len, cap, m, n, V, D, Pl, hcs, _, hl, hm, hmm, -, hi⟩
  · obtain rfl : v = .slice none 0 0 := by simpa using hcs
    exact ⟨[], none, 0, rfl, none, 0, rfl, Nat.le_refl _, Nat.zero_le _, fun h => absurd h (by simp)⟩
  · obtain rfl : v = .slice (some a) len cap := by simpa using hcs
    have hle : len ≤ m := by rw [hmm]; split <;> omega
    have each : ∀ i, i < len → ∃ z : Int, w.cell? (a.add i) = some (.int .i64 z) := fun i hil => by
      obtain ⟨h1, h2⟩ := hi i (by omega)
      obtain ⟨z, hz, -⟩ := int_of_trod h2
      exact ⟨z, by rw [h1, hz]⟩
    obtain ⟨Z, hZ⟩ := choose_lt each
    have hL : ((List.range len).map Z).length = len := by simp
    refine ⟨(List.range len).map Z, some a, cap, by rw [hL], some a, cap, by rw [hL], by rw [hL]; exact hl, hm, fun hn => ?_⟩
    rw [hL] at hn
    obtain ⟨b, off, sp⟩ := a
    have h0 := hZ 0 hn
    obtain rfl := spot_none h0
    have hlt : b < w.heap.size := by simpa [add_none] using cell_lt h0
    refine ⟨b, off, rfl, hlt, fun j u hu => ?_⟩
    rw [List.getElem?_map, Option.map_eq_some_iff] at hu
    obtain ⟨z, hz, rfl⟩ := hu
    have hj : j < len := by have := (List.getElem?_eq_some_iff.1 hz).1; simpa using this
    have hz' : Z j = z := by simpa [hj] using hz
    have := hZ j hj
    rw [add_none, hz'] at this
    exact this
instance : Inhabited ItemT := ⟨⟨⟨#[]⟩, 0, 0, 0, 0, 0, 0⟩⟩
theorem items_of_trod {fuel : Nat} {v : Value} {x : DataW H × List MemPlace} (h : DataW.trod enc Tryz.prog w base spare held fuel 23 [v] = some x) :
    ∃ (l : List ItemT) (A : Option Addr) (c : Nat), v = .slice A l.length c ∧ Flat w w.heap.size v l.length (l.flatMap ItemT.cells) ∧ ∀ t ∈ l, t.name.size ≤ maxLen := by
  rcases open_slice Tryz.underlying23 h with ⟨hcs, -⟩ | ⟨a, len, cap, m, n, D, Pl, hcs, _, hl, hm, hmm, -, hi⟩
  · obtain rfl : v = .slice none 0 0 := by simpa using hcs
    exact ⟨[], none, 0, rfl, ⟨none, 0, rfl, Nat.le_refl _, Nat.zero_le _, fun h => absurd h (by simp)⟩, by simp⟩
  · obtain rfl : v = .slice (some a) len cap := by simpa using hcs
    have hle : len ≤ m := by rw [hmm]; split <;> omega
    have hC : Tryz.prog.cellsOf 57 = 7 := by kernel_rfl
    rw [hC] at hi
    have each : ∀ i, i < len → ∃ t : ItemT, (∀ k u, t.cells[k]? = some u → w.cell? (a.add (i * 7 + k)) = some u) ∧ t.name.size ≤ maxLen := fun i hil => by
      obtain ⟨cs, hc, ht⟩ := hi i (by omega)
      obtain ⟨ys, n', hn', hy, hlen, hyl, hf⟩ := DataW.trod_struct Tryz.underlying57 ht
      obtain ⟨_, hcl, hat⟩ := World.cells?_some hc
      obtain ⟨c0, c1, c2, c3, c4, c5, c6, rfl⟩ := list7 hcl
      obtain ⟨y0, y1, y2, y3, y4, y5, y6, rfl⟩ := list7 hyl
      have g0 : DataW.trod enc Tryz.prog w base spare held n' 9 (List.take (Tryz.prog.cellsOf 9) (List.drop 0 [c0, c1, c2, c3, c4, c5, c6])) = some y0 := hf 0 _ rfl
      have g1 : DataW.trod enc Tryz.prog w base spare held n' 3 (List.take (Tryz.prog.cellsOf 3) (List.drop 1 [c0, c1, c2, c3, c4, c5, c6])) = some y1 := hf 1 _ rfl
      have g2 : DataW.trod enc Tryz.prog w base spare held n' 3 (List.take (Tryz.prog.cellsOf 3) (List.drop 2 [c0, c1, c2, c3, c4, c5, c6])) = some y2 := hf 2 _ rfl
      have g3 : DataW.trod enc Tryz.prog w base spare held n' 3 (List.take (Tryz.prog.cellsOf 3) (List.drop 3 [c0, c1, c2, c3, c4, c5, c6])) = some y3 := hf 3 _ rfl
      have g4 : DataW.trod enc Tryz.prog w base spare held n' 3 (List.take (Tryz.prog.cellsOf 3) (List.drop 4 [c0, c1, c2, c3, c4, c5, c6])) = some y4 := hf 4 _ rfl
      have g5 : DataW.trod enc Tryz.prog w base spare held n' 3 (List.take (Tryz.prog.cellsOf 3) (List.drop 5 [c0, c1, c2, c3, c4, c5, c6])) = some y5 := hf 5 _ rfl
      have g6 : DataW.trod enc Tryz.prog w base spare held n' 3 (List.take (Tryz.prog.cellsOf 3) (List.drop 6 [c0, c1, c2, c3, c4, c5, c6])) = some y6 := hf 6 _ rfl
      rw [show Tryz.prog.cellsOf 9 = 1 from by kernel_rfl] at g0
      rw [show Tryz.prog.cellsOf 3 = 1 from by kernel_rfl] at g1
      rw [show Tryz.prog.cellsOf 3 = 1 from by kernel_rfl] at g2
      rw [show Tryz.prog.cellsOf 3 = 1 from by kernel_rfl] at g3
      rw [show Tryz.prog.cellsOf 3 = 1 from by kernel_rfl] at g4
      rw [show Tryz.prog.cellsOf 3 = 1 from by kernel_rfl] at g5
      rw [show Tryz.prog.cellsOf 3 = 1 from by kernel_rfl] at g6
      obtain ⟨f0, rfl, hnm⟩ := str_of_trod (v := c0) g0
      obtain ⟨f1, rfl, -⟩ := int_of_trod (v := c1) g1
      obtain ⟨f2, rfl, -⟩ := int_of_trod (v := c2) g2
      obtain ⟨f3, rfl, -⟩ := int_of_trod (v := c3) g3
      obtain ⟨f4, rfl, -⟩ := int_of_trod (v := c4) g4
      obtain ⟨f5, rfl, -⟩ := int_of_trod (v := c5) g5
      obtain ⟨f6, rfl, -⟩ := int_of_trod (v := c6) g6
      refine ⟨⟨f0, f1, f2, f3, f4, f5, f6⟩, fun k u hk => ?_, hnm⟩
      have hk5 : k < 7 := (List.getElem?_eq_some_iff.1 hk).1
      rw [← add_add, hat k hk5]
      exact hk
    obtain ⟨T, hT⟩ := choose_lt each
    have hL : ((List.range len).map T).length = len := by simp
    refine ⟨(List.range len).map T, some a, cap, by rw [hL], ⟨some a, cap, by rw [hL], by rw [hL]; exact hl, hm, fun hn => ?_⟩, fun t ht => ?_⟩
    · rw [hL] at hn
      obtain ⟨b, off, sp⟩ := a
      have h0 := (hT 0 hn).1 0 _ rfl
      obtain rfl := spot_none h0
      have hlt : b < w.heap.size := by simpa [add_none] using cell_lt h0
      refine ⟨b, off, rfl, hlt, fun j u hu => ?_⟩
      obtain ⟨hj, hu'⟩ := flatAtK ItemT.cells 7 (by decide) (fun _ => rfl) _ _ _ hu
      rw [hL] at hj
      have := (hT _ hj).1 (j % 7) u (by simpa using hu')
      rw [add_none, Nat.div_add_mod' j 7] at this
      exact this
    · simp only [List.mem_map, List.mem_range] at ht
      obtain ⟨i, hi, rfl⟩ := ht
      exact (hT i hi).2
instance : Inhabited BrickT := ⟨⟨⟨#[]⟩, 0, 0⟩⟩
theorem bricks_of_trod {fuel : Nat} {v : Value} {x : DataW H × List MemPlace} (h : DataW.trod enc Tryz.prog w base spare held fuel 24 [v] = some x) :
    ∃ (l : List BrickT) (A : Option Addr) (c : Nat), v = .slice A l.length c ∧ Flat w w.heap.size v l.length (l.flatMap BrickT.cells) ∧ ∀ t ∈ l, t.name.size ≤ maxLen := by
  rcases open_slice Tryz.underlying24 h with ⟨hcs, -⟩ | ⟨a, len, cap, m, n, D, Pl, hcs, _, hl, hm, hmm, -, hi⟩
  · obtain rfl : v = .slice none 0 0 := by simpa using hcs
    exact ⟨[], none, 0, rfl, ⟨none, 0, rfl, Nat.le_refl _, Nat.zero_le _, fun h => absurd h (by simp)⟩, by simp⟩
  · obtain rfl : v = .slice (some a) len cap := by simpa using hcs
    have hle : len ≤ m := by rw [hmm]; split <;> omega
    have hC : Tryz.prog.cellsOf 88 = 3 := by kernel_rfl
    rw [hC] at hi
    have each : ∀ i, i < len → ∃ t : BrickT, (∀ k u, t.cells[k]? = some u → w.cell? (a.add (i * 3 + k)) = some u) ∧ t.name.size ≤ maxLen := fun i hil => by
      obtain ⟨cs, hc, ht⟩ := hi i (by omega)
      obtain ⟨ys, n', hn', hy, hlen, hyl, hf⟩ := DataW.trod_struct Tryz.underlying88 ht
      obtain ⟨_, hcl, hat⟩ := World.cells?_some hc
      obtain ⟨c0, c1, c2, rfl⟩ := list3 hcl
      obtain ⟨y0, y1, y2, rfl⟩ := list3 hyl
      have g0 : DataW.trod enc Tryz.prog w base spare held n' 9 (List.take (Tryz.prog.cellsOf 9) (List.drop 0 [c0, c1, c2])) = some y0 := hf 0 _ rfl
      have g1 : DataW.trod enc Tryz.prog w base spare held n' 3 (List.take (Tryz.prog.cellsOf 3) (List.drop 1 [c0, c1, c2])) = some y1 := hf 1 _ rfl
      have g2 : DataW.trod enc Tryz.prog w base spare held n' 3 (List.take (Tryz.prog.cellsOf 3) (List.drop 2 [c0, c1, c2])) = some y2 := hf 2 _ rfl
      rw [show Tryz.prog.cellsOf 9 = 1 from by kernel_rfl] at g0
      rw [show Tryz.prog.cellsOf 3 = 1 from by kernel_rfl] at g1
      rw [show Tryz.prog.cellsOf 3 = 1 from by kernel_rfl] at g2
      obtain ⟨f0, rfl, hnm⟩ := str_of_trod (v := c0) g0
      obtain ⟨f1, rfl, -⟩ := int_of_trod (v := c1) g1
      obtain ⟨f2, rfl, -⟩ := int_of_trod (v := c2) g2
      refine ⟨⟨f0, f1, f2⟩, fun k u hk => ?_, hnm⟩
      have hk5 : k < 3 := (List.getElem?_eq_some_iff.1 hk).1
      rw [← add_add, hat k hk5]
      exact hk
    obtain ⟨T, hT⟩ := choose_lt each
    have hL : ((List.range len).map T).length = len := by simp
    refine ⟨(List.range len).map T, some a, cap, by rw [hL], ⟨some a, cap, by rw [hL], by rw [hL]; exact hl, hm, fun hn => ?_⟩, fun t ht => ?_⟩
    · rw [hL] at hn
      obtain ⟨b, off, sp⟩ := a
      have h0 := (hT 0 hn).1 0 _ rfl
      obtain rfl := spot_none h0
      have hlt : b < w.heap.size := by simpa [add_none] using cell_lt h0
      refine ⟨b, off, rfl, hlt, fun j u hu => ?_⟩
      obtain ⟨hj, hu'⟩ := flatAtK BrickT.cells 3 (by decide) (fun _ => rfl) _ _ _ hu
      rw [hL] at hj
      have := (hT _ hj).1 (j % 3) u (by simpa using hu')
      rw [add_none, Nat.div_add_mod' j 3] at this
      exact this
    · simp only [List.mem_map, List.mem_range] at ht
      obtain ⟨i, hi, rfl⟩ := ht
      exact (hT i hi).2
theorem item_of_trod {fuel : Nat} {cs : Array Value} {x : DataW H × List MemPlace} (hlen : cs.size = 7) (h : DataW.trod enc Tryz.prog w base spare held fuel 57 (Value.agg cs).cells.toList = some x) :
    ∃ t : ItemT, Value.agg cs = t.val ∧ t.name.size ≤ maxLen := by
  obtain ⟨l⟩ := cs
  have h' : DataW.trod enc Tryz.prog w base spare held fuel 57 l = some x := h
  obtain ⟨ys, n', hn', hy, hlen', hyl, hf⟩ := DataW.trod_struct Tryz.underlying57 h'
  obtain ⟨c0, c1, c2, c3, c4, c5, c6, rfl⟩ := list7 (show l.length = 7 from hlen)
  obtain ⟨y0, y1, y2, y3, y4, y5, y6, rfl⟩ := list7 hyl
  have g0 : DataW.trod enc Tryz.prog w base spare held n' 9 (List.take (Tryz.prog.cellsOf 9) (List.drop 0 [c0, c1, c2, c3, c4, c5, c6])) = some y0 := hf 0 _ rfl
  have g1 : DataW.trod enc Tryz.prog w base spare held n' 3 (List.take (Tryz.prog.cellsOf 3) (List.drop 1 [c0, c1, c2, c3, c4, c5, c6])) = some y1 := hf 1 _ rfl
  have g2 : DataW.trod enc Tryz.prog w base spare held n' 3 (List.take (Tryz.prog.cellsOf 3) (List.drop 2 [c0, c1, c2, c3, c4, c5, c6])) = some y2 := hf 2 _ rfl
  have g3 : DataW.trod enc Tryz.prog w base spare held n' 3 (List.take (Tryz.prog.cellsOf 3) (List.drop 3 [c0, c1, c2, c3, c4, c5, c6])) = some y3 := hf 3 _ rfl
  have g4 : DataW.trod enc Tryz.prog w base spare held n' 3 (List.take (Tryz.prog.cellsOf 3) (List.drop 4 [c0, c1, c2, c3, c4, c5, c6])) = some y4 := hf 4 _ rfl
  have g5 : DataW.trod enc Tryz.prog w base spare held n' 3 (List.take (Tryz.prog.cellsOf 3) (List.drop 5 [c0, c1, c2, c3, c4, c5, c6])) = some y5 := hf 5 _ rfl
  have g6 : DataW.trod enc Tryz.prog w base spare held n' 3 (List.take (Tryz.prog.cellsOf 3) (List.drop 6 [c0, c1, c2, c3, c4, c5, c6])) = some y6 := hf 6 _ rfl
  rw [show Tryz.prog.cellsOf 9 = 1 from by kernel_rfl] at g0
  rw [show Tryz.prog.cellsOf 3 = 1 from by kernel_rfl] at g1
  rw [show Tryz.prog.cellsOf 3 = 1 from by kernel_rfl] at g2
  rw [show Tryz.prog.cellsOf 3 = 1 from by kernel_rfl] at g3
  rw [show Tryz.prog.cellsOf 3 = 1 from by kernel_rfl] at g4
  rw [show Tryz.prog.cellsOf 3 = 1 from by kernel_rfl] at g5
  rw [show Tryz.prog.cellsOf 3 = 1 from by kernel_rfl] at g6
  obtain ⟨f0, rfl, hnm⟩ := str_of_trod (v := c0) g0
  obtain ⟨f1, rfl, -⟩ := int_of_trod (v := c1) g1
  obtain ⟨f2, rfl, -⟩ := int_of_trod (v := c2) g2
  obtain ⟨f3, rfl, -⟩ := int_of_trod (v := c3) g3
  obtain ⟨f4, rfl, -⟩ := int_of_trod (v := c4) g4
  obtain ⟨f5, rfl, -⟩ := int_of_trod (v := c5) g5
  obtain ⟨f6, rfl, -⟩ := int_of_trod (v := c6) g6
  exact ⟨⟨f0, f1, f2, f3, f4, f5, f6⟩, rfl, hnm⟩
theorem set_of_trod {fuel : Nat} {cs : List Value} {x : DataW H × List MemPlace} (hlen : cs.length = 13) (h : DataW.trod enc Tryz.prog w base spare held fuel 26 cs = some x) :
    ∃ s, SetAt w w.heap.size (.agg cs.toArray) s ∧ SetNames s := by
  obtain ⟨ys, n', hn', hy, hlen', hyl, hf⟩ := DataW.trod_struct Tryz.underlying26 h
  obtain ⟨c0, c1, c2, c3, c4, c5, c6, c7, c8, c9, c10, c11, c12, rfl⟩ := list13 hlen
  obtain ⟨y0, y1, y2, y3, y4, y5, y6, y7, y8, y9, y10, y11, y12, rfl⟩ := list13 hyl
  have g0 : DataW.trod enc Tryz.prog w base spare held n' 9 (List.take (Tryz.prog.cellsOf 9) (List.drop 0 [c0, c1, c2, c3, c4, c5, c6, c7, c8, c9, c10, c11, c12])) = some y0 := hf 0 _ rfl
  have g1 : DataW.trod enc Tryz.prog w base spare held n' 3 (List.take (Tryz.prog.cellsOf 3) (List.drop 1 [c0, c1, c2, c3, c4, c5, c6, c7, c8, c9, c10, c11, c12])) = some y1 := hf 1 _ rfl
  have g2 : DataW.trod enc Tryz.prog w base spare held n' 3 (List.take (Tryz.prog.cellsOf 3) (List.drop 2 [c0, c1, c2, c3, c4, c5, c6, c7, c8, c9, c10, c11, c12])) = some y2 := hf 2 _ rfl
  have g3 : DataW.trod enc Tryz.prog w base spare held n' 3 (List.take (Tryz.prog.cellsOf 3) (List.drop 3 [c0, c1, c2, c3, c4, c5, c6, c7, c8, c9, c10, c11, c12])) = some y3 := hf 3 _ rfl
  have g4 : DataW.trod enc Tryz.prog w base spare held n' 3 (List.take (Tryz.prog.cellsOf 3) (List.drop 4 [c0, c1, c2, c3, c4, c5, c6, c7, c8, c9, c10, c11, c12])) = some y4 := hf 4 _ rfl
  have g5 : DataW.trod enc Tryz.prog w base spare held n' 22 (List.take (Tryz.prog.cellsOf 22) (List.drop 5 [c0, c1, c2, c3, c4, c5, c6, c7, c8, c9, c10, c11, c12])) = some y5 := hf 5 _ rfl
  have g6 : DataW.trod enc Tryz.prog w base spare held n' 3 (List.take (Tryz.prog.cellsOf 3) (List.drop 6 [c0, c1, c2, c3, c4, c5, c6, c7, c8, c9, c10, c11, c12])) = some y6 := hf 6 _ rfl
  have g7 : DataW.trod enc Tryz.prog w base spare held n' 3 (List.take (Tryz.prog.cellsOf 3) (List.drop 7 [c0, c1, c2, c3, c4, c5, c6, c7, c8, c9, c10, c11, c12])) = some y7 := hf 7 _ rfl
  have g8 : DataW.trod enc Tryz.prog w base spare held n' 3 (List.take (Tryz.prog.cellsOf 3) (List.drop 8 [c0, c1, c2, c3, c4, c5, c6, c7, c8, c9, c10, c11, c12])) = some y8 := hf 8 _ rfl
  have g9 : DataW.trod enc Tryz.prog w base spare held n' 3 (List.take (Tryz.prog.cellsOf 3) (List.drop 9 [c0, c1, c2, c3, c4, c5, c6, c7, c8, c9, c10, c11, c12])) = some y9 := hf 9 _ rfl
  have g10 : DataW.trod enc Tryz.prog w base spare held n' 3 (List.take (Tryz.prog.cellsOf 3) (List.drop 10 [c0, c1, c2, c3, c4, c5, c6, c7, c8, c9, c10, c11, c12])) = some y10 := hf 10 _ rfl
  have g11 : DataW.trod enc Tryz.prog w base spare held n' 23 (List.take (Tryz.prog.cellsOf 23) (List.drop 11 [c0, c1, c2, c3, c4, c5, c6, c7, c8, c9, c10, c11, c12])) = some y11 := hf 11 _ rfl
  have g12 : DataW.trod enc Tryz.prog w base spare held n' 24 (List.take (Tryz.prog.cellsOf 24) (List.drop 12 [c0, c1, c2, c3, c4, c5, c6, c7, c8, c9, c10, c11, c12])) = some y12 := hf 12 _ rfl
  rw [show Tryz.prog.cellsOf 9 = 1 from by kernel_rfl] at g0
  rw [show Tryz.prog.cellsOf 3 = 1 from by kernel_rfl] at g1
  rw [show Tryz.prog.cellsOf 3 = 1 from by kernel_rfl] at g2
  rw [show Tryz.prog.cellsOf 3 = 1 from by kernel_rfl] at g3
  rw [show Tryz.prog.cellsOf 3 = 1 from by kernel_rfl] at g4
  rw [show Tryz.prog.cellsOf 22 = 1 from by kernel_rfl] at g5
  rw [show Tryz.prog.cellsOf 3 = 1 from by kernel_rfl] at g6
  rw [show Tryz.prog.cellsOf 3 = 1 from by kernel_rfl] at g7
  rw [show Tryz.prog.cellsOf 3 = 1 from by kernel_rfl] at g8
  rw [show Tryz.prog.cellsOf 3 = 1 from by kernel_rfl] at g9
  rw [show Tryz.prog.cellsOf 3 = 1 from by kernel_rfl] at g10
  rw [show Tryz.prog.cellsOf 23 = 1 from by kernel_rfl] at g11
  rw [show Tryz.prog.cellsOf 24 = 1 from by kernel_rfl] at g12
  obtain ⟨f0, rfl, hnm⟩ := str_of_trod (v := c0) g0
  obtain ⟨f1, rfl, -⟩ := int_of_trod (v := c1) g1
  obtain ⟨f2, rfl, -⟩ := int_of_trod (v := c2) g2
  obtain ⟨f3, rfl, -⟩ := int_of_trod (v := c3) g3
  obtain ⟨f4, rfl, -⟩ := int_of_trod (v := c4) g4
  obtain ⟨f5, Al, cl, rfl, hL⟩ := intsS_of_trod (v := c5) g5
  obtain ⟨f6, rfl, -⟩ := int_of_trod (v := c6) g6
  obtain ⟨f7, rfl, -⟩ := int_of_trod (v := c7) g7
  obtain ⟨f8, rfl, -⟩ := int_of_trod (v := c8) g8
  obtain ⟨f9, rfl, -⟩ := int_of_trod (v := c9) g9
  obtain ⟨f10, rfl, -⟩ := int_of_trod (v := c10) g10
  obtain ⟨f11, Ai, ci, rfl, hI, hIn⟩ := items_of_trod (v := c11) g11
  obtain ⟨f12, Ab, cb, rfl, hB, hBn⟩ := bricks_of_trod (v := c12) g12
  exact ⟨⟨f0, f1, f2, f3, f4, f5, f6, f7, f8, f9, f10, f11, f12⟩, ⟨Al, cl, Ai, ci, Ab, cb, rfl, hL, hI, hB⟩, ⟨hnm, hIn, hBn⟩⟩
end
end Go.Proofs.YtpnongeibpkbhaaGreatDoor

/- LinesetEasier: for every input the law returns true, and its arguments read as they did. The listed tables of Go's library are never read. -/
namespace Go.Proofs.YtpnongeibpkbhaaGreatDoor
open Go.ChangeShapes Go.WideShapes Go.ChangeAt Go.RowKit

theorem linesetEasier_u16 {y : Int} (h : (Lit.int .u16 y).wf = true) : 0 ≤ y ∧ y ≤ 65535 := by
  simp [Lit.wf, IntKind.min, IntKind.max, IntKind.signed, IntKind.bits] at h
  omega
theorem linesetEasier_door (os : Os) (args : Array Value) : laidMetH Tryz.prog Rows.linesetEasierRow.laid ((World.doorLaid Tryz.prog 400 os).forCall (fun _ _ => 0) ⟨#[], args, []⟩).memory :=
  laidMetH_of_parts3 (fuel := 8) (laidMet_of_run' 8 (by kernel_rfl) (by kernel_rfl)) (by kernel_rfl) (by kernel_rfl)
set_option maxRecDepth 100000 in
theorem linesetEasier_lifted (os : Os) (started : os.Started) (H : Type) (enc : TypeId × Value → H) :
    ReturnsInHanded {} Tryz.checked os 4 .any (fun w args => (Rows.linesetEasierSpec.pre enc Tryz.prog Tryz.f4 [] false w args ∧ laidMetH Tryz.prog Rows.linesetEasierRow.laid w) ∧ sizedMet enc Tryz.prog Tryz.f4 (OpenSpec.ofChange Rows.linesetEasierSpec) false w args) (Rows.linesetEasierSpec.post enc Tryz.prog Tryz.f4 false true false false) := by
  refine law_liftedL started (by kernel_rfl) Tryz.func4 rfl (by kernel_rfl) ?_ ?_ (ChangeSpec.witness_shaped (enc := enc) (C := Tryz.checked) (os := os) (X := fun w _ => laidMetH Tryz.prog Rows.linesetEasierRow.laid w) false (World.doorLaid Tryz.prog 400 os) #[.agg #[.string ⟨#[]⟩, .int .i64 0, .int .i64 0, .int .i64 0, .int .i64 0, .slice none 0 0, .int .i64 0, .int .i64 0, .int .i64 0, .int .i64 0, .int .i64 0, .slice none 0 0, .slice none 0 0], .int .u16 0] 8 rfl (World.shaped_of_RefB (by kernel_rfl) (by kernel_rfl)) (by kernel_rfl) (by kernel_rfl) (by kernel_rfl) (linesetEasier_door os _)) ?_
  · rw [Tryz.params4]
    intro t ht
    simp only [List.mem_cons, List.not_mem_nil, or_false] at ht
    rcases ht with rfl | rfl <;> exact ⟨by kernel_rfl, of_decide_eq_true (by kernel_rfl)⟩
  · intro ds hds
    match ds, hds with
    | [d0, d1], _ => exact ⟨rfl, rfl, rfl⟩
  · intro W base args ds ps hval hA
    rw [Tryz.params4] at hA hval
    obtain ⟨v0, vs0, d0, ds0, p0, q0, hargs, rfl, rfl, h0, r0⟩ := trodAll_cons hA
    obtain ⟨v1, vs1, d1, ds1, p1, q1, rfl, rfl, rfl, h1, r1⟩ := trodAll_cons r0
    obtain ⟨rfl, rfl, rfl⟩ := trodAll_nil r1
    obtain rfl : args = #[v0, v1] := by cases args; simp_all
    obtain ⟨cs0, rfl, hcs0⟩ := okWide_struct Tryz.underlying26 (hval 0 26 v0 rfl rfl)
    rw [show Tryz.prog.cellsOf 26 = 13 from by kernel_rfl] at hcs0
    obtain ⟨fuel0, hf0⟩ := h0
    obtain ⟨x0, hx0, hn0⟩ := set_of_trod (by simpa [Value.cells] using hcs0) hf0
    obtain ⟨x1, rfl, -, -, wf1⟩ := open_int Tryz.underlying47 (hval 1 47 v1 rfl rfl) h1
    exact lawEasier _ x0 x1 W (by simpa [Value.cells] using hx0) hn0 (linesetEasier_u16 wf1)
theorem linesetEasier_row : Rows.LinesetEasierSaid :=
  OpenClaim.holds_of_wide 4 Tryz.f4 rfl rfl rfl rfl rfl rfl rfl ⟨rfl, rfl, rfl, rfl, rfl⟩ rfl rfl rfl rfl rfl (by kernel_rfl) Tryz.func4 (by kernel_rfl)
    (of_decide_eq_true (by kernel_rfl)) (by unfold Func.isWrapper; first | (rw [if_pos (by decide +kernel)]; kernel_rfl) | (rw [if_neg (by decide +kernel)]; exact ⟨rfl, rfl⟩))
    (fun os started H enc _ => linesetEasier_lifted os started H enc)
theorem linesetEasier_holds : Rows.LinesetEasierCardSaid :=
  Claim7.holds_tied_plain_at .later [] [.data, .data, .data] true Rows.linesetEasierCard.stood.harness false
    linesetEasier_row (fun _ h => by cases h) (by kernel_rfl) (fun _ h => by cases h) linesetEasier_row_tie rfl ⟨rfl, rfl⟩ (by kernel_rfl) rfl
    (fun f fn hf hfn => by
      obtain rfl : f = 4 := Option.some.inj ((show Tryz.prog.funcNamed "loftblock/loftblocklaw29.LinesetEasier" = some 4 by kernel_rfl).symm.trans hf) |>.symm
      obtain rfl : fn = Tryz.f4 := (Option.some.inj (Tryz.func4.symm.trans hfn)).symm
      exact ⟨by kernel_rfl, fun j t ht => by
        rw [Tryz.params4] at ht
        have h3 : t = 26 ∨ t = 47 := by
          rcases j with _ | _ | j
          · exact .inl (by simpa using ht.symm)
          · exact .inr (by simpa using ht.symm)
          · simp at ht
        rcases h3 with rfl | rfl
        · exact (show Tryz.prog.wantsStandIn 26 = false by kernel_rfl)
        · exact (show Tryz.prog.wantsStandIn 47 = false by kernel_rfl)⟩)
    (by kernel_rfl)
#print axioms linesetEasier_holds
end Go.Proofs.YtpnongeibpkbhaaGreatDoor
