/- For every input the law returns true, and its arguments read as they did: LawFinds, Open, Row, RowL, OpenSet, RowFinds. -/
import Derived.Below
import Derived.Carry
import Derived.ChangeSame
import Derived.Deep.Fields
import Derived.Deep.Slices
import Derived.LaidMore
import Derived.OpenShut
import Derived.ProofKit
import Derived.SliceStrings
import Derived.Stop.Joined
import Derived.Test.YtpnongeibpkbhaaGreatDoorCards
import Derived.Test.YtpnongeibpkbhaaGreatDoorD1
import Derived.Test.YtpnongeibpkbhaaGreatDoorD2
import Derived.Test.YtpnongeibpkbhaaGreatDoorD6
import Derived.Test.YtpnongeibpkbhaaGreatDoorD7
import Derived.Test.YtpnongeibpkbhaaGreatDoorD8
import Derived.Test.YtpnongeibpkbhaaGreatDoorG1
import Derived.Test.YtpnongeibpkbhaaGreatDoorRows
import Derived.Test.YtpnongeibpkbhaaGreatDoorTie

/- The law LinesetFinds: the walk. -/
namespace Go.Proofs.YtpnongeibpkbhaaGreatDoor
open Go.RowKit Go.Shelf

set_option maxRecDepth 100000 in
set_option maxHeartbeats 4000000 in
theorem lawFinds (v : Value) (s : SetT) (w : World) (hv : SetAt w w.heap.size v s) (hn : SetNames s) :
    Calls Tryz.prog 3 #[v] w fun e w' => e = .returned (.bool true) ∧ Below w.heap.size w w' := by
  have HSA : Hid (∀ W, Below w.heap.size w W → SetAt W W.heap.size v s) := fun W hb => (hv.below hb (Nat.le_refl _)).mono hb.size
  have HN := Lib.hid hn
  obtain ⟨Al, cl, Ai, ci, Ab, cb, rfl, -, -, -⟩ := hv
  have HD := Lib.hid (Blk.new w 26 #[.string s.name, .int .i64 s.depth, .int .i64 s.low, .int .i64 s.high, .int .i64 s.len, .slice Al s.lines.length cl, .int .i64 s.pipe, .int .i64 s.arbor, .int .i64 s.purch, .int .i64 s.most, .int .i64 s.brake, .slice Ai s.items.length ci, .slice Ab s.bricks.length cb])
  have HB1 := Lib.hid ((Below.refl _ w).alloc (Nat.le_refl _) (.cells #[.string s.name, .int .i64 s.depth, .int .i64 s.low, .int .i64 s.high, .int .i64 s.len, .slice Al s.lines.length cl, .int .i64 s.pipe, .int .i64 s.arbor, .int .i64 s.purch, .int .i64 s.most, .int .i64 s.brake, .slice Ai s.items.length ci, .slice Ab s.bricks.length cb] 26))
  clear hn
  unfold setVal at *
  go_enter Tryz.func3, Tryz.ntmps3
  go_wp2_with fail
  generalize w.alloc (.cells #[.string s.name, .int .i64 s.depth, .int .i64 s.low, .int .i64 s.high, .int .i64 s.len, .slice Al s.lines.length cl, .int .i64 s.pipe, .int .i64 s.arbor, .int .i64 s.purch, .int .i64 s.most, .int .i64 s.brake, .slice Ai s.items.length ci, .slice Ab s.bricks.length cb] 26) = W1 at *
  refine (lawAwake29 _).mono ?_
  rintro e w2 ⟨rfl, hb2⟩
  have HB2 := Lib.hid (HB1.out.trans (hb2.mono HB1.out.size))
  have HD2 := Lib.hid (HD.out.below hb2 HD.out.lt)
  have z0 := HD2.out.cell 0
  have z1 := HD2.out.cell 1
  have z2 := HD2.out.cell 2
  have z3 := HD2.out.cell 3
  have z4 := HD2.out.cell 4
  have z5 := HD2.out.cell 5
  have z6 := HD2.out.cell 6
  have z7 := HD2.out.cell 7
  have z8 := HD2.out.cell 8
  have z9 := HD2.out.cell 9
  have z10 := HD2.out.cell 10
  have z11 := HD2.out.cell 11
  have z12 := HD2.out.cell 12
  simp only [List.getElem?_toArray, List.getElem?_cons_succ, List.getElem?_cons_zero] at z0 z1 z2 z3 z4 z5 z6 z7 z8 z9 z10 z11 z12
  clear hb2 HB1 HD
  go_wp2_with fail
  refine (lawLarge29 _ s _ (HSA.out _ HB2.out) HN.out).mono ?_
  rintro e w3 ⟨q, rfl, hb3⟩
  have HB3 := Lib.hid (HB2.out.trans (hb3.mono HB2.out.size))
  have HD3 := Lib.hid (HD2.out.below hb3 HD2.out.lt)
  clear z0 z1 z2 z3 z4 z5 z6 z7 z8 z9 z10 z11 z12
  have z0 := HD3.out.cell 0
  have z1 := HD3.out.cell 1
  have z2 := HD3.out.cell 2
  have z3 := HD3.out.cell 3
  have z4 := HD3.out.cell 4
  have z5 := HD3.out.cell 5
  have z6 := HD3.out.cell 6
  have z7 := HD3.out.cell 7
  have z8 := HD3.out.cell 8
  have z9 := HD3.out.cell 9
  have z10 := HD3.out.cell 10
  have z11 := HD3.out.cell 11
  have z12 := HD3.out.cell 12
  simp only [List.getElem?_toArray, List.getElem?_cons_succ, List.getElem?_cons_zero] at z0 z1 z2 z3 z4 z5 z6 z7 z8 z9 z10 z11 z12
  clear hb3 HB2 HD2
  cases q with
  | true =>
    go_wp2_with fail
    go_ret
    exact ⟨rfl, HB3.out⟩
  | false =>
    go_wp2_with fail
    refine (lsCheck _ s _ (HSA.out _ HB3.out) HN.out).mono ?_
    rintro e w4 ⟨hb4, hC⟩
    have HB4 := Lib.hid (HB3.out.trans (hb4.mono HB3.out.size))
    have HD4 := Lib.hid (HD3.out.below hb4 HD3.out.lt)
    clear z0 z1 z2 z3 z4 z5 z6 z7 z8 z9 z10 z11 z12
    have z0 := HD4.out.cell 0
    have z1 := HD4.out.cell 1
    have z2 := HD4.out.cell 2
    have z3 := HD4.out.cell 3
    have z4 := HD4.out.cell 4
    have z5 := HD4.out.cell 5
    have z6 := HD4.out.cell 6
    have z7 := HD4.out.cell 7
    have z8 := HD4.out.cell 8
    have z9 := HD4.out.cell 9
    have z10 := HD4.out.cell 10
    have z11 := HD4.out.cell 11
    have z12 := HD4.out.cell 12
    simp only [List.getElem?_toArray, List.getElem?_cons_succ, List.getElem?_cons_zero] at z0 z1 z2 z3 z4 z5 z6 z7 z8 z9 z10 z11 z12
    clear hb4 HB3 HD3
    rcases hC with ⟨hE, u, rfl, hF⟩ | ⟨hE, rfl⟩
    rotate_left
    · have hk1 : (linesErr s == 0) = false := beq_eq_false_iff_ne.2 hE
      have hk2 : (linesErr s != 0) = true := bne_iff_ne.2 hE
      have hLi := batLinesT _ s _ (HSA.out _ HB4.out) HN.out
      go_wp2_with fail
      refine hLi.mono ?_
      rintro e w5 ⟨hb5, ⟨hE2, -⟩ | ⟨-, rfl⟩⟩
      · exact absurd hE2 hE
      have HB5 := Lib.hid (HB4.out.trans (hb5.mono HB4.out.size))
      have HD5 := Lib.hid (HD4.out.below hb5 HD4.out.lt)
      clear z0 z1 z2 z3 z4 z5 z6 z7 z8 z9 z10 z11 z12
      have z0 := HD5.out.cell 0
      have z1 := HD5.out.cell 1
      have z2 := HD5.out.cell 2
      have z3 := HD5.out.cell 3
      have z4 := HD5.out.cell 4
      have z5 := HD5.out.cell 5
      have z6 := HD5.out.cell 6
      have z7 := HD5.out.cell 7
      have z8 := HD5.out.cell 8
      have z9 := HD5.out.cell 9
      have z10 := HD5.out.cell 10
      have z11 := HD5.out.cell 11
      have z12 := HD5.out.cell 12
      simp only [List.getElem?_toArray, List.getElem?_cons_succ, List.getElem?_cons_zero] at z0 z1 z2 z3 z4 z5 z6 z7 z8 z9 z10 z11 z12
      clear hb5 HB4 HD4 hLi hE
      have hHo := arbHolds _ s _ (HSA.out _ HB5.out) HN.out
      have hH2 : ∃ b k, (if setB s = true then Value.tuple #[.bool (holdsB s), .int .i64 0] else .tuple #[.bool false, .int .i64 1]) = .tuple #[.bool b, .int .i64 k] := by
        split
        · exact ⟨_, _, rfl⟩
        · exact ⟨_, _, rfl⟩
      obtain ⟨b, k2, hH2⟩ := hH2
      rw [hH2] at hHo
      clear hH2
      generalize linesErr s = k at *
      go_wp2_with fail
      refine hHo.mono ?_
      rintro e w6 ⟨rfl, hb6⟩
      have HB6 := Lib.hid (HB5.out.trans (hb6.mono HB5.out.size))
      clear hHo hb6
      go_wp2_with fail
      go_ret
      exact ⟨rfl, HB6.out⟩
    obtain ⟨hok, hgood, h12⟩ := lines_good hE
    have hm := (setB_ok hok).most
    have HG := Lib.hid hgood
    have H0 := Lib.hid hE
    obtain ⟨A, c, rfl, -⟩ := hF.open_
    have HF4 := Lib.hid hF
    have hLi := batLinesT _ s _ (HSA.out _ HB4.out) HN.out
    clear hgood hE hF
    go_wp2_with fail
    refine hLi.mono ?_
    rintro e w5 ⟨hb5, ⟨-, u2, rfl, hL5⟩ | ⟨hE2, -⟩⟩
    rotate_left
    · exact absurd H0.out hE2
    have HB5 := Lib.hid (HB4.out.trans (hb5.mono HB4.out.size))
    have HD5 := Lib.hid (HD4.out.below hb5 HD4.out.lt)
    have HF5 := Lib.hid ((HF4.out.below hb5 (Nat.le_refl _)).mono hb5.size)
    have HL5 := Lib.hid hL5
    clear z0 z1 z2 z3 z4 z5 z6 z7 z8 z9 z10 z11 z12
    have z0 := HD5.out.cell 0
    have z1 := HD5.out.cell 1
    have z2 := HD5.out.cell 2
    have z3 := HD5.out.cell 3
    have z4 := HD5.out.cell 4
    have z5 := HD5.out.cell 5
    have z6 := HD5.out.cell 6
    have z7 := HD5.out.cell 7
    have z8 := HD5.out.cell 8
    have z9 := HD5.out.cell 9
    have z10 := HD5.out.cell 10
    have z11 := HD5.out.cell 11
    have z12 := HD5.out.cell 12
    simp only [List.getElem?_toArray, List.getElem?_cons_succ, List.getElem?_cons_zero] at z0 z1 z2 z3 z4 z5 z6 z7 z8 z9 z10 z11 z12
    clear hb5 HB4 HD4 hLi HF4 hL5
    have hHo := arbHolds _ s _ (HSA.out _ HB5.out) HN.out
    rw [if_pos hok] at hHo
    obtain ⟨A2, c2, rfl, hc1, hc2, -⟩ := HL5.out.open_
    unfold maxLen at hc2
    go_wp2_with fail
    refine hHo.mono ?_
    rintro e w6 ⟨rfl, hb6⟩
    have HB6 := Lib.hid (HB5.out.trans (hb6.mono HB5.out.size))
    have HD6 := Lib.hid (HD5.out.below hb6 HD5.out.lt)
    have HF6 := Lib.hid ((HF5.out.below hb6 (Nat.le_refl _)).mono hb6.size)
    have HL6 := Lib.hid ((HL5.out.below hb6 (Nat.le_refl _)).mono hb6.size)
    clear z0 z1 z2 z3 z4 z5 z6 z7 z8 z9 z10 z11 z12
    clear hb6 HB5 HD5 HF5 HL5 hHo
    have hlen := finds_len H0.out
    have hone := finds_one s
    have HCn : Hid (cntN s = (if holdsB s then 0 else 1) + badTo s.most (linesL s) (linesL s).length) := rfl
    have HLen := Lib.hid hlen
    have HOne := Lib.hid hone
    have hl12 : (linesL s).length ≤ 12 := h12
    clear hlen hone hok
    have hDl : w.heap.size < w6.heap.size := HD6.out.lt
    have hm9 : Hid (w6.cell? ⟨w.heap.size, 9, none⟩ = some (.int .i64 s.most)) := HD6.out.cell 9
    obtain ⟨_, _, e, _, _, hLc⟩ := HL6.out.open_
    injection e with e1 _ e2
    subst e1 e2
    have HLc := Lib.hid hLc
    clear hLc
    cases hh : holdsB s with
    | true =>
      rw [hh] at HCn HOne
      obtain ⟨C0, hC0⟩ : ∃ C0 : Int, C0 = 0 := ⟨_, rfl⟩
      have HC0 := Lib.hid hC0
      clear hh hC0
      have heq : Hid ((((findsL s).length : Int) == C0 + ((badTo s.most (linesL s) (linesL s).length : Nat) : Int)) = true) := by
        unfold Hid
        rw [beq_iff_eq, HLen.out, HCn.out, HC0.out]
        simp
      have hacc : Hid ((accB s == ((C0 + ((badTo s.most (linesL s) (linesL s).length : Nat) : Int)) == 0)) = true) := by
        unfold Hid accB
        have h1 := heq.out
        rw [beq_iff_eq] at h1
        rw [H0.out, h1]
        simp
      have h100 : Hid ((findsL s).length ≤ 100) := by
        unfold Hid
        rw [HLen.out, HCn.out]
        have := bad_le s.most (linesL s) (linesL s).length
        simp
        omega
      have hidx : Hid (idxOf ((findsL s).findIdx? fun x => x.kind == 1) = -1) := by unfold Hid; rw [HOne.out]; rfl
      have hC01 : 0 ≤ C0 ∧ C0 ≤ 1 := by rw [HC0.out]; decide
      clear HCn HOne HLen
      go_wp2_with fail
      go_loopw [56, 9] (fun ix cx wr => ∃ k : Nat, k ≤ (linesL s).length ∧ ix = .int .i64 k ∧ cx = .int .i64 (C0 + ((badTo s.most (linesL s) k : Nat) : Int)) ∧ Hid (Below w6.heap.size w6 wr)) (fun ix _ _ => (linesL s).length - (intOf ix).toNat)
      case atStart => exact ⟨0, Nat.zero_le _, rfl, by rw [HC0.out]; rfl, Below.refl _ _⟩
      case round =>
        obtain ⟨k, hk, rfl, rfl, HBr⟩ := hrel
        have k0 : (0 : Int) ≤ (k : Int) := Int.natCast_nonneg _
        by_cases hkl : k < (linesL s).length
        · have k1 : (k : Int) < ((linesL s).length : Int) := by omega
          obtain ⟨b1, o1, rfl, hb1, hx⟩ := HLc.out k hkl
          have y0 := (HBr.out.cell (p := ⟨b1, o1 + k * 2, none⟩) hb1).trans (hx k hkl).1
          have y1 := (HBr.out.cell (p := ⟨b1, o1 + k * 2 + 1, none⟩) hb1).trans (hx k hkl).2
          have hbs := Lib.hid (bad_succ (m := s.most) hkl)
          have hgd := Lib.hid (HG.out _ (List.getElem_mem hkl))
          have hbl := bad_le s.most (linesL s) k
          clear hx
          generalize (linesL s)[k] = f at *
          obtain ⟨num, den⟩ := f
          simp only at y0 y1
          have hbA := HBr.out.alloc HBr.out.size (.cells #[.int .i64 num, .int .i64 den] 39)
          have q9 := (hbA.cell (p := ⟨w.heap.size, 9, none⟩) hDl).trans hm9.out
          have HBA := Lib.hid hbA
          clear hbA HBr
          have v1 : IntKind.i64.wrap (C0 + ((badTo s.most (linesL s) k : Nat) : Int) + 1) = C0 + ((badTo s.most (linesL s) k : Nat) : Int) + 1 := IntWalk.i64_in _ (by omega)
          cases hp : pushB ⟨num, den⟩ with
          | true =>
            have hp2 : decide (num < 0) = true := hp
            have hbd : badB s.most ⟨num, den⟩ = true := by unfold badB; rw [hp]; rfl
            have HS : Hid (badTo s.most (linesL s) (k + 1) = badTo s.most (linesL s) k + 1) := by unfold Hid; rw [hbs.out, if_pos hbd]
            clear hp hbd hbs
            go_wp2_with fail
            go_roundw
            case rel => exact ⟨k + 1, by omega, by go_num, by rw [HS.out, Int.natCast_add, Int.add_assoc]; rfl, HBA⟩
            case measure => simp [intOf]; omega
          | false =>
            have hp2 : decide (num < 0) = false := hp
            have hcm := fun W => refCmp ⟨num, den⟩ ⟨s.most, 1⟩ W hgd.out (good_int (by omega) (by omega)) (by show 0 ≤ s.most; omega)
            have ho : overB s.most ⟨num, den⟩ = decide (0 < cmpF ⟨num, den⟩ ⟨s.most, 1⟩) := rfl
            generalize cmpF ⟨num, den⟩ ⟨s.most, 1⟩ = cr at *
            have hbs2 := hbs.out
            unfold badB at hbs2
            rw [hp, ho, Bool.false_or] at hbs2
            have HS := Lib.hid hbs2
            have Hcm := Lib.hid hcm
            clear hp hbs ho hbs2 hcm
            cases hd : decide (0 < cr) with
            | true =>
              rw [hd] at HS
              have HS2 : Hid (badTo s.most (linesL s) (k + 1) = badTo s.most (linesL s) k + 1) := HS.out
              go_wp2_with fail
              refine (Hcm.out _).mono ?_
              rintro e w9 ⟨rfl, hb9⟩
              have HB9 := Lib.hid (HBA.out.trans (hb9.mono HBA.out.size))
              clear hb9 HBA y0 y1 q9
              go_wp2_with fail
              go_roundw
              case rel => exact ⟨k + 1, by omega, by go_num, by rw [HS2.out, Int.natCast_add, Int.add_assoc]; rfl, HB9⟩
              case measure => simp [intOf]; omega
            | false =>
              rw [hd] at HS
              have HS2 : Hid (badTo s.most (linesL s) (k + 1) = badTo s.most (linesL s) k) := HS.out
              go_wp2_with fail
              refine (Hcm.out _).mono ?_
              rintro e w9 ⟨rfl, hb9⟩
              have HB9 := Lib.hid (HBA.out.trans (hb9.mono HBA.out.size))
              clear hb9 HBA y0 y1 q9
              go_wp2_with fail
              go_roundw
              case rel => exact ⟨k + 1, by omega, by go_num, by rw [HS2.out], HB9⟩
              case measure => simp [intOf]; omega
        · obtain rfl : k = (linesL s).length := by omega
          have HF9 := Lib.hid ((HF6.out.below HBr.out (Nat.le_refl _)).mono HBr.out.size)
          have HB9 := Lib.hid (HB6.out.trans (HBr.out.mono HB6.out.size))
          have HD9 := Lib.hid (HD6.out.below HBr.out hDl)
          clear HBr
          have eg1 := entersLF1
          have eg2 := entersLF2
          have hi := indexFuncFind (.slice A (findsL s).length c) (findsL s) 13 #[] (fun x => x.kind == 1) entersLF1 wr HF9.out (fun t _ w' _ => by rw [show #[t.val] ++ #[] = #[t.val] by simp]; exact lawFinds1 t w')
          rw [hidx.out] at hi
          have he := heq.out
          have ha := hacc.out
          generalize ((badTo s.most (linesL s) (linesL s).length : Nat) : Int) = bd at *
          go_wp2_with fail
          refine hi.mono ?_
          rintro e wa ⟨rfl, hba⟩
          have HBa := Lib.hid (HB9.out.trans (hba.mono HB9.out.size))
          have HDa := Lib.hid (HD9.out.below hba HD9.out.lt)
          have HFa := Lib.hid ((HF9.out.below hba (Nat.le_refl _)).mono hba.size)
          have z0 := HDa.out.cell 0
          have z1 := HDa.out.cell 1
          have z2 := HDa.out.cell 2
          have z3 := HDa.out.cell 3
          have z4 := HDa.out.cell 4
          have z5 := HDa.out.cell 5
          have z6 := HDa.out.cell 6
          have z7 := HDa.out.cell 7
          have z8 := HDa.out.cell 8
          have z9 := HDa.out.cell 9
          have z10 := HDa.out.cell 10
          have z11 := HDa.out.cell 11
          have z12 := HDa.out.cell 12
          simp only [List.getElem?_toArray, List.getElem?_cons_succ, List.getElem?_cons_zero] at z0 z1 z2 z3 z4 z5 z6 z7 z8 z9 z10 z11 z12
          clear hi hba HF9 HB9 HD9
          have hac := lsAccepted _ s _ (HSA.out _ HBa.out) HN.out
          go_wp2_with fail
          refine hac.mono ?_
          rintro e wb ⟨rfl, hbb⟩
          have HBb := Lib.hid (HBa.out.trans (hbb.mono HBa.out.size))
          have HFb := Lib.hid ((HFa.out.below hbb (Nat.le_refl _)).mono hbb.size)
          clear z0 z1 z2 z3 z4 z5 z6 z7 z8 z9 z10 z11 z12 hbb hac HBa HFa HDa
          have hso := sortedFind (.slice A (findsL s).length c) (findsL s) 16 entersLF2 wb HFb.out h100.out (finds_kinds s) (finds_adj s) (fun x hx y hy w' => lawFinds2 x y w' (finds_kinds s x hx) (finds_kinds s y hy))
          generalize accB s = ac at *
          go_wp2_with fail
          refine hso.mono ?_
          rintro e wc ⟨rfl, hbc⟩
          have HBc := Lib.hid (HBb.out.trans (hbc.mono HBb.out.size))
          clear hso hbc
          go_wp2_with fail
          go_ret
          exact ⟨rfl, HBc.out⟩
    | false =>
      rw [hh] at HCn HOne
      obtain ⟨C0, hC0⟩ : ∃ C0 : Int, C0 = 1 := ⟨_, rfl⟩
      have HC0 := Lib.hid hC0
      clear hh hC0
      have heq : Hid ((((findsL s).length : Int) == C0 + ((badTo s.most (linesL s) (linesL s).length : Nat) : Int)) = true) := by
        unfold Hid
        rw [beq_iff_eq, HLen.out, HCn.out, HC0.out]
        simp
      have hacc : Hid ((accB s == ((C0 + ((badTo s.most (linesL s) (linesL s).length : Nat) : Int)) == 0)) = true) := by
        unfold Hid accB
        have h1 := heq.out
        rw [beq_iff_eq] at h1
        rw [H0.out, h1]
        simp
      have h100 : Hid ((findsL s).length ≤ 100) := by
        unfold Hid
        rw [HLen.out, HCn.out]
        have := bad_le s.most (linesL s) (linesL s).length
        simp
        omega
      have hidx : Hid (idxOf ((findsL s).findIdx? fun x => x.kind == 1) = 0) := by unfold Hid; rw [HOne.out]; rfl
      have hC01 : 0 ≤ C0 ∧ C0 ≤ 1 := by rw [HC0.out]; decide
      clear HCn HOne HLen
      go_wp2_with fail
      go_loopw [56, 9] (fun ix cx wr => ∃ k : Nat, k ≤ (linesL s).length ∧ ix = .int .i64 k ∧ cx = .int .i64 (C0 + ((badTo s.most (linesL s) k : Nat) : Int)) ∧ Hid (Below w6.heap.size w6 wr)) (fun ix _ _ => (linesL s).length - (intOf ix).toNat)
      case atStart => exact ⟨0, Nat.zero_le _, rfl, by rw [HC0.out]; rfl, Below.refl _ _⟩
      case round =>
        obtain ⟨k, hk, rfl, rfl, HBr⟩ := hrel
        have k0 : (0 : Int) ≤ (k : Int) := Int.natCast_nonneg _
        by_cases hkl : k < (linesL s).length
        · have k1 : (k : Int) < ((linesL s).length : Int) := by omega
          obtain ⟨b1, o1, rfl, hb1, hx⟩ := HLc.out k hkl
          have y0 := (HBr.out.cell (p := ⟨b1, o1 + k * 2, none⟩) hb1).trans (hx k hkl).1
          have y1 := (HBr.out.cell (p := ⟨b1, o1 + k * 2 + 1, none⟩) hb1).trans (hx k hkl).2
          have hbs := Lib.hid (bad_succ (m := s.most) hkl)
          have hgd := Lib.hid (HG.out _ (List.getElem_mem hkl))
          have hbl := bad_le s.most (linesL s) k
          clear hx
          generalize (linesL s)[k] = f at *
          obtain ⟨num, den⟩ := f
          simp only at y0 y1
          have hbA := HBr.out.alloc HBr.out.size (.cells #[.int .i64 num, .int .i64 den] 39)
          have q9 := (hbA.cell (p := ⟨w.heap.size, 9, none⟩) hDl).trans hm9.out
          have HBA := Lib.hid hbA
          clear hbA HBr
          have v1 : IntKind.i64.wrap (C0 + ((badTo s.most (linesL s) k : Nat) : Int) + 1) = C0 + ((badTo s.most (linesL s) k : Nat) : Int) + 1 := IntWalk.i64_in _ (by omega)
          cases hp : pushB ⟨num, den⟩ with
          | true =>
            have hp2 : decide (num < 0) = true := hp
            have hbd : badB s.most ⟨num, den⟩ = true := by unfold badB; rw [hp]; rfl
            have HS : Hid (badTo s.most (linesL s) (k + 1) = badTo s.most (linesL s) k + 1) := by unfold Hid; rw [hbs.out, if_pos hbd]
            clear hp hbd hbs
            go_wp2_with fail
            go_roundw
            case rel => exact ⟨k + 1, by omega, by go_num, by rw [HS.out, Int.natCast_add, Int.add_assoc]; rfl, HBA⟩
            case measure => simp [intOf]; omega
          | false =>
            have hp2 : decide (num < 0) = false := hp
            have hcm := fun W => refCmp ⟨num, den⟩ ⟨s.most, 1⟩ W hgd.out (good_int (by omega) (by omega)) (by show 0 ≤ s.most; omega)
            have ho : overB s.most ⟨num, den⟩ = decide (0 < cmpF ⟨num, den⟩ ⟨s.most, 1⟩) := rfl
            generalize cmpF ⟨num, den⟩ ⟨s.most, 1⟩ = cr at *
            have hbs2 := hbs.out
            unfold badB at hbs2
            rw [hp, ho, Bool.false_or] at hbs2
            have HS := Lib.hid hbs2
            have Hcm := Lib.hid hcm
            clear hp hbs ho hbs2 hcm
            cases hd : decide (0 < cr) with
            | true =>
              rw [hd] at HS
              have HS2 : Hid (badTo s.most (linesL s) (k + 1) = badTo s.most (linesL s) k + 1) := HS.out
              go_wp2_with fail
              refine (Hcm.out _).mono ?_
              rintro e w9 ⟨rfl, hb9⟩
              have HB9 := Lib.hid (HBA.out.trans (hb9.mono HBA.out.size))
              clear hb9 HBA y0 y1 q9
              go_wp2_with fail
              go_roundw
              case rel => exact ⟨k + 1, by omega, by go_num, by rw [HS2.out, Int.natCast_add, Int.add_assoc]; rfl, HB9⟩
              case measure => simp [intOf]; omega
            | false =>
              rw [hd] at HS
              have HS2 : Hid (badTo s.most (linesL s) (k + 1) = badTo s.most (linesL s) k) := HS.out
              go_wp2_with fail
              refine (Hcm.out _).mono ?_
              rintro e w9 ⟨rfl, hb9⟩
              have HB9 := Lib.hid (HBA.out.trans (hb9.mono HBA.out.size))
              clear hb9 HBA y0 y1 q9
              go_wp2_with fail
              go_roundw
              case rel => exact ⟨k + 1, by omega, by go_num, by rw [HS2.out], HB9⟩
              case measure => simp [intOf]; omega
        · obtain rfl : k = (linesL s).length := by omega
          have HF9 := Lib.hid ((HF6.out.below HBr.out (Nat.le_refl _)).mono HBr.out.size)
          have HB9 := Lib.hid (HB6.out.trans (HBr.out.mono HB6.out.size))
          have HD9 := Lib.hid (HD6.out.below HBr.out hDl)
          clear HBr
          have eg1 := entersLF1
          have eg2 := entersLF2
          have hi := indexFuncFind (.slice A (findsL s).length c) (findsL s) 13 #[] (fun x => x.kind == 1) entersLF1 wr HF9.out (fun t _ w' _ => by rw [show #[t.val] ++ #[] = #[t.val] by simp]; exact lawFinds1 t w')
          rw [hidx.out] at hi
          have he := heq.out
          have ha := hacc.out
          generalize ((badTo s.most (linesL s) (linesL s).length : Nat) : Int) = bd at *
          go_wp2_with fail
          refine hi.mono ?_
          rintro e wa ⟨rfl, hba⟩
          have HBa := Lib.hid (HB9.out.trans (hba.mono HB9.out.size))
          have HDa := Lib.hid (HD9.out.below hba HD9.out.lt)
          have HFa := Lib.hid ((HF9.out.below hba (Nat.le_refl _)).mono hba.size)
          have z0 := HDa.out.cell 0
          have z1 := HDa.out.cell 1
          have z2 := HDa.out.cell 2
          have z3 := HDa.out.cell 3
          have z4 := HDa.out.cell 4
          have z5 := HDa.out.cell 5
          have z6 := HDa.out.cell 6
          have z7 := HDa.out.cell 7
          have z8 := HDa.out.cell 8
          have z9 := HDa.out.cell 9
          have z10 := HDa.out.cell 10
          have z11 := HDa.out.cell 11
          have z12 := HDa.out.cell 12
          simp only [List.getElem?_toArray, List.getElem?_cons_succ, List.getElem?_cons_zero] at z0 z1 z2 z3 z4 z5 z6 z7 z8 z9 z10 z11 z12
          clear hi hba HF9 HB9 HD9
          have hac := lsAccepted _ s _ (HSA.out _ HBa.out) HN.out
          go_wp2_with fail
          refine hac.mono ?_
          rintro e wb ⟨rfl, hbb⟩
          have HBb := Lib.hid (HBa.out.trans (hbb.mono HBa.out.size))
          have HFb := Lib.hid ((HFa.out.below hbb (Nat.le_refl _)).mono hbb.size)
          clear z0 z1 z2 z3 z4 z5 z6 z7 z8 z9 z10 z11 z12 hbb hac HBa HFa HDa
          have hso := sortedFind (.slice A (findsL s).length c) (findsL s) 16 entersLF2 wb HFb.out h100.out (finds_kinds s) (finds_adj s) (fun x hx y hy w' => lawFinds2 x y w' (finds_kinds s x hx) (finds_kinds s y hy))
          generalize accB s = ac at *
          go_wp2_with fail
          refine hso.mono ?_
          rintro e wc ⟨rfl, hbc⟩
          have HBc := Lib.hid (HBb.out.trans (hbc.mono HBb.out.size))
          clear hso hbc
          go_wp2_with fail
          go_ret
          exact ⟨rfl, HBc.out⟩
end Go.Proofs.YtpnongeibpkbhaaGreatDoor

/- An argument that is a slice of tasks, read as data, is a list of tasks in memory. -/
namespace Go.Proofs.YtpnongeibpkbhaaGreatDoor
open Go.RowKit Go.Shelf Go.ChangeShapes Go.WideShapes Go.Deep

theorem add_none (b off k : Nat) : (Addr.mk b off none).add k = ⟨b, off + k, none⟩ := by
  unfold Addr.add
  split
  · rename_i h; subst h; rfl
  · rfl
theorem cell_lt {w : World} {a : Addr} {v : Value} (h : w.cell? a = some v) : a.block < w.heap.size := by
  unfold World.cell? at h
  split at h
  · rename_i c t z hh
    exact (Array.getElem?_eq_some_iff.1 hh).1
  · cases h
theorem spot_none {w : World} {b off : Nat} {s : Option Nat} {v : Value} (h : w.cell? ((Addr.mk b off s).add 0) = some v) : s = none := by
  simpa [Addr.add] using World.cell?_spot h

theorem list5 {α : Type} : ∀ {cs : List α}, cs.length = 5 → ∃ a b c d e, cs = [a, b, c, d, e]
  | [a, b, c, d, e], _ => ⟨a, b, c, d, e, rfl⟩

section
variable {H : Type} {enc : TypeId × Value → H} {w : World} {base : Nat} {spare : Nat → Bool} {held : Bool}

theorem int_of_trod {fuel : Nat} {v : Value} {x : DataW H × List MemPlace} (h : DataW.trod enc Tryz.prog w base spare held fuel 3 [v] = some x) :
    ∃ n : Int, v = .int .i64 n ∧ -9223372036854775808 ≤ n ∧ n ≤ 9223372036854775807 := by
  obtain ⟨n, hv, -, hw⟩ := DataW.trod_int Tryz.underlying3 h
  simp [Lit.wf, IntKind.min, IntKind.max, IntKind.signed, IntKind.bits] at hw
  exact ⟨n, by simpa using hv, by omega, by omega⟩
theorem str_of_trod {fuel : Nat} {v : Value} {x : DataW H × List MemPlace} (h : DataW.trod enc Tryz.prog w base spare held fuel 9 [v] = some x) :
    ∃ s : ByteArray, v = .string s ∧ s.size ≤ maxLen := by
  obtain ⟨s, hv, -, hw⟩ := DataW.trod_string Tryz.underlying9 h
  exact ⟨s, by simpa using hv, hw⟩
end

instance : Inhabited Task := ⟨⟨⟨#[]⟩, 0, 0, 0, none, 0, []⟩⟩

theorem flat_at (l : List Task) (x : Nat) (u : Value) (hu : (l.flatMap Task.cells)[x]? = some u) : ∃ (hj : x / 5 < l.length), l[x / 5].cells[x % 5]? = some u := by
  have hlen : (l.flatMap Task.cells).length = l.length * 5 := by
    clear hu
    induction l with
    | nil => rfl
    | cons t l ih => rw [List.flatMap_cons, List.length_append, ih]; simp [Task.cells]; omega
  have hx := (List.getElem?_eq_some_iff.1 hu).1
  rw [hlen] at hx
  have hj : x / 5 < l.length := by omega
  refine ⟨hj, ?_⟩
  rw [← flat_get l (x / 5) (x % 5) hj (by omega), show x / 5 * 5 + x % 5 = x by omega]
  exact hu

section
variable {H : Type} {enc : TypeId × Value → H} {w : World} {base : Nat} {spare : Nat → Bool} {held : Bool}

end

end Go.Proofs.YtpnongeibpkbhaaGreatDoor

/- From a law's walk to its row: the arguments read behind the call as they did, the result is true. -/
namespace Go.Proofs.YtpnongeibpkbhaaGreatDoor
open Go.ChangeShapes Go.WideShapes Go.ChangeAt Go.RowKit

theorem Tryz.own : ownKnob Tryz.prog.godebug = none := by kernel_rfl
theorem Tryz.laidOut : laidOutB Tryz.prog = true := by kernel_rfl

section
variable {H : Type} {enc : TypeId × Value → H} {P : Program}
theorem post_of_below {f : Func} {s : ChangeSpec} {apart fresh handsOn again : Bool} {W W' : World} {args : Array Value} {v : Value} {ds gs : List (DataW H)} {before pa pv : List MemPlace}
    (hW : DataW.Whole enc P f.params.toList s.vars apart W args.toList ds gs before)
    (hres : ∀ (b : Nat) (sp : Nat → Bool) (hd : Bool), DataW.TrodAll enc P W' b sp hd f.resultTypes.toList (v.resultList f.resultTypes.size) (s.fn H (ds ++ gs)).results [])
    (hargs : ∀ sp : Nat → Bool, (∀ p ∈ before, sp p.block = true) → DataW.TrodAll enc P W' 0 sp true f.params.toList args.toList (s.fn H (ds ++ gs)).args pa)
    (hvars : ∀ sp : Nat → Bool, (∀ p ∈ before, sp p.block = true) → DataW.TrodVars enc P W' sp s.vars (s.fn H (ds ++ gs)).vars pv)
    (hps : before = pa ++ pv) (hb : Below W.heap.size W W')
    (hok : ∀ (j : Nat) (t : TypeId) (r : Value), f.resultTypes[j]? = some t → (v.resultList f.resultTypes.size)[j]? = some r → Value.okWide P W' .any 0 t r) :
    s.post enc P f apart fresh handsOn again W args v W' := by
  have hlt : ∀ p ∈ before, p.block < W.heap.size := fun p hp => hW.lt p hp
  have hold : ∀ p ∈ before, (fun b => decide (b < W.heap.size)) p.block = true := fun p hp => by simpa using hlt p hp
  refine ⟨ds, gs, before, [], pa, pv, hW, hres _ _ _, hargs _ hold, hvars _ hold, World.keptBut_mono (fun p hp => ⟨hp, ?_⟩) (hb.frame (· ∈ before)), fun _ => ?_⟩
  · rw [hps, List.mem_append] at hp
    exact Or.inr hp
  · obtain ⟨_, _, _, _, _, hz, hn⟩ := hW
    refine ⟨hok, _, _, ([] ++ pa) ++ pv, ⟨[] ++ pa, pv, trodAll_append (hargs _ (fun _ _ => rfl)) (hres _ _ _), hvars _ (fun _ _ => rfl), rfl, ?_, ?_⟩, ?_⟩
    · intro b off hp
      have hin : MemPlace.cell b off ∈ before := by rw [hps]; simpa using hp
      rw [hb.frozen (hlt _ hin)]
      exact hz b off hin
    · intro ha
      have := hn ha
      rw [hps] at this
      simpa using this
    · intro p hp _
      rw [hps]
      simpa using hp

theorem trodAll_len {W : World} {base : Nat} {sp : Nat → Bool} {held : Bool} : ∀ {ts : List TypeId} {vs : List Value} {ds : List (DataW H)} {ps : List MemPlace}, DataW.TrodAll enc P W base sp held ts vs ds ps → ds.length = ts.length
  | [], [], [], _, _ => rfl
  | _ :: ts, _ :: vs, _ :: ds, _, ⟨_, _, _, h2, _⟩ => by rw [List.length_cons, List.length_cons, trodAll_len h2]
/-- All arguments read as they did. -/
theorem stays_all (hl : laidOutB P = true) {W W' : World} {sp : Nat → Bool} (hb : Below W.heap.size W W') : ∀ {ts : List TypeId} {vs : List Value} {ds : List (DataW H)} {ps : List MemPlace},
    (∀ t ∈ ts, P.readableRec t = true ∧ t < P.types.size) → DataW.TrodAll enc P W 0 (fun _ => true) true ts vs ds ps → (∀ p ∈ ps, p.block < W.heap.size) → (∀ p ∈ ps, sp p.block = true) → DataW.TrodAll enc P W' 0 sp true ts vs ds ps
  | [], [], [], _, _, h, _, _ => h
  | t :: _, _ :: _, _ :: _, _, ht, ⟨p, q, h1, h2, e⟩, hlt, hs => ⟨p, q,
      WideElems.Trod_stays hl (ht t List.mem_cons_self).1 (ht t List.mem_cons_self).2 h1 (fun x hx => hb.same (hlt x (by rw [e]; exact List.mem_append_left _ hx))) (fun x hx => hs x (by rw [e]; exact List.mem_append_left _ hx)),
      stays_all hl hb (fun t ht' => ht t (List.mem_cons_of_mem _ ht')) h2 (fun x hx => hlt x (by rw [e]; exact List.mem_append_right _ hx)) (fun x hx => hs x (by rw [e]; exact List.mem_append_right _ hx)), e⟩
end


set_option maxRecDepth 100000 in
theorem law_lifted {K : FuncId} {fn : Func} {s : ChangeSpec} {conds : List PathCond} {H : Type} {enc : TypeId × Value → H} {os : Os} (started : os.Started) (noInit : Tryz.prog.inits.idxOf? K = none) (hfn : Tryz.prog.funcs[K]? = some fn)
    (hvars : s.vars = []) (hres : fn.resultTypes = #[4]) (hrd : ∀ t ∈ fn.params.toList, Tryz.prog.readableRec t = true ∧ t < Tryz.prog.types.size)
    (hspec : ∀ ds : List (DataW H), ds.length = fn.params.size → (s.fn H ds).results = [.lit (.bool true)] ∧ (s.fn H ds).args = ds ∧ (s.fn H ds).vars = [])
    (witness : ∃ (w : World) (tape : Tape) (i : Input), w.os = os ∧ (w.forCall tape i).Shaped Tryz.prog ∧ i.vars = [] ∧ Input.okWide Tryz.prog (w.forCall tape i) .any w.heap.size K i ∧
      s.pre6 enc Tryz.prog fn conds false (w.forCall tape i).memory i.args ∧ ({} : Assume).holds Tryz.prog (lone (Frame.enter Tryz.prog K i.args .normal) [] (w.forCall tape i)))
    (call : ∀ (W : World) (base : Nat) (args : Array Value) (ds : List (DataW H)) (ps : List MemPlace), (∀ (j : Nat) t v, fn.params[j]? = some t → args[j]? = some v → Value.okWide Tryz.prog W .any base t v) →
      DataW.TrodAll enc Tryz.prog W 0 (fun _ => true) true fn.params.toList args.toList ds ps → Calls Tryz.prog K args W fun e W' => e = .returned (.bool true) ∧ Below W.heap.size W W') :
    ReturnsInHanded {} Tryz.checked os K .any (s.pre6 enc Tryz.prog fn conds false) (s.post enc Tryz.prog fn false true false false) := by
  refine returnsInHanded_of_change (C := Tryz.checked) Tryz.own started noInit hfn witness ?_
  intro W base args ds gs before hval hW hcnd _
  have hW' := hW
  obtain ⟨p, q, hA, hV, rfl, hfz, hnd⟩ := hW
  rw [hvars] at hV
  obtain ⟨rfl, rfl⟩ := trodVars_none hV
  rw [List.append_nil] at hW'
  have hlen : ds.length = fn.params.size := by rw [trodAll_len hA, Array.length_toList]
  obtain ⟨e1, e2, e3⟩ := hspec ds hlen
  refine (call W base args ds p hval hA).mono fun e W' ⟨he, hb⟩ => ?_
  subst he
  have hlt : ∀ x ∈ p, x.block < W.heap.size := fun x hx => hW'.lt x hx
  refine ⟨_, rfl, post_of_below (pa := p) (pv := []) hW' (fun _ _ _ => ?_) (fun sp hsp => ?_) (fun _ _ => ?_) (by simp) hb ?_⟩
  · rw [List.append_nil, e1, hres]
    exact trodAll_mk1 (shut_bool Tryz.underlying4 _)
  · rw [List.append_nil, e2]
    exact stays_all Tryz.laidOut hb hrd hA hlt hsp
  · rw [List.append_nil, e3, hvars]
    rfl
  · exact ok_one hres rfl (okWide_bool_mk Tryz.underlying4 _)

end Go.Proofs.YtpnongeibpkbhaaGreatDoor

/- From a law's walk to its row, where the row lists variables. -/
namespace Go.Proofs.YtpnongeibpkbhaaGreatDoor
open Go.ChangeShapes Go.WideShapes Go.ChangeAt Go.RowKit

set_option maxRecDepth 100000 in
theorem law_liftedL {laidL : List (String × DataW Unit)} {K : FuncId} {fn : Func} {s : ChangeSpec} {H : Type} {enc : TypeId × Value → H} {os : Os} (started : os.Started) (noInit : Tryz.prog.inits.idxOf? K = none) (hfn : Tryz.prog.funcs[K]? = some fn)
    (hvars : s.vars = []) (hres : fn.resultTypes = #[4]) (hrd : ∀ t ∈ fn.params.toList, Tryz.prog.readableRec t = true ∧ t < Tryz.prog.types.size)
    (hspec : ∀ ds : List (DataW H), ds.length = fn.params.size → (s.fn H ds).results = [.lit (.bool true)] ∧ (s.fn H ds).args = ds ∧ (s.fn H ds).vars = [])
    (witness : ∃ (w : World) (tape : Tape) (i : Input), w.os = os ∧ (w.forCall tape i).Shaped Tryz.prog ∧ i.vars = [] ∧ Input.okWide Tryz.prog (w.forCall tape i) .any w.heap.size K i ∧
      ((s.pre enc Tryz.prog fn [] false (w.forCall tape i).memory i.args ∧ laidMetH Tryz.prog laidL (w.forCall tape i).memory) ∧ sizedMet enc Tryz.prog fn (OpenSpec.ofChange s) false (w.forCall tape i).memory i.args) ∧ ({} : Assume).holds Tryz.prog (lone (Frame.enter Tryz.prog K i.args .normal) [] (w.forCall tape i)))
    (call : ∀ (W : World) (base : Nat) (args : Array Value) (ds : List (DataW H)) (ps : List MemPlace), (∀ (j : Nat) t v, fn.params[j]? = some t → args[j]? = some v → Value.okWide Tryz.prog W .any base t v) →
      DataW.TrodAll enc Tryz.prog W 0 (fun _ => true) true fn.params.toList args.toList ds ps → Calls Tryz.prog K args W fun e W' => e = .returned (.bool true) ∧ Below W.heap.size W W') :
    ReturnsInHanded {} Tryz.checked os K .any (fun w args => (s.pre enc Tryz.prog fn [] false w args ∧ laidMetH Tryz.prog laidL w) ∧ sizedMet enc Tryz.prog fn (OpenSpec.ofChange s) false w args) (s.post enc Tryz.prog fn false true false false) := by
  refine returnsInHanded_of_change_and (C := Tryz.checked) (X := fun w _ => laidMetH Tryz.prog laidL w) (fun _ _ _ hh h => h.of_heap hh) Tryz.own started noInit hfn witness ?_
  intro W base args ds gs before hval hW _ _ _ _
  have hW' := hW
  obtain ⟨p, q, hA, hV, rfl, hfz, hnd⟩ := hW
  rw [hvars] at hV
  obtain ⟨rfl, rfl⟩ := trodVars_none hV
  rw [List.append_nil] at hW'
  have hlen : ds.length = fn.params.size := by rw [trodAll_len hA, Array.length_toList]
  obtain ⟨e1, e2, e3⟩ := hspec ds hlen
  refine (call W base args ds p hval hA).mono fun e W' ⟨he, hb⟩ => ?_
  subst he
  have hlt : ∀ x ∈ p, x.block < W.heap.size := fun x hx => hW'.lt x hx
  refine ⟨_, rfl, post_of_below (pa := p) (pv := []) hW' (fun _ _ _ => ?_) (fun sp hsp => ?_) (fun _ _ => ?_) (by simp) hb ?_⟩
  · rw [List.append_nil, e1, hres]
    exact trodAll_mk1 (shut_bool Tryz.underlying4 _)
  · rw [List.append_nil, e2]
    exact stays_all Tryz.laidOut hb hrd hA hlt hsp
  · rw [List.append_nil, e3, hvars]
    rfl
  · exact ok_one hres rfl (okWide_bool_mk Tryz.underlying4 _)
end Go.Proofs.YtpnongeibpkbhaaGreatDoor

/- An argument that is a line set, read as data, is a line set in memory. Written by gen_openset.py. -/
namespace Go.Proofs.YtpnongeibpkbhaaGreatDoor
open Go.RowKit Go.Shelf Go.ChangeShapes Go.WideShapes Go.Deep

theorem list3 {α : Type} : ∀ {cs : List α}, cs.length = 3 → ∃ a b c, cs = [a, b, c]
  | [a, b, c], _ => ⟨a, b, c, rfl⟩
theorem list7 {α : Type} : ∀ {cs : List α}, cs.length = 7 → ∃ a b c d e f g, cs = [a, b, c, d, e, f, g]
  | [a, b, c, d, e, f, g], _ => ⟨a, b, c, d, e, f, g, rfl⟩
theorem list13 {α : Type} : ∀ {cs : List α}, cs.length = 13 → ∃ a0 a1 a2 a3 a4 a5 a6 a7 a8 a9 a10 a11 a12, cs = [a0, a1, a2, a3, a4, a5, a6, a7, a8, a9, a10, a11, a12]
  | [a0, a1, a2, a3, a4, a5, a6, a7, a8, a9, a10, a11, a12], _ => ⟨a0, a1, a2, a3, a4, a5, a6, a7, a8, a9, a10, a11, a12, rfl⟩
theorem flatAtK {α : Type} (f : α → List Value) (k : Nat) (hk : 0 < k) (hf : ∀ x, (f x).length = k) (l : List α) (x : Nat) (u : Value) (hu : (l.flatMap f)[x]? = some u) : ∃ (hj : x / k < l.length), (f l[x / k])[x % k]? = some u := by
  have hlen : (l.flatMap f).length = l.length * k := by
    clear hu
    induction l with
    | nil => simp
    | cons t l ih => rw [List.flatMap_cons, List.length_append, ih, hf, List.length_cons, Nat.succ_mul]; omega
  have hx := (List.getElem?_eq_some_iff.1 hu).1
  rw [hlen] at hx
  have hj : x / k < l.length := by rw [Nat.div_lt_iff_lt_mul hk]; exact hx
  refine ⟨hj, ?_⟩
  rw [← flatGet f k hf l (x / k) (x % k) hj (Nat.mod_lt _ hk), Nat.div_add_mod' x k]
  exact hu

section
variable {H : Type} {enc : TypeId × Value → H} {w : World} {base : Nat} {spare : Nat → Bool} {held : Bool}
theorem intsS_of_trod {fuel : Nat} {v : Value} {x : DataW H × List MemPlace} (h : DataW.trod enc Tryz.prog w base spare held fuel 22 [v] = some x) :
    ∃ (s : List Int) (A : Option Addr) (c : Nat), v = .slice A s.length c ∧ IntsAt w w.heap.size v s := by
  rcases open_slice1 Tryz.underlying22 (by kernel_rfl) h with ⟨hcs, -⟩ | ⟨a, len, cap, m, n, V, D, Pl, hcs, _, hl, hm, hmm, -, hi⟩
  · obtain rfl : v = .slice none 0 0 := by simpa using hcs
    exact ⟨[], none, 0, rfl, none, 0, rfl, Nat.le_refl _, Nat.zero_le _, fun h => absurd h (by simp)⟩
  · obtain rfl : v = .slice (some a) len cap := by simpa using hcs
    have hle : len ≤ m := by rw [hmm]; split <;> omega
    have each : ∀ i, i < len → ∃ z : Int, w.cell? (a.add i) = some (.int .i64 z) := fun i hil => by
      obtain ⟨h1, h2⟩ := hi i (by omega)
      obtain ⟨z, hz, -⟩ := int_of_trod h2
      exact ⟨z, by rw [h1, hz]⟩
    obtain ⟨Z, hZ⟩ := choose_lt each
    have hL : ((List.range len).map Z).length = len := by simp
    refine ⟨(List.range len).map Z, some a, cap, by rw [hL], some a, cap, by rw [hL], by rw [hL]; exact hl, hm, fun hn => ?_⟩
    rw [hL] at hn
    obtain ⟨b, off, sp⟩ := a
    have h0 := hZ 0 hn
    obtain rfl := spot_none h0
    have hlt : b < w.heap.size := by simpa [add_none] using cell_lt h0
    refine ⟨b, off, rfl, hlt, fun j u hu => ?_⟩
    rw [List.getElem?_map, Option.map_eq_some_iff] at hu
    obtain ⟨z, hz, rfl⟩ := hu
    have hj : j < len := by have := (List.getElem?_eq_some_iff.1 hz).1; simpa using this
    have hz' : Z j = z := by simpa [hj] using hz
    have := hZ j hj
    rw [add_none, hz'] at this
    exact this
instance : Inhabited ItemT := ⟨⟨⟨#[]⟩, 0, 0, 0, 0, 0, 0⟩⟩
theorem items_of_trod {fuel : Nat} {v : Value} {x : DataW H × List MemPlace} (h : DataW.trod enc Tryz.prog w base spare held fuel 23 [v] = some x) :
    ∃ (l : List ItemT) (A : Option Addr) (c : Nat), v = .slice A l.length c ∧ Flat w w.heap.size v l.length (l.flatMap ItemT.cells) ∧ ∀ t ∈ l, t.name.size ≤ maxLen := by
  rcases open_slice Tryz.underlying23 h with ⟨hcs, -⟩ | ⟨a, len, cap, m, n, D, Pl, hcs, _, hl, hm, hmm, -, hi⟩
  · obtain rfl : v = .slice none 0 0 := by simpa using hcs
    exact ⟨[], none, 0, rfl, ⟨none, 0, rfl, Nat.le_refl _, Nat.zero_le _, fun h => absurd h (by simp)⟩, by simp⟩
  · obtain rfl : v = .slice (some a) len cap := by simpa using hcs
    have hle : len ≤ m := by rw [hmm]; split <;> omega
    have hC : Tryz.prog.cellsOf 57 = 7 := by kernel_rfl
    rw [hC] at hi
    have each : ∀ i, i < len → ∃ t : ItemT, (∀ k u, t.cells[k]? = some u → w.cell? (a.add (i * 7 + k)) = some u) ∧ t.name.size ≤ maxLen := fun i hil => by
      obtain ⟨cs, hc, ht⟩ := hi i (by omega)
      obtain ⟨ys, n', hn', hy, hlen, hyl, hf⟩ := DataW.trod_struct Tryz.underlying57 ht
      obtain ⟨_, hcl, hat⟩ := World.cells?_some hc
      obtain ⟨c0, c1, c2, c3, c4, c5, c6, rfl⟩ := list7 hcl
      obtain ⟨y0, y1, y2, y3, y4, y5, y6, rfl⟩ := list7 hyl
      have g0 : DataW.trod enc Tryz.prog w base spare held n' 9 (List.take (Tryz.prog.cellsOf 9) (List.drop 0 [c0, c1, c2, c3, c4, c5, c6])) = some y0 := hf 0 _ rfl
      have g1 : DataW.trod enc Tryz.prog w base spare held n' 3 (List.take (Tryz.prog.cellsOf 3) (List.drop 1 [c0, c1, c2, c3, c4, c5, c6])) = some y1 := hf 1 _ rfl
      have g2 : DataW.trod enc Tryz.prog w base spare held n' 3 (List.take (Tryz.prog.cellsOf 3) (List.drop 2 [c0, c1, c2, c3, c4, c5, c6])) = some y2 := hf 2 _ rfl
      have g3 : DataW.trod enc Tryz.prog w base spare held n' 3 (List.take (Tryz.prog.cellsOf 3) (List.drop 3 [c0, c1, c2, c3, c4, c5, c6])) = some y3 := hf 3 _ rfl
      have g4 : DataW.trod enc Tryz.prog w base spare held n' 3 (List.take (Tryz.prog.cellsOf 3) (List.drop 4 [c0, c1, c2, c3, c4, c5, c6])) = some y4 := hf 4 _ rfl
      have g5 : DataW.trod enc Tryz.prog w base spare held n' 3 (List.take (Tryz.prog.cellsOf 3) (List.drop 5 [c0, c1, c2, c3, c4, c5, c6])) = some y5 := hf 5 _ rfl
      have g6 : DataW.trod enc Tryz.prog w base spare held n' 3 (List.take (Tryz.prog.cellsOf 3) (List.drop 6 [c0, c1, c2, c3, c4, c5, c6])) = some y6 := hf 6 _ rfl
      rw [show Tryz.prog.cellsOf 9 = 1 from by kernel_rfl] at g0
      rw [show Tryz.prog.cellsOf 3 = 1 from by kernel_rfl] at g1
      rw [show Tryz.prog.cellsOf 3 = 1 from by kernel_rfl] at g2
      rw [show Tryz.prog.cellsOf 3 = 1 from by kernel_rfl] at g3
      rw [show Tryz.prog.cellsOf 3 = 1 from by kernel_rfl] at g4
      rw [show Tryz.prog.cellsOf 3 = 1 from by kernel_rfl] at g5
      rw [show Tryz.prog.cellsOf 3 = 1 from by kernel_rfl] at g6
      obtain ⟨f0, rfl, hnm⟩ := str_of_trod (v := c0) g0
      obtain ⟨f1, rfl, -⟩ := int_of_trod (v := c1) g1
      obtain ⟨f2, rfl, -⟩ := int_of_trod (v := c2) g2
      obtain ⟨f3, rfl, -⟩ := int_of_trod (v := c3) g3
      obtain ⟨f4, rfl, -⟩ := int_of_trod (v := c4) g4
      obtain ⟨f5, rfl, -⟩ := int_of_trod (v := c5) g5
      obtain ⟨f6, rfl, -⟩ := int_of_trod (v := c6) g6
      refine ⟨⟨f0, f1, f2, f3, f4, f5, f6⟩, fun k u hk => ?_, hnm⟩
      have hk5 : k < 7 := (List.getElem?_eq_some_iff.1 hk).1
      rw [← add_add, hat k hk5]
      exact hk
    obtain ⟨T, hT⟩ := choose_lt each
    have hL : ((List.range len).map T).length = len := by simp
    refine ⟨(List.range len).map T, some a, cap, by rw [hL], ⟨some a, cap, by rw [hL], by rw [hL]; exact hl, hm, fun hn => ?_⟩, fun t ht => ?_⟩
    · rw [hL] at hn
      obtain ⟨b, off, sp⟩ := a
      have h0 := (hT 0 hn).1 0 _ rfl
      obtain rfl := spot_none h0
      have hlt : b < w.heap.size := by simpa [add_none] using cell_lt h0
      refine ⟨b, off, rfl, hlt, fun j u hu => ?_⟩
      obtain ⟨hj, hu'⟩ := flatAtK ItemT.cells 7 (by decide) (fun _ => rfl) _ _ _ hu
      rw [hL] at hj
      have := (hT _ hj).1 (j % 7) u (by simpa using hu')
      rw [add_none, Nat.div_add_mod' j 7] at this
      exact this
    · simp only [List.mem_map, List.mem_range] at ht
      obtain ⟨i, hi, rfl⟩ := ht
      exact (hT i hi).2
instance : Inhabited BrickT := ⟨⟨⟨#[]⟩, 0, 0⟩⟩
theorem bricks_of_trod {fuel : Nat} {v : Value} {x : DataW H × List MemPlace} (h : DataW.trod enc Tryz.prog w base spare held fuel 24 [v] = some x) :
    ∃ (l : List BrickT) (A : Option Addr) (c : Nat), v = .slice A l.length c ∧ Flat w w.heap.size v l.length (l.flatMap BrickT.cells) ∧ ∀ t ∈ l, t.name.size ≤ maxLen := by
  rcases open_slice Tryz.underlying24 h with ⟨hcs, -⟩ | ⟨a, len, cap, m, n, D, Pl, hcs, _, hl, hm, hmm, -, hi⟩
  · obtain rfl : v = .slice none 0 0 := by simpa using hcs
    exact ⟨[], none, 0, rfl, ⟨none, 0, rfl, Nat.le_refl _, Nat.zero_le _, fun h => absurd h (by simp)⟩, by simp⟩
  · obtain rfl : v = .slice (some a) len cap := by simpa using hcs
    have hle : len ≤ m := by rw [hmm]; split <;> omega
    have hC : Tryz.prog.cellsOf 88 = 3 := by kernel_rfl
    rw [hC] at hi
    have each : ∀ i, i < len → ∃ t : BrickT, (∀ k u, t.cells[k]? = some u → w.cell? (a.add (i * 3 + k)) = some u) ∧ t.name.size ≤ maxLen := fun i hil => by
      obtain ⟨cs, hc, ht⟩ := hi i (by omega)
      obtain ⟨ys, n', hn', hy, hlen, hyl, hf⟩ := DataW.trod_struct Tryz.underlying88 ht
      obtain ⟨_, hcl, hat⟩ := World.cells?_some hc
      obtain ⟨c0, c1, c2, rfl⟩ := list3 hcl
      obtain ⟨y0, y1, y2, rfl⟩ := list3 hyl
      have g0 : DataW.trod enc Tryz.prog w base spare held n' 9 (List.take (Tryz.prog.cellsOf 9) (List.drop 0 [c0, c1, c2])) = some y0 := hf 0 _ rfl
      have g1 : DataW.trod enc Tryz.prog w base spare held n' 3 (List.take (Tryz.prog.cellsOf 3) (List.drop 1 [c0, c1, c2])) = some y1 := hf 1 _ rfl
      have g2 : DataW.trod enc Tryz.prog w base spare held n' 3 (List.take (Tryz.prog.cellsOf 3) (List.drop 2 [c0, c1, c2])) = some y2 := hf 2 _ rfl
      rw [show Tryz.prog.cellsOf 9 = 1 from by kernel_rfl] at g0
      rw [show Tryz.prog.cellsOf 3 = 1 from by kernel_rfl] at g1
      rw [show Tryz.prog.cellsOf 3 = 1 from by kernel_rfl] at g2
      obtain ⟨f0, rfl, hnm⟩ := str_of_trod (v := c0) g0
      obtain ⟨f1, rfl, -⟩ := int_of_trod (v := c1) g1
      obtain ⟨f2, rfl, -⟩ := int_of_trod (v := c2) g2
      refine ⟨⟨f0, f1, f2⟩, fun k u hk => ?_, hnm⟩
      have hk5 : k < 3 := (List.getElem?_eq_some_iff.1 hk).1
      rw [← add_add, hat k hk5]
      exact hk
    obtain ⟨T, hT⟩ := choose_lt each
    have hL : ((List.range len).map T).length = len := by simp
    refine ⟨(List.range len).map T, some a, cap, by rw [hL], ⟨some a, cap, by rw [hL], by rw [hL]; exact hl, hm, fun hn => ?_⟩, fun t ht => ?_⟩
    · rw [hL] at hn
      obtain ⟨b, off, sp⟩ := a
      have h0 := (hT 0 hn).1 0 _ rfl
      obtain rfl := spot_none h0
      have hlt : b < w.heap.size := by simpa [add_none] using cell_lt h0
      refine ⟨b, off, rfl, hlt, fun j u hu => ?_⟩
      obtain ⟨hj, hu'⟩ := flatAtK BrickT.cells 3 (by decide) (fun _ => rfl) _ _ _ hu
      rw [hL] at hj
      have := (hT _ hj).1 (j % 3) u (by simpa using hu')
      rw [add_none, Nat.div_add_mod' j 3] at this
      exact this
    · simp only [List.mem_map, List.mem_range] at ht
      obtain ⟨i, hi, rfl⟩ := ht
      exact (hT i hi).2
theorem set_of_trod {fuel : Nat} {cs : List Value} {x : DataW H × List MemPlace} (hlen : cs.length = 13) (h : DataW.trod enc Tryz.prog w base spare held fuel 26 cs = some x) :
    ∃ s, SetAt w w.heap.size (.agg cs.toArray) s ∧ SetNames s := by
  obtain ⟨ys, n', hn', hy, hlen', hyl, hf⟩ := DataW.trod_struct Tryz.underlying26 h
  obtain ⟨c0, c1, c2, c3, c4, c5, c6, c7, c8, c9, c10, c11, c12, rfl⟩ := list13 hlen
  obtain ⟨y0, y1, y2, y3, y4, y5, y6, y7, y8, y9, y10, y11, y12, rfl⟩ := list13 hyl
  have g0 : DataW.trod enc Tryz.prog w base spare held n' 9 (List.take (Tryz.prog.cellsOf 9) (List.drop 0 [c0, c1, c2, c3, c4, c5, c6, c7, c8, c9, c10, c11, c12])) = some y0 := hf 0 _ rfl
  have g1 : DataW.trod enc Tryz.prog w base spare held n' 3 (List.take (Tryz.prog.cellsOf 3) (List.drop 1 [c0, c1, c2, c3, c4, c5, c6, c7, c8, c9, c10, c11, c12])) = some y1 := hf 1 _ rfl
  have g2 : DataW.trod enc Tryz.prog w base spare held n' 3 (List.take (Tryz.prog.cellsOf 3) (List.drop 2 [c0, c1, c2, c3, c4, c5, c6, c7, c8, c9, c10, c11, c12])) = some y2 := hf 2 _ rfl
  have g3 : DataW.trod enc Tryz.prog w base spare held n' 3 (List.take (Tryz.prog.cellsOf 3) (List.drop 3 [c0, c1, c2, c3, c4, c5, c6, c7, c8, c9, c10, c11, c12])) = some y3 := hf 3 _ rfl
  have g4 : DataW.trod enc Tryz.prog w base spare held n' 3 (List.take (Tryz.prog.cellsOf 3) (List.drop 4 [c0, c1, c2, c3, c4, c5, c6, c7, c8, c9, c10, c11, c12])) = some y4 := hf 4 _ rfl
  have g5 : DataW.trod enc Tryz.prog w base spare held n' 22 (List.take (Tryz.prog.cellsOf 22) (List.drop 5 [c0, c1, c2, c3, c4, c5, c6, c7, c8, c9, c10, c11, c12])) = some y5 := hf 5 _ rfl
  have g6 : DataW.trod enc Tryz.prog w base spare held n' 3 (List.take (Tryz.prog.cellsOf 3) (List.drop 6 [c0, c1, c2, c3, c4, c5, c6, c7, c8, c9, c10, c11, c12])) = some y6 := hf 6 _ rfl
  have g7 : DataW.trod enc Tryz.prog w base spare held n' 3 (List.take (Tryz.prog.cellsOf 3) (List.drop 7 [c0, c1, c2, c3, c4, c5, c6, c7, c8, c9, c10, c11, c12])) = some y7 := hf 7 _ rfl
  have g8 : DataW.trod enc Tryz.prog w base spare held n' 3 (List.take (Tryz.prog.cellsOf 3) (List.drop 8 [c0, c1, c2, c3, c4, c5, c6, c7, c8, c9, c10, c11, c12])) = some y8 := hf 8 _ rfl
  have g9 : DataW.trod enc Tryz.prog w base spare held n' 3 (List.take (Tryz.prog.cellsOf 3) (List.drop 9 [c0, c1, c2, c3, c4, c5, c6, c7, c8, c9, c10, c11, c12])) = some y9 := hf 9 _ rfl
  have g10 : DataW.trod enc Tryz.prog w base spare held n' 3 (List.take (Tryz.prog.cellsOf 3) (List.drop 10 [c0, c1, c2, c3, c4, c5, c6, c7, c8, c9, c10, c11, c12])) = some y10 := hf 10 _ rfl
  have g11 : DataW.trod enc Tryz.prog w base spare held n' 23 (List.take (Tryz.prog.cellsOf 23) (List.drop 11 [c0, c1, c2, c3, c4, c5, c6, c7, c8, c9, c10, c11, c12])) = some y11 := hf 11 _ rfl
  have g12 : DataW.trod enc Tryz.prog w base spare held n' 24 (List.take (Tryz.prog.cellsOf 24) (List.drop 12 [c0, c1, c2, c3, c4, c5, c6, c7, c8, c9, c10, c11, c12])) = some y12 := hf 12 _ rfl
  rw [show Tryz.prog.cellsOf 9 = 1 from by kernel_rfl] at g0
  rw [show Tryz.prog.cellsOf 3 = 1 from by kernel_rfl] at g1
  rw [show Tryz.prog.cellsOf 3 = 1 from by kernel_rfl] at g2
  rw [show Tryz.prog.cellsOf 3 = 1 from by kernel_rfl] at g3
  rw [show Tryz.prog.cellsOf 3 = 1 from by kernel_rfl] at g4
  rw [show Tryz.prog.cellsOf 22 = 1 from by kernel_rfl] at g5
  rw [show Tryz.prog.cellsOf 3 = 1 from by kernel_rfl] at g6
  rw [show Tryz.prog.cellsOf 3 = 1 from by kernel_rfl] at g7
  rw [show Tryz.prog.cellsOf 3 = 1 from by kernel_rfl] at g8
  rw [show Tryz.prog.cellsOf 3 = 1 from by kernel_rfl] at g9
  rw [show Tryz.prog.cellsOf 3 = 1 from by kernel_rfl] at g10
  rw [show Tryz.prog.cellsOf 23 = 1 from by kernel_rfl] at g11
  rw [show Tryz.prog.cellsOf 24 = 1 from by kernel_rfl] at g12
  obtain ⟨f0, rfl, hnm⟩ := str_of_trod (v := c0) g0
  obtain ⟨f1, rfl, -⟩ := int_of_trod (v := c1) g1
  obtain ⟨f2, rfl, -⟩ := int_of_trod (v := c2) g2
  obtain ⟨f3, rfl, -⟩ := int_of_trod (v := c3) g3
  obtain ⟨f4, rfl, -⟩ := int_of_trod (v := c4) g4
  obtain ⟨f5, Al, cl, rfl, hL⟩ := intsS_of_trod (v := c5) g5
  obtain ⟨f6, rfl, -⟩ := int_of_trod (v := c6) g6
  obtain ⟨f7, rfl, -⟩ := int_of_trod (v := c7) g7
  obtain ⟨f8, rfl, -⟩ := int_of_trod (v := c8) g8
  obtain ⟨f9, rfl, -⟩ := int_of_trod (v := c9) g9
  obtain ⟨f10, rfl, -⟩ := int_of_trod (v := c10) g10
  obtain ⟨f11, Ai, ci, rfl, hI, hIn⟩ := items_of_trod (v := c11) g11
  obtain ⟨f12, Ab, cb, rfl, hB, hBn⟩ := bricks_of_trod (v := c12) g12
  exact ⟨⟨f0, f1, f2, f3, f4, f5, f6, f7, f8, f9, f10, f11, f12⟩, ⟨Al, cl, Ai, ci, Ab, cb, rfl, hL, hI, hB⟩, ⟨hnm, hIn, hBn⟩⟩
end
end Go.Proofs.YtpnongeibpkbhaaGreatDoor

/- LinesetFinds: for every input the law returns true, and its arguments read as they did. The listed tables of Go's library are never read. -/
namespace Go.Proofs.YtpnongeibpkbhaaGreatDoor
open Go.ChangeShapes Go.WideShapes Go.ChangeAt Go.RowKit

theorem linesetFinds_door (os : Os) (args : Array Value) : laidMetH Tryz.prog Rows.linesetFindsRow.laid ((World.doorLaid Tryz.prog 400 os).forCall (fun _ _ => 0) ⟨#[], args, []⟩).memory :=
  laidMetH_of_parts3 (fuel := 8) (laidMet_of_run' 8 (by kernel_rfl) (by kernel_rfl)) (by kernel_rfl) (by kernel_rfl)
set_option maxRecDepth 100000 in
theorem linesetFinds_lifted (os : Os) (started : os.Started) (H : Type) (enc : TypeId × Value → H) :
    ReturnsInHanded {} Tryz.checked os 3 .any (fun w args => (Rows.linesetFindsSpec.pre enc Tryz.prog Tryz.f3 [] false w args ∧ laidMetH Tryz.prog Rows.linesetFindsRow.laid w) ∧ sizedMet enc Tryz.prog Tryz.f3 (OpenSpec.ofChange Rows.linesetFindsSpec) false w args) (Rows.linesetFindsSpec.post enc Tryz.prog Tryz.f3 false true false false) := by
  refine law_liftedL started (by kernel_rfl) Tryz.func3 rfl (by kernel_rfl) ?_ ?_ (ChangeSpec.witness_shaped (enc := enc) (C := Tryz.checked) (os := os) (X := fun w _ => laidMetH Tryz.prog Rows.linesetFindsRow.laid w) false (World.doorLaid Tryz.prog 400 os) #[.agg #[.string ⟨#[]⟩, .int .i64 0, .int .i64 0, .int .i64 0, .int .i64 0, .slice none 0 0, .int .i64 0, .int .i64 0, .int .i64 0, .int .i64 0, .int .i64 0, .slice none 0 0, .slice none 0 0]] 8 rfl (World.shaped_of_RefB (by kernel_rfl) (by kernel_rfl)) (by kernel_rfl) (by kernel_rfl) (by kernel_rfl) (linesetFinds_door os _)) ?_
  · rw [Tryz.params3]
    intro t ht
    simp only [List.mem_cons, List.not_mem_nil, or_false] at ht
    subst ht
    exact ⟨by kernel_rfl, of_decide_eq_true (by kernel_rfl)⟩
  · intro ds hds
    match ds, hds with
    | [d0], _ => exact ⟨rfl, rfl, rfl⟩
  · intro W base args ds ps hval hA
    rw [Tryz.params3] at hA hval
    obtain ⟨v0, vs0, d0, ds0, p0, q0, hargs, rfl, rfl, h0, r0⟩ := trodAll_cons hA
    obtain ⟨rfl, rfl, rfl⟩ := trodAll_nil r0
    obtain rfl : args = #[v0] := by cases args; simp_all
    obtain ⟨cs0, rfl, hcs0⟩ := okWide_struct Tryz.underlying26 (hval 0 26 v0 rfl rfl)
    rw [show Tryz.prog.cellsOf 26 = 13 from by kernel_rfl] at hcs0
    obtain ⟨fuel0, hf0⟩ := h0
    obtain ⟨x0, hx0, hn0⟩ := set_of_trod (by simpa [Value.cells] using hcs0) hf0
    exact lawFinds _ x0 W (by simpa [Value.cells] using hx0) hn0
theorem linesetFinds_row : Rows.LinesetFindsSaid :=
  OpenClaim.holds_of_wide 3 Tryz.f3 rfl rfl rfl rfl rfl rfl rfl ⟨rfl, rfl, rfl, rfl, rfl⟩ rfl rfl rfl rfl rfl (by kernel_rfl) Tryz.func3 (by kernel_rfl)
    (of_decide_eq_true (by kernel_rfl)) (by unfold Func.isWrapper; first | (rw [if_pos (by decide +kernel)]; kernel_rfl) | (rw [if_neg (by decide +kernel)]; exact ⟨rfl, rfl⟩))
    (fun os started H enc _ => linesetFinds_lifted os started H enc)
theorem linesetFinds_holds : Rows.LinesetFindsCardSaid :=
  Claim7.holds_tied_plain_at .later [] [.data, .data, .data] true Rows.linesetFindsCard.stood.harness false
    linesetFinds_row (fun _ h => by cases h) (by kernel_rfl) (fun _ h => by cases h) linesetFinds_row_tie rfl ⟨rfl, rfl⟩ (by kernel_rfl) rfl
    (fun f fn hf hfn => by
      obtain rfl : f = 3 := Option.some.inj ((show Tryz.prog.funcNamed "loftblock/loftblocklaw29.LinesetFinds" = some 3 by kernel_rfl).symm.trans hf) |>.symm
      obtain rfl : fn = Tryz.f3 := (Option.some.inj (Tryz.func3.symm.trans hfn)).symm
      exact ⟨by kernel_rfl, fun j t ht => by
        rw [Tryz.params3] at ht
        have h3 : t = 26 := by
          rcases j with _ | j
          · simpa using ht.symm
          · simp at ht
        subst h3
        exact (show Tryz.prog.wantsStandIn 26 = false by kernel_rfl)⟩)
    (by kernel_rfl)
#print axioms linesetFinds_holds
end Go.Proofs.YtpnongeibpkbhaaGreatDoor
