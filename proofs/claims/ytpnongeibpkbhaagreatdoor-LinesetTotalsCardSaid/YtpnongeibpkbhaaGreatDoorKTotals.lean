/- For every input the law returns true, and its arguments read as they did: LawTotals, Open, Row, RowL, OpenSet, RowTotals. -/
import Derived.Below
import Derived.Carry
import Derived.ChangeSame
import Derived.Deep.Fields
import Derived.Deep.Slices
import Derived.LaidMore
import Derived.OpenShut
import Derived.ProofKit
import Derived.SliceStrings
import Derived.Stop.Joined
import Derived.Test.YtpnongeibpkbhaaGreatDoorCards
import Derived.Test.YtpnongeibpkbhaaGreatDoorD1
import Derived.Test.YtpnongeibpkbhaaGreatDoorD2
import Derived.Test.YtpnongeibpkbhaaGreatDoorD6
import Derived.Test.YtpnongeibpkbhaaGreatDoorD9
import Derived.Test.YtpnongeibpkbhaaGreatDoorG1
import Derived.Test.YtpnongeibpkbhaaGreatDoorRows
import Derived.Test.YtpnongeibpkbhaaGreatDoorTie

/- The law LinesetTotals: the walk. -/
namespace Go.Proofs.YtpnongeibpkbhaaGreatDoor
open Go.RowKit Go.Shelf

theorem names_add {s : SetT} {x : ItemT} (h : SetNames s) (hx : x.name.size ≤ maxLen) : SetNames (addS s x) :=
  ⟨h.name, fun y hy => by
    rcases List.mem_append.1 (show y ∈ s.items ++ [x] from hy) with h1 | h1
    · exact h.items y h1
    · rw [List.mem_singleton.1 h1]; exact hx, h.bricks⟩
set_option maxRecDepth 100000 in
set_option maxHeartbeats 4000000 in
theorem lawTotals (v : Value) (s : SetT) (x : ItemT) (w : World) (hv : SetAt w w.heap.size v s) (hn : SetNames s) (hnx : x.name.size ≤ maxLen) :
    Calls Tryz.prog 5 #[v, x.val] w fun e w' => e = .returned (.bool true) ∧ Below w.heap.size w w' := by
  have HSA : Hid (∀ W, Below w.heap.size w W → SetAt W W.heap.size v s) := fun W hb => (hv.below hb (Nat.le_refl _)).mono hb.size
  have HN := Lib.hid hn
  have HNX := Lib.hid hnx
  obtain ⟨Al, cl, Ai, ci, Ab, cb, rfl, -, -, -⟩ := hv
  have B1 := (Blk.new w 26 #[.string s.name, .int .i64 s.depth, .int .i64 s.low, .int .i64 s.high, .int .i64 s.len, .slice Al s.lines.length cl, .int .i64 s.pipe, .int .i64 s.arbor, .int .i64 s.purch, .int .i64 s.most, .int .i64 s.brake, .slice Ai s.items.length ci, .slice Ab s.bricks.length cb]).alloc (.cells #[.string x.name, .int .i64 x.pos, .int .i64 x.width, .int .i64 x.wt, .int .i64 x.hang, .int .i64 x.front, .int .i64 x.back] 57)
  have B2 := Blk.new (w.alloc (.cells #[.string s.name, .int .i64 s.depth, .int .i64 s.low, .int .i64 s.high, .int .i64 s.len, .slice Al s.lines.length cl, .int .i64 s.pipe, .int .i64 s.arbor, .int .i64 s.purch, .int .i64 s.most, .int .i64 s.brake, .slice Ai s.items.length ci, .slice Ab s.bricks.length cb] 26)) 57 #[.string x.name, .int .i64 x.pos, .int .i64 x.width, .int .i64 x.wt, .int .i64 x.hang, .int .i64 x.front, .int .i64 x.back]
  rw [World.size_alloc] at B2
  have HbW := ((Below.refl _ w).alloc (Nat.le_refl _) (.cells #[.string s.name, .int .i64 s.depth, .int .i64 s.low, .int .i64 s.high, .int .i64 s.len, .slice Al s.lines.length cl, .int .i64 s.pipe, .int .i64 s.arbor, .int .i64 s.purch, .int .i64 s.most, .int .i64 s.brake, .slice Ai s.items.length ci, .slice Ab s.bricks.length cb] 26)).alloc (by simp) (.cells #[.string x.name, .int .i64 x.pos, .int .i64 x.width, .int .i64 x.wt, .int .i64 x.hang, .int .i64 x.front, .int .i64 x.back] 57)
  clear hn
  unfold setVal at *
  go_enter Tryz.func5, Tryz.ntmps5
  go_wp2_with fail
  generalize (w.alloc (.cells #[.string s.name, .int .i64 s.depth, .int .i64 s.low, .int .i64 s.high, .int .i64 s.len, .slice Al s.lines.length cl, .int .i64 s.pipe, .int .i64 s.arbor, .int .i64 s.purch, .int .i64 s.most, .int .i64 s.brake, .slice Ai s.items.length ci, .slice Ab s.bricks.length cb] 26)).alloc (.cells #[.string x.name, .int .i64 x.pos, .int .i64 x.width, .int .i64 x.wt, .int .i64 x.hang, .int .i64 x.front, .int .i64 x.back] 57) = W1 at *
  have HA : Hid (∀ W, Below W1.heap.size W1 W → Blk W w.heap.size 26 #[.string s.name, .int .i64 s.depth, .int .i64 s.low, .int .i64 s.high, .int .i64 s.len, .slice Al s.lines.length cl, .int .i64 s.pipe, .int .i64 s.arbor, .int .i64 s.purch, .int .i64 s.most, .int .i64 s.brake, .slice Ai s.items.length ci, .slice Ab s.bricks.length cb] ∧ Blk W (w.heap.size + 1) 57 #[.string x.name, .int .i64 x.pos, .int .i64 x.width, .int .i64 x.wt, .int .i64 x.hang, .int .i64 x.front, .int .i64 x.back] ∧ Below w.heap.size w W) := fun W hb => ⟨B1.below hb B1.lt, B2.below hb B2.lt, HbW.trans (hb.mono HbW.size)⟩
  clear B1 B2 HbW
  refine (lawAwake29 _).mono ?_
  rintro e w2 ⟨rfl, hb2⟩
  have HS := Lib.hid (HA.out w2 hb2)
  have HW := Lib.hid hb2
  have z0 := HS.out.1.cell 0
  have z1 := HS.out.1.cell 1
  have z2 := HS.out.1.cell 2
  have z3 := HS.out.1.cell 3
  have z4 := HS.out.1.cell 4
  have z5 := HS.out.1.cell 5
  have z6 := HS.out.1.cell 6
  have z7 := HS.out.1.cell 7
  have z8 := HS.out.1.cell 8
  have z9 := HS.out.1.cell 9
  have z10 := HS.out.1.cell 10
  have z11 := HS.out.1.cell 11
  have z12 := HS.out.1.cell 12
  have i0 := HS.out.2.1.cell 0
  have i1 := HS.out.2.1.cell 1
  have i2 := HS.out.2.1.cell 2
  have i3 := HS.out.2.1.cell 3
  have i4 := HS.out.2.1.cell 4
  have i5 := HS.out.2.1.cell 5
  have i6 := HS.out.2.1.cell 6
  simp only [List.getElem?_toArray, List.getElem?_cons_succ, List.getElem?_cons_zero] at z0 z1 z2 z3 z4 z5 z6 z7 z8 z9 z10 z11 z12 i0 i1 i2 i3 i4 i5 i6
  clear hb2
  go_wp2_with fail
  refine (lawLarge29 _ s _ (HSA.out _ HS.out.2.2) HN.out).mono ?_
  rintro e w3 ⟨q, rfl, hb3⟩
  have HWx := Lib.hid (HW.out.trans (hb3.mono HW.out.size))
  have HSx := Lib.hid (HA.out w3 HWx.out)
  clear z0 z1 z2 z3 z4 z5 z6 z7 z8 z9 z10 z11 z12 i0 i1 i2 i3 i4 i5 i6 hb3 HW HS
  have HW := HWx
  have HS := HSx
  clear HWx HSx
  have z0 := HS.out.1.cell 0
  have z1 := HS.out.1.cell 1
  have z2 := HS.out.1.cell 2
  have z3 := HS.out.1.cell 3
  have z4 := HS.out.1.cell 4
  have z5 := HS.out.1.cell 5
  have z6 := HS.out.1.cell 6
  have z7 := HS.out.1.cell 7
  have z8 := HS.out.1.cell 8
  have z9 := HS.out.1.cell 9
  have z10 := HS.out.1.cell 10
  have z11 := HS.out.1.cell 11
  have z12 := HS.out.1.cell 12
  have i0 := HS.out.2.1.cell 0
  have i1 := HS.out.2.1.cell 1
  have i2 := HS.out.2.1.cell 2
  have i3 := HS.out.2.1.cell 3
  have i4 := HS.out.2.1.cell 4
  have i5 := HS.out.2.1.cell 5
  have i6 := HS.out.2.1.cell 6
  simp only [List.getElem?_toArray, List.getElem?_cons_succ, List.getElem?_cons_zero] at z0 z1 z2 z3 z4 z5 z6 z7 z8 z9 z10 z11 z12 i0 i1 i2 i3 i4 i5 i6
  cases q with
  | true =>
    go_wp2_with fail
    go_ret
    exact ⟨rfl, HS.out.2.2⟩
  | false =>
    by_cases h60 : 60 < (x.name.size : Int)
    · have hd := decide_eq_true h60
      go_wp2_with fail
      go_ret
      exact ⟨rfl, HS.out.2.2⟩
    have hd := decide_eq_false h60
    have hT := lsTotal _ s _ (HSA.out _ HS.out.2.2) HN.out
    clear h60
    cases hok : setB s with
    | false =>
      rw [if_neg (by rw [hok]; simp)] at hT
      go_wp2_with fail
      refine hT.mono ?_
      rintro e w4 ⟨rfl, hb4⟩
      have HWx := Lib.hid (HW.out.trans (hb4.mono HW.out.size))
      have HSx := Lib.hid (HA.out w4 HWx.out)
      clear z0 z1 z2 z3 z4 z5 z6 z7 z8 z9 z10 z11 z12 i0 i1 i2 i3 i4 i5 i6 hb4 HW HS
      have HW := HWx
      have HS := HSx
      clear HWx HSx
      have z0 := HS.out.1.cell 0
      have z1 := HS.out.1.cell 1
      have z2 := HS.out.1.cell 2
      have z3 := HS.out.1.cell 3
      have z4 := HS.out.1.cell 4
      have z5 := HS.out.1.cell 5
      have z6 := HS.out.1.cell 6
      have z7 := HS.out.1.cell 7
      have z8 := HS.out.1.cell 8
      have z9 := HS.out.1.cell 9
      have z10 := HS.out.1.cell 10
      have z11 := HS.out.1.cell 11
      have z12 := HS.out.1.cell 12
      have i0 := HS.out.2.1.cell 0
      have i1 := HS.out.2.1.cell 1
      have i2 := HS.out.2.1.cell 2
      have i3 := HS.out.2.1.cell 3
      have i4 := HS.out.2.1.cell 4
      have i5 := HS.out.2.1.cell 5
      have i6 := HS.out.2.1.cell 6
      simp only [List.getElem?_toArray, List.getElem?_cons_succ, List.getElem?_cons_zero] at z0 z1 z2 z3 z4 z5 z6 z7 z8 z9 z10 z11 z12 i0 i1 i2 i3 i4 i5 i6
      clear hT
      have hV := batValid _ s _ (HSA.out _ HS.out.2.2) HN.out
      rw [hok] at hV
      go_wp2_with fail
      refine hV.mono ?_
      rintro e w5 ⟨rfl, hb5⟩
      have hb := HS.out.2.2.trans (hb5.mono HS.out.2.2.size)
      go_wp2_with fail
      go_ret
      exact ⟨rfl, hb⟩
    | true =>
      rw [if_pos hok] at hT
      have Hok := Lib.hid hok
      clear hok
      go_wp2_with fail
      refine hT.mono ?_
      rintro e w4 ⟨rfl, hb4⟩
      have HWx := Lib.hid (HW.out.trans (hb4.mono HW.out.size))
      have HSx := Lib.hid (HA.out w4 HWx.out)
      clear z0 z1 z2 z3 z4 z5 z6 z7 z8 z9 z10 z11 z12 i0 i1 i2 i3 i4 i5 i6 hb4 HW HS
      have HW := HWx
      have HS := HSx
      clear HWx HSx
      have z0 := HS.out.1.cell 0
      have z1 := HS.out.1.cell 1
      have z2 := HS.out.1.cell 2
      have z3 := HS.out.1.cell 3
      have z4 := HS.out.1.cell 4
      have z5 := HS.out.1.cell 5
      have z6 := HS.out.1.cell 6
      have z7 := HS.out.1.cell 7
      have z8 := HS.out.1.cell 8
      have z9 := HS.out.1.cell 9
      have z10 := HS.out.1.cell 10
      have z11 := HS.out.1.cell 11
      have z12 := HS.out.1.cell 12
      have i0 := HS.out.2.1.cell 0
      have i1 := HS.out.2.1.cell 1
      have i2 := HS.out.2.1.cell 2
      have i3 := HS.out.2.1.cell 3
      have i4 := HS.out.2.1.cell 4
      have i5 := HS.out.2.1.cell 5
      have i6 := HS.out.2.1.cell 6
      simp only [List.getElem?_toArray, List.getElem?_cons_succ, List.getElem?_cons_zero] at z0 z1 z2 z3 z4 z5 z6 z7 z8 z9 z10 z11 z12 i0 i1 i2 i3 i4 i5 i6
      clear hT
      have hWe := batWeight _ s _ (HSA.out _ HS.out.2.2) HN.out
      rw [if_pos Hok.out] at hWe
      go_wp2_with fail
      refine hWe.mono ?_
      rintro e w5 ⟨rfl, hb5⟩
      have HWx := Lib.hid (HW.out.trans (hb5.mono HW.out.size))
      have HSx := Lib.hid (HA.out w5 HWx.out)
      clear z0 z1 z2 z3 z4 z5 z6 z7 z8 z9 z10 z11 z12 i0 i1 i2 i3 i4 i5 i6 hb5 HW HS
      have HW := HWx
      have HS := HSx
      clear HWx HSx
      have z0 := HS.out.1.cell 0
      have z1 := HS.out.1.cell 1
      have z2 := HS.out.1.cell 2
      have z3 := HS.out.1.cell 3
      have z4 := HS.out.1.cell 4
      have z5 := HS.out.1.cell 5
      have z6 := HS.out.1.cell 6
      have z7 := HS.out.1.cell 7
      have z8 := HS.out.1.cell 8
      have z9 := HS.out.1.cell 9
      have z10 := HS.out.1.cell 10
      have z11 := HS.out.1.cell 11
      have z12 := HS.out.1.cell 12
      have i0 := HS.out.2.1.cell 0
      have i1 := HS.out.2.1.cell 1
      have i2 := HS.out.2.1.cell 2
      have i3 := HS.out.2.1.cell 3
      have i4 := HS.out.2.1.cell 4
      have i5 := HS.out.2.1.cell 5
      have i6 := HS.out.2.1.cell 6
      simp only [List.getElem?_toArray, List.getElem?_cons_succ, List.getElem?_cons_zero] at z0 z1 z2 z3 z4 z5 z6 z7 z8 z9 z10 z11 z12 i0 i1 i2 i3 i4 i5 i6
      clear hWe
      have hBa := arbBalance _ s _ (HSA.out _ HS.out.2.2) HN.out
      rw [if_pos Hok.out] at hBa
      go_wp2_with fail
      refine hBa.mono ?_
      rintro e w6 ⟨rfl, hb6⟩
      have HWx := Lib.hid (HW.out.trans (hb6.mono HW.out.size))
      have HSx := Lib.hid (HA.out w6 HWx.out)
      clear z0 z1 z2 z3 z4 z5 z6 z7 z8 z9 z10 z11 z12 i0 i1 i2 i3 i4 i5 i6 hb6 HW HS
      have HW := HWx
      have HS := HSx
      clear HWx HSx
      have z0 := HS.out.1.cell 0
      have z1 := HS.out.1.cell 1
      have z2 := HS.out.1.cell 2
      have z3 := HS.out.1.cell 3
      have z4 := HS.out.1.cell 4
      have z5 := HS.out.1.cell 5
      have z6 := HS.out.1.cell 6
      have z7 := HS.out.1.cell 7
      have z8 := HS.out.1.cell 8
      have z9 := HS.out.1.cell 9
      have z10 := HS.out.1.cell 10
      have z11 := HS.out.1.cell 11
      have z12 := HS.out.1.cell 12
      have i0 := HS.out.2.1.cell 0
      have i1 := HS.out.2.1.cell 1
      have i2 := HS.out.2.1.cell 2
      have i3 := HS.out.2.1.cell 3
      have i4 := HS.out.2.1.cell 4
      have i5 := HS.out.2.1.cell 5
      have i6 := HS.out.2.1.cell 6
      simp only [List.getElem?_toArray, List.getElem?_cons_succ, List.getElem?_cons_zero] at z0 z1 z2 z3 z4 z5 z6 z7 z8 z9 z10 z11 z12 i0 i1 i2 i3 i4 i5 i6
      clear hBa
      have hge := total_ge Hok.out
      have hwb := weight_bd Hok.out
      have hbb := balance_bd Hok.out
      have hbal : Hid (s.purch = 1 → totalN s = 2 * weightN s - balanceN s) := total_balance s
      have hpp := (setB_ok Hok.out).purch
      have hadd : Hid (totalN (addS s x) = totalN s + x.wt) := total_add s x
      have htb : Hid (setB (addS s x) = true → -1 ≤ totalN s ∧ totalN s ≤ 4611686018427387904 ∧ 0 ≤ x.wt ∧ x.wt ≤ 1048576) := fun h => by
        have h1 := (setB_ok h).wts.2 x (by show x ∈ s.items ++ [x]; simp)
        have h2 := alone_wt h1.1
        have h3 := setB_ok Hok.out
        have h4 := (brickW_bd h3.brk.2 _ (Nat.le_refl _)).1
        have h5 := h3.arbor
        have h6 := h3.brk.1
        refine ⟨?_, ?_, h2⟩
        · unfold totalN totalTo; omega
        · unfold totalN totalTo; omega
      have hPu := batPut _ s x _ (HSA.out _ HS.out.2.2) HN.out HNX.out
      unfold setVal at hPu
      generalize totalN s = n at *
      generalize weightN s = wn at *
      generalize balanceN s = bn at *
      have v1 : IntKind.i64.wrap (2 * wn) = 2 * wn := IntWalk.i64_in _ (by omega)
      have v2 : IntKind.i64.wrap (2 * wn - bn) = 2 * wn - bn := IntWalk.i64_in _ (by omega)
      have hlt : decide (n < wn) = false := decide_eq_false (by omega)
      have hpq : ((s.purch == 1) = true ∧ (n != 2 * wn - bn) = false) ∨ (s.purch == 1) = false := by
        by_cases h1 : s.purch = 1
        · exact .inl ⟨beq_iff_eq.2 h1, by rw [bne_eq_false_iff_eq]; exact hbal.out h1⟩
        · exact .inr (beq_eq_false_iff_ne.2 h1)
      have HPu := Lib.hid hPu
      clear hPu hge hwb hbb hpp hbal
      rcases hpq with ⟨e1, e2⟩ | e1
      all_goals
        go_wp2_with fail
        refine HPu.out.mono ?_
        rintro e w7 ⟨hb7, ⟨u, rfl, hU, hUok⟩ | ⟨u, k, hk, rfl, rfl⟩⟩
        rotate_left
        · have hb := HS.out.2.2.trans (hb7.mono HS.out.2.2.size)
          have HB := Lib.hid (hb.alloc hb.size (.cells #[.string ⟨#[]⟩, .int .i64 0, .int .i64 0, .int .i64 0, .int .i64 0, .slice none 0 0, .int .i64 0, .int .i64 0, .int .i64 0, .int .i64 0, .int .i64 0, .slice none 0 0, .slice none 0 0] 26))
          clear hb hb7
          go_wp2_with fail
          go_ret
          exact ⟨rfl, HB.out⟩
        have HU := Lib.hid hU
        obtain ⟨Al2, cl2, Ai2, ci2, Ab2, cb2, rfl, -, -, -⟩ := hU
        unfold setVal at *
        have hT2 := fun W (hb : Below w7.heap.size w7 W) => lsTotal _ (addS s x) W (HU.out.grow hb) (names_add HN.out HNX.out)
        rw [if_pos hUok, hadd.out] at hT2
        have hbd := htb.out hUok
        have v3 : IntKind.i64.wrap (n + x.wt - n) = x.wt := by rw [show n + x.wt - n = x.wt by omega]; exact IntWalk.i64_in _ (by omega)
        have HS7 := Lib.hid (HA.out w7 (HW.out.trans (hb7.mono HW.out.size)))
        have hbA : Below w7.heap.size w7 (w7.alloc (.cells #[.string (addS s x).name, .int .i64 (addS s x).depth, .int .i64 (addS s x).low, .int .i64 (addS s x).high, .int .i64 (addS s x).len, .slice Al2 (addS s x).lines.length cl2, .int .i64 (addS s x).pipe, .int .i64 (addS s x).arbor, .int .i64 (addS s x).purch, .int .i64 (addS s x).most, .int .i64 (addS s x).brake, .slice Ai2 (addS s x).items.length ci2, .slice Ab2 (addS s x).bricks.length cb2] 26)) := (Below.refl _ _).alloc (Nat.le_refl _) _
        have hT3 := hT2 _ hbA
        have HBA := Lib.hid hbA
        clear hT2 hbA hbd hadd htb hUok HU hb7
        go_wp2_with fail
        refine hT3.mono ?_
        rintro e w8 ⟨rfl, hb8⟩
        have hb9 := HBA.out.trans (hb8.mono HBA.out.size)
        have i3' := (HS7.out.2.1.below hb9 HS7.out.2.1.lt).cell 3
        simp only [List.getElem?_toArray, List.getElem?_cons_succ, List.getElem?_cons_zero] at i3'
        have HB := Lib.hid (HS7.out.2.2.trans (hb9.mono HS7.out.2.2.size))
        clear hb9 hb8 hT3
        go_wp2_with fail
        go_ret
        exact ⟨rfl, HB.out⟩
end Go.Proofs.YtpnongeibpkbhaaGreatDoor

/- An argument that is a slice of tasks, read as data, is a list of tasks in memory. -/
namespace Go.Proofs.YtpnongeibpkbhaaGreatDoor
open Go.RowKit Go.Shelf Go.ChangeShapes Go.WideShapes Go.Deep

theorem add_none (b off k : Nat) : (Addr.mk b off none).add k = ⟨b, off + k, none⟩ := by
  unfold Addr.add
  split
  · rename_i h; subst h; rfl
  · rfl
theorem cell_lt {w : World} {a : Addr} {v : Value} (h : w.cell? a = some v) : a.block < w.heap.size := by
  unfold World.cell? at h
  split at h
  · rename_i c t z hh
    exact (Array.getElem?_eq_some_iff.1 hh).1
  · cases h
theorem spot_none {w : World} {b off : Nat} {s : Option Nat} {v : Value} (h : w.cell? ((Addr.mk b off s).add 0) = some v) : s = none := by
  simpa [Addr.add] using World.cell?_spot h

theorem list5 {α : Type} : ∀ {cs : List α}, cs.length = 5 → ∃ a b c d e, cs = [a, b, c, d, e]
  | [a, b, c, d, e], _ => ⟨a, b, c, d, e, rfl⟩

section
variable {H : Type} {enc : TypeId × Value → H} {w : World} {base : Nat} {spare : Nat → Bool} {held : Bool}

theorem int_of_trod {fuel : Nat} {v : Value} {x : DataW H × List MemPlace} (h : DataW.trod enc Tryz.prog w base spare held fuel 3 [v] = some x) :
    ∃ n : Int, v = .int .i64 n ∧ -9223372036854775808 ≤ n ∧ n ≤ 9223372036854775807 := by
  obtain ⟨n, hv, -, hw⟩ := DataW.trod_int Tryz.underlying3 h
  simp [Lit.wf, IntKind.min, IntKind.max, IntKind.signed, IntKind.bits] at hw
  exact ⟨n, by simpa using hv, by omega, by omega⟩
theorem str_of_trod {fuel : Nat} {v : Value} {x : DataW H × List MemPlace} (h : DataW.trod enc Tryz.prog w base spare held fuel 9 [v] = some x) :
    ∃ s : ByteArray, v = .string s ∧ s.size ≤ maxLen := by
  obtain ⟨s, hv, -, hw⟩ := DataW.trod_string Tryz.underlying9 h
  exact ⟨s, by simpa using hv, hw⟩
end

instance : Inhabited Task := ⟨⟨⟨#[]⟩, 0, 0, 0, none, 0, []⟩⟩

theorem flat_at (l : List Task) (x : Nat) (u : Value) (hu : (l.flatMap Task.cells)[x]? = some u) : ∃ (hj : x / 5 < l.length), l[x / 5].cells[x % 5]? = some u := by
  have hlen : (l.flatMap Task.cells).length = l.length * 5 := by
    clear hu
    induction l with
    | nil => rfl
    | cons t l ih => rw [List.flatMap_cons, List.length_append, ih]; simp [Task.cells]; omega
  have hx := (List.getElem?_eq_some_iff.1 hu).1
  rw [hlen] at hx
  have hj : x / 5 < l.length := by omega
  refine ⟨hj, ?_⟩
  rw [← flat_get l (x / 5) (x % 5) hj (by omega), show x / 5 * 5 + x % 5 = x by omega]
  exact hu

section
variable {H : Type} {enc : TypeId × Value → H} {w : World} {base : Nat} {spare : Nat → Bool} {held : Bool}

end

end Go.Proofs.YtpnongeibpkbhaaGreatDoor

/- From a law's walk to its row: the arguments read behind the call as they did, the result is true. -/
namespace Go.Proofs.YtpnongeibpkbhaaGreatDoor
open Go.ChangeShapes Go.WideShapes Go.ChangeAt Go.RowKit

theorem Tryz.own : ownKnob Tryz.prog.godebug = none := by kernel_rfl
theorem Tryz.laidOut : laidOutB Tryz.prog = true := by kernel_rfl

section
variable {H : Type} {enc : TypeId × Value → H} {P : Program}
theorem post_of_below {f : Func} {s : ChangeSpec} {apart fresh handsOn again : Bool} {W W' : World} {args : Array Value} {v : Value} {ds gs : List (DataW H)} {before pa pv : List MemPlace}
    (hW : DataW.Whole enc P f.params.toList s.vars apart W args.toList ds gs before)
    (hres : ∀ (b : Nat) (sp : Nat → Bool) (hd : Bool), DataW.TrodAll enc P W' b sp hd f.resultTypes.toList (v.resultList f.resultTypes.size) (s.fn H (ds ++ gs)).results [])
    (hargs : ∀ sp : Nat → Bool, (∀ p ∈ before, sp p.block = true) → DataW.TrodAll enc P W' 0 sp true f.params.toList args.toList (s.fn H (ds ++ gs)).args pa)
    (hvars : ∀ sp : Nat → Bool, (∀ p ∈ before, sp p.block = true) → DataW.TrodVars enc P W' sp s.vars (s.fn H (ds ++ gs)).vars pv)
    (hps : before = pa ++ pv) (hb : Below W.heap.size W W')
    (hok : ∀ (j : Nat) (t : TypeId) (r : Value), f.resultTypes[j]? = some t → (v.resultList f.resultTypes.size)[j]? = some r → Value.okWide P W' .any 0 t r) :
    s.post enc P f apart fresh handsOn again W args v W' := by
  have hlt : ∀ p ∈ before, p.block < W.heap.size := fun p hp => hW.lt p hp
  have hold : ∀ p ∈ before, (fun b => decide (b < W.heap.size)) p.block = true := fun p hp => by simpa using hlt p hp
  refine ⟨ds, gs, before, [], pa, pv, hW, hres _ _ _, hargs _ hold, hvars _ hold, World.keptBut_mono (fun p hp => ⟨hp, ?_⟩) (hb.frame (· ∈ before)), fun _ => ?_⟩
  · rw [hps, List.mem_append] at hp
    exact Or.inr hp
  · obtain ⟨_, _, _, _, _, hz, hn⟩ := hW
    refine ⟨hok, _, _, ([] ++ pa) ++ pv, ⟨[] ++ pa, pv, trodAll_append (hargs _ (fun _ _ => rfl)) (hres _ _ _), hvars _ (fun _ _ => rfl), rfl, ?_, ?_⟩, ?_⟩
    · intro b off hp
      have hin : MemPlace.cell b off ∈ before := by rw [hps]; simpa using hp
      rw [hb.frozen (hlt _ hin)]
      exact hz b off hin
    · intro ha
      have := hn ha
      rw [hps] at this
      simpa using this
    · intro p hp _
      rw [hps]
      simpa using hp

theorem trodAll_len {W : World} {base : Nat} {sp : Nat → Bool} {held : Bool} : ∀ {ts : List TypeId} {vs : List Value} {ds : List (DataW H)} {ps : List MemPlace}, DataW.TrodAll enc P W base sp held ts vs ds ps → ds.length = ts.length
  | [], [], [], _, _ => rfl
  | _ :: ts, _ :: vs, _ :: ds, _, ⟨_, _, _, h2, _⟩ => by rw [List.length_cons, List.length_cons, trodAll_len h2]
/-- All arguments read as they did. -/
theorem stays_all (hl : laidOutB P = true) {W W' : World} {sp : Nat → Bool} (hb : Below W.heap.size W W') : ∀ {ts : List TypeId} {vs : List Value} {ds : List (DataW H)} {ps : List MemPlace},
    (∀ t ∈ ts, P.readableRec t = true ∧ t < P.types.size) → DataW.TrodAll enc P W 0 (fun _ => true) true ts vs ds ps → (∀ p ∈ ps, p.block < W.heap.size) → (∀ p ∈ ps, sp p.block = true) → DataW.TrodAll enc P W' 0 sp true ts vs ds ps
  | [], [], [], _, _, h, _, _ => h
  | t :: _, _ :: _, _ :: _, _, ht, ⟨p, q, h1, h2, e⟩, hlt, hs => ⟨p, q,
      WideElems.Trod_stays hl (ht t List.mem_cons_self).1 (ht t List.mem_cons_self).2 h1 (fun x hx => hb.same (hlt x (by rw [e]; exact List.mem_append_left _ hx))) (fun x hx => hs x (by rw [e]; exact List.mem_append_left _ hx)),
      stays_all hl hb (fun t ht' => ht t (List.mem_cons_of_mem _ ht')) h2 (fun x hx => hlt x (by rw [e]; exact List.mem_append_right _ hx)) (fun x hx => hs x (by rw [e]; exact List.mem_append_right _ hx)), e⟩
end


set_option maxRecDepth 100000 in
theorem law_lifted {K : FuncId} {fn : Func} {s : ChangeSpec} {conds : List PathCond} {H : Type} {enc : TypeId × Value → H} {os : Os} (started : os.Started) (noInit : Tryz.prog.inits.idxOf? K = none) (hfn : Tryz.prog.funcs[K]? = some fn)
    (hvars : s.vars = []) (hres : fn.resultTypes = #[4]) (hrd : ∀ t ∈ fn.params.toList, Tryz.prog.readableRec t = true ∧ t < Tryz.prog.types.size)
    (hspec : ∀ ds : List (DataW H), ds.length = fn.params.size → (s.fn H ds).results = [.lit (.bool true)] ∧ (s.fn H ds).args = ds ∧ (s.fn H ds).vars = [])
    (witness : ∃ (w : World) (tape : Tape) (i : Input), w.os = os ∧ (w.forCall tape i).Shaped Tryz.prog ∧ i.vars = [] ∧ Input.okWide Tryz.prog (w.forCall tape i) .any w.heap.size K i ∧
      s.pre6 enc Tryz.prog fn conds false (w.forCall tape i).memory i.args ∧ ({} : Assume).holds Tryz.prog (lone (Frame.enter Tryz.prog K i.args .normal) [] (w.forCall tape i)))
    (call : ∀ (W : World) (base : Nat) (args : Array Value) (ds : List (DataW H)) (ps : List MemPlace), (∀ (j : Nat) t v, fn.params[j]? = some t → args[j]? = some v → Value.okWide Tryz.prog W .any base t v) →
      DataW.TrodAll enc Tryz.prog W 0 (fun _ => true) true fn.params.toList args.toList ds ps → Calls Tryz.prog K args W fun e W' => e = .returned (.bool true) ∧ Below W.heap.size W W') :
    ReturnsInHanded {} Tryz.checked os K .any (s.pre6 enc Tryz.prog fn conds false) (s.post enc Tryz.prog fn false true false false) := by
  refine returnsInHanded_of_change (C := Tryz.checked) Tryz.own started noInit hfn witness ?_
  intro W base args ds gs before hval hW hcnd _
  have hW' := hW
  obtain ⟨p, q, hA, hV, rfl, hfz, hnd⟩ := hW
  rw [hvars] at hV
  obtain ⟨rfl, rfl⟩ := trodVars_none hV
  rw [List.append_nil] at hW'
  have hlen : ds.length = fn.params.size := by rw [trodAll_len hA, Array.length_toList]
  obtain ⟨e1, e2, e3⟩ := hspec ds hlen
  refine (call W base args ds p hval hA).mono fun e W' ⟨he, hb⟩ => ?_
  subst he
  have hlt : ∀ x ∈ p, x.block < W.heap.size := fun x hx => hW'.lt x hx
  refine ⟨_, rfl, post_of_below (pa := p) (pv := []) hW' (fun _ _ _ => ?_) (fun sp hsp => ?_) (fun _ _ => ?_) (by simp) hb ?_⟩
  · rw [List.append_nil, e1, hres]
    exact trodAll_mk1 (shut_bool Tryz.underlying4 _)
  · rw [List.append_nil, e2]
    exact stays_all Tryz.laidOut hb hrd hA hlt hsp
  · rw [List.append_nil, e3, hvars]
    rfl
  · exact ok_one hres rfl (okWide_bool_mk Tryz.underlying4 _)

end Go.Proofs.YtpnongeibpkbhaaGreatDoor

/- From a law's walk to its row, where the row lists variables. -/
namespace Go.Proofs.YtpnongeibpkbhaaGreatDoor
open Go.ChangeShapes Go.WideShapes Go.ChangeAt Go.RowKit

set_option maxRecDepth 100000 in
theorem law_liftedL {laidL : List (String × DataW Unit)} {K : FuncId} {fn : Func} {s : ChangeSpec} {H : Type} {enc : TypeId × Value → H} {os : Os} (started : os.Started) (noInit : Tryz.prog.inits.idxOf? K = none) (hfn : Tryz.prog.funcs[K]? = some fn)
    (hvars : s.vars = []) (hres : fn.resultTypes = #[4]) (hrd : ∀ t ∈ fn.params.toList, Tryz.prog.readableRec t = true ∧ t < Tryz.prog.types.size)
    (hspec : ∀ ds : List (DataW H), ds.length = fn.params.size → (s.fn H ds).results = [.lit (.bool true)] ∧ (s.fn H ds).args = ds ∧ (s.fn H ds).vars = [])
    (witness : ∃ (w : World) (tape : Tape) (i : Input), w.os = os ∧ (w.forCall tape i).Shaped Tryz.prog ∧ i.vars = [] ∧ Input.okWide Tryz.prog (w.forCall tape i) .any w.heap.size K i ∧
      ((s.pre enc Tryz.prog fn [] false (w.forCall tape i).memory i.args ∧ laidMetH Tryz.prog laidL (w.forCall tape i).memory) ∧ sizedMet enc Tryz.prog fn (OpenSpec.ofChange s) false (w.forCall tape i).memory i.args) ∧ ({} : Assume).holds Tryz.prog (lone (Frame.enter Tryz.prog K i.args .normal) [] (w.forCall tape i)))
    (call : ∀ (W : World) (base : Nat) (args : Array Value) (ds : List (DataW H)) (ps : List MemPlace), (∀ (j : Nat) t v, fn.params[j]? = some t → args[j]? = some v → Value.okWide Tryz.prog W .any base t v) →
      DataW.TrodAll enc Tryz.prog W 0 (fun _ => true) true fn.params.toList args.toList ds ps → Calls Tryz.prog K args W fun e W' => e = .returned (.bool true) ∧ Below W.heap.size W W') :
    ReturnsInHanded {} Tryz.checked os K .any (fun w args => (s.pre enc Tryz.prog fn [] false w args ∧ laidMetH Tryz.prog laidL w) ∧ sizedMet enc Tryz.prog fn (OpenSpec.ofChange s) false w args) (s.post enc Tryz.prog fn false true false false) := by
  refine returnsInHanded_of_change_and (C := Tryz.checked) (X := fun w _ => laidMetH Tryz.prog laidL w) (fun _ _ _ hh h => h.of_heap hh) Tryz.own started noInit hfn witness ?_
  intro W base args ds gs before hval hW _ _ _ _
  have hW' := hW
  obtain ⟨p, q, hA, hV, rfl, hfz, hnd⟩ := hW
  rw [hvars] at hV
  obtain ⟨rfl, rfl⟩ := trodVars_none hV
  rw [List.append_nil] at hW'
  have hlen : ds.length = fn.params.size := by rw [trodAll_len hA, Array.length_toList]
  obtain ⟨e1, e2, e3⟩ := hspec ds hlen
  refine (call W base args ds p hval hA).mono fun e W' ⟨he, hb⟩ => ?_
  subst he
  have hlt : ∀ x ∈ p, x.block < W.heap.size := fun x hx => hW'.lt x hx
  refine ⟨_, rfl, post_of_below (pa := p) (pv := []) hW' (fun _ _ _ => ?_) (fun sp hsp => ?_) (fun _ _ => ?_) (by simp) hb ?_⟩
  · rw [List.append_nil, e1, hres]
    exact trodAll_mk1 (shut_bool Tryz.underlying4 _)
  · rw [List.append_nil, e2]
    exact stays_all Tryz.laidOut hb hrd hA hlt hsp
  · rw [List.append_nil, e3, hvars]
    rfl
  · exact ok_one hres rfl (okWide_bool_mk Tryz.underlying4 _)
end Go.Proofs.YtpnongeibpkbhaaGreatDoor

/- An argument that is a line set, read as data, is a line set in memory. Written by gen_openset.py. -/
namespace Go.Proofs.YtpnongeibpkbhaaGreatDoor
open Go.RowKit Go.Shelf Go.ChangeShapes Go.WideShapes Go.Deep

theorem list3 {α : Type} : ∀ {cs : List α}, cs.length = 3 → ∃ a b c, cs = [a, b, c]
  | [a, b, c], _ => ⟨a, b, c, rfl⟩
theorem list7 {α : Type} : ∀ {cs : List α}, cs.length = 7 → ∃ a b c d e f g, cs = [a, b, c, d, e, f, g]
  | [a, b, c, d, e, f, g], _ => ⟨a, b, c, d, e, f, g, rfl⟩
theorem list13 {α : Type} : ∀ {cs : List α}, cs.length = 13 → ∃ a0 a1 a2 a3 a4 a5 a6 a7 a8 a9 a10 a11 a12, cs = [a0, a1, a2, a3, a4, a5, a6, a7, a8, a9, a10, a11, a12]
  | [a0, a1, a2, a3, a4, a5, a6, a7, a8, a9, a10, a11, a12], _ => ⟨a0, a1, a2, a3, a4, a5, a6, a7, a8, a9, a10, a11, a12, rfl⟩
theorem flatAtK {α : Type} (f : α → List Value) (k : Nat) (hk : 0 < k) (hf : ∀ x, (f x).length = k) (l : List α) (x : Nat) (u : Value) (hu : (l.flatMap f)[x]? = some u) : ∃ (hj : x / k < l.length), (f l[x / k])[x % k]? = some u := by
  have hlen : (l.flatMap f).length = l.length * k := by
    clear hu
    induction l with
    | nil => simp
    | cons t l ih => rw [List.flatMap_cons, List.length_append, ih, hf, List.length_cons, Nat.succ_mul]; omega
  have hx := (List.getElem?_eq_some_iff.1 hu).1
  rw [hlen] at hx
  have hj : x / k < l.length := by rw [Nat.div_lt_iff_lt_mul hk]; exact hx
  refine ⟨hj, ?_⟩
  rw [← flatGet f k hf l (x / k) (x % k) hj (Nat.mod_lt _ hk), Nat.div_add_mod' x k]
  exact hu

section
variable {H : Type} {enc : TypeId × Value → H} {w : World} {base : Nat} {spare : Nat → Bool} {held : Bool}
theorem intsS_of_trod {fuel : Nat} {v : Value} {x : DataW H × List MemPlace} (h : DataW.trod enc Tryz.prog w base spare held fuel 22 [v] = some x) :
    ∃ (s : List Int) (A : Option Addr) (c : Nat), v = .slice A s.length c ∧ IntsAt w w.heap.size v s := by
  rcases open_slice1 Tryz.underlying22 (by kernel_rfl) h with ⟨hcs, -⟩ | ⟨a, len, cap, m, n, V, D, Pl, hcs, _, hl, hm, hmm, -, hi⟩
  · obtain rfl : v = .slice none 0 0 := by simpa using hcs
    exact ⟨[], none, 0, rfl, none, 0, rfl, Nat.le_refl _, Nat.zero_le _, fun h => absurd h (by simp)⟩
  · obtain rfl : v = .slice (some a) len cap := by simpa using hcs
    have hle : len ≤ m := by rw [hmm]; split <;> omega
    have each : ∀ i, i < len → ∃ z : Int, w.cell? (a.add i) = some (.int .i64 z) := fun i hil => by
      obtain ⟨h1, h2⟩ := hi i (by omega)
      obtain ⟨z, hz, -⟩ := int_of_trod h2
      exact ⟨z, by rw [h1, hz]⟩
    obtain ⟨Z, hZ⟩ := choose_lt each
    have hL : ((List.range len).map Z).length = len := by simp
    refine ⟨(List.range len).map Z, some a, cap, by rw [hL], some a, cap, by rw [hL], by rw [hL]; exact hl, hm, fun hn => ?_⟩
    rw [hL] at hn
    obtain ⟨b, off, sp⟩ := a
    have h0 := hZ 0 hn
    obtain rfl := spot_none h0
    have hlt : b < w.heap.size := by simpa [add_none] using cell_lt h0
    refine ⟨b, off, rfl, hlt, fun j u hu => ?_⟩
    rw [List.getElem?_map, Option.map_eq_some_iff] at hu
    obtain ⟨z, hz, rfl⟩ := hu
    have hj : j < len := by have := (List.getElem?_eq_some_iff.1 hz).1; simpa using this
    have hz' : Z j = z := by simpa [hj] using hz
    have := hZ j hj
    rw [add_none, hz'] at this
    exact this
instance : Inhabited ItemT := ⟨⟨⟨#[]⟩, 0, 0, 0, 0, 0, 0⟩⟩
theorem items_of_trod {fuel : Nat} {v : Value} {x : DataW H × List MemPlace} (h : DataW.trod enc Tryz.prog w base spare held fuel 23 [v] = some x) :
    ∃ (l : List ItemT) (A : Option Addr) (c : Nat), v = .slice A l.length c ∧ Flat w w.heap.size v l.length (l.flatMap ItemT.cells) ∧ ∀ t ∈ l, t.name.size ≤ maxLen := by
  rcases open_slice Tryz.underlying23 h with ⟨hcs, -⟩ | ⟨a, len, cap, m, n, D, Pl, hcs, _, hl, hm, hmm, -, hi⟩
  · obtain rfl : v = .slice none 0 0 := by simpa using hcs
    exact ⟨[], none, 0, rfl, ⟨none, 0, rfl, Nat.le_refl _, Nat.zero_le _, fun h => absurd h (by simp)⟩, by simp⟩
  · obtain rfl : v = .slice (some a) len cap := by simpa using hcs
    have hle : len ≤ m := by rw [hmm]; split <;> omega
    have hC : Tryz.prog.cellsOf 57 = 7 := by kernel_rfl
    rw [hC] at hi
    have each : ∀ i, i < len → ∃ t : ItemT, (∀ k u, t.cells[k]? = some u → w.cell? (a.add (i * 7 + k)) = some u) ∧ t.name.size ≤ maxLen := fun i hil => by
      obtain ⟨cs, hc, ht⟩ := hi i (by omega)
      obtain ⟨ys, n', hn', hy, hlen, hyl, hf⟩ := DataW.trod_struct Tryz.underlying57 ht
      obtain ⟨_, hcl, hat⟩ := World.cells?_some hc
      obtain ⟨c0, c1, c2, c3, c4, c5, c6, rfl⟩ := list7 hcl
      obtain ⟨y0, y1, y2, y3, y4, y5, y6, rfl⟩ := list7 hyl
      have g0 : DataW.trod enc Tryz.prog w base spare held n' 9 (List.take (Tryz.prog.cellsOf 9) (List.drop 0 [c0, c1, c2, c3, c4, c5, c6])) = some y0 := hf 0 _ rfl
      have g1 : DataW.trod enc Tryz.prog w base spare held n' 3 (List.take (Tryz.prog.cellsOf 3) (List.drop 1 [c0, c1, c2, c3, c4, c5, c6])) = some y1 := hf 1 _ rfl
      have g2 : DataW.trod enc Tryz.prog w base spare held n' 3 (List.take (Tryz.prog.cellsOf 3) (List.drop 2 [c0, c1, c2, c3, c4, c5, c6])) = some y2 := hf 2 _ rfl
      have g3 : DataW.trod enc Tryz.prog w base spare held n' 3 (List.take (Tryz.prog.cellsOf 3) (List.drop 3 [c0, c1, c2, c3, c4, c5, c6])) = some y3 := hf 3 _ rfl
      have g4 : DataW.trod enc Tryz.prog w base spare held n' 3 (List.take (Tryz.prog.cellsOf 3) (List.drop 4 [c0, c1, c2, c3, c4, c5, c6])) = some y4 := hf 4 _ rfl
      have g5 : DataW.trod enc Tryz.prog w base spare held n' 3 (List.take (Tryz.prog.cellsOf 3) (List.drop 5 [c0, c1, c2, c3, c4, c5, c6])) = some y5 := hf 5 _ rfl
      have g6 : DataW.trod enc Tryz.prog w base spare held n' 3 (List.take (Tryz.prog.cellsOf 3) (List.drop 6 [c0, c1, c2, c3, c4, c5, c6])) = some y6 := hf 6 _ rfl
      rw [show Tryz.prog.cellsOf 9 = 1 from by kernel_rfl] at g0
      rw [show Tryz.prog.cellsOf 3 = 1 from by kernel_rfl] at g1
      rw [show Tryz.prog.cellsOf 3 = 1 from by kernel_rfl] at g2
      rw [show Tryz.prog.cellsOf 3 = 1 from by kernel_rfl] at g3
      rw [show Tryz.prog.cellsOf 3 = 1 from by kernel_rfl] at g4
      rw [show Tryz.prog.cellsOf 3 = 1 from by kernel_rfl] at g5
      rw [show Tryz.prog.cellsOf 3 = 1 from by kernel_rfl] at g6
      obtain ⟨f0, rfl, hnm⟩ := str_of_trod (v := c0) g0
      obtain ⟨f1, rfl, -⟩ := int_of_trod (v := c1) g1
      obtain ⟨f2, rfl, -⟩ := int_of_trod (v := c2) g2
      obtain ⟨f3, rfl, -⟩ := int_of_trod (v := c3) g3
      obtain ⟨f4, rfl, -⟩ := int_of_trod (v := c4) g4
      obtain ⟨f5, rfl, -⟩ := int_of_trod (v := c5) g5
      obtain ⟨f6, rfl, -⟩ := int_of_trod (v := c6) g6
      refine ⟨⟨f0, f1, f2, f3, f4, f5, f6⟩, fun k u hk => ?_, hnm⟩
      have hk5 : k < 7 := (List.getElem?_eq_some_iff.1 hk).1
      rw [← add_add, hat k hk5]
      exact hk
    obtain ⟨T, hT⟩ := choose_lt each
    have hL : ((List.range len).map T).length = len := by simp
    refine ⟨(List.range len).map T, some a, cap, by rw [hL], ⟨some a, cap, by rw [hL], by rw [hL]; exact hl, hm, fun hn => ?_⟩, fun t ht => ?_⟩
    · rw [hL] at hn
      obtain ⟨b, off, sp⟩ := a
      have h0 := (hT 0 hn).1 0 _ rfl
      obtain rfl := spot_none h0
      have hlt : b < w.heap.size := by simpa [add_none] using cell_lt h0
      refine ⟨b, off, rfl, hlt, fun j u hu => ?_⟩
      obtain ⟨hj, hu'⟩ := flatAtK ItemT.cells 7 (by decide) (fun _ => rfl) _ _ _ hu
      rw [hL] at hj
      have := (hT _ hj).1 (j % 7) u (by simpa using hu')
      rw [add_none, Nat.div_add_mod' j 7] at this
      exact this
    · simp only [List.mem_map, List.mem_range] at ht
      obtain ⟨i, hi, rfl⟩ := ht
      exact (hT i hi).2
instance : Inhabited BrickT := ⟨⟨⟨#[]⟩, 0, 0⟩⟩
theorem bricks_of_trod {fuel : Nat} {v : Value} {x : DataW H × List MemPlace} (h : DataW.trod enc Tryz.prog w base spare held fuel 24 [v] = some x) :
    ∃ (l : List BrickT) (A : Option Addr) (c : Nat), v = .slice A l.length c ∧ Flat w w.heap.size v l.length (l.flatMap BrickT.cells) ∧ ∀ t ∈ l, t.name.size ≤ maxLen := by
  rcases open_slice Tryz.underlying24 h with ⟨hcs, -⟩ | ⟨a, len, cap, m, n, D, Pl, hcs, _, hl, hm, hmm, -, hi⟩
  · obtain rfl : v = .slice none 0 0 := by simpa using hcs
    exact ⟨[], none, 0, rfl, ⟨none, 0, rfl, Nat.le_refl _, Nat.zero_le _, fun h => absurd h (by simp)⟩, by simp⟩
  · obtain rfl : v = .slice (some a) len cap := by simpa using hcs
    have hle : len ≤ m := by rw [hmm]; split <;> omega
    have hC : Tryz.prog.cellsOf 88 = 3 := by kernel_rfl
    rw [hC] at hi
    have each : ∀ i, i < len → ∃ t : BrickT, (∀ k u, t.cells[k]? = some u → w.cell? (a.add (i * 3 + k)) = some u) ∧ t.name.size ≤ maxLen := fun i hil => by
      obtain ⟨cs, hc, ht⟩ := hi i (by omega)
      obtain ⟨ys, n', hn', hy, hlen, hyl, hf⟩ := DataW.trod_struct Tryz.underlying88 ht
      obtain ⟨_, hcl, hat⟩ := World.cells?_some hc
      obtain ⟨c0, c1, c2, rfl⟩ := list3 hcl
      obtain ⟨y0, y1, y2, rfl⟩ := list3 hyl
      have g0 : DataW.trod enc Tryz.prog w base spare held n' 9 (List.take (Tryz.prog.cellsOf 9) (List.drop 0 [c0, c1, c2])) = some y0 := hf 0 _ rfl
      have g1 : DataW.trod enc Tryz.prog w base spare held n' 3 (List.take (Tryz.prog.cellsOf 3) (List.drop 1 [c0, c1, c2])) = some y1 := hf 1 _ rfl
      have g2 : DataW.trod enc Tryz.prog w base spare held n' 3 (List.take (Tryz.prog.cellsOf 3) (List.drop 2 [c0, c1, c2])) = some y2 := hf 2 _ rfl
      rw [show Tryz.prog.cellsOf 9 = 1 from by kernel_rfl] at g0
      rw [show Tryz.prog.cellsOf 3 = 1 from by kernel_rfl] at g1
      rw [show Tryz.prog.cellsOf 3 = 1 from by kernel_rfl] at g2
      obtain ⟨f0, rfl, hnm⟩ := str_of_trod (v := c0) g0
      obtain ⟨f1, rfl, -⟩ := int_of_trod (v := c1) g1
      obtain ⟨f2, rfl, -⟩ := int_of_trod (v := c2) g2
      refine ⟨⟨f0, f1, f2⟩, fun k u hk => ?_, hnm⟩
      have hk5 : k < 3 := (List.getElem?_eq_some_iff.1 hk).1
      rw [← add_add, hat k hk5]
      exact hk
    obtain ⟨T, hT⟩ := choose_lt each
    have hL : ((List.range len).map T).length = len := by simp
    refine ⟨(List.range len).map T, some a, cap, by rw [hL], ⟨some a, cap, by rw [hL], by rw [hL]; exact hl, hm, fun hn => ?_⟩, fun t ht => ?_⟩
    · rw [hL] at hn
      obtain ⟨b, off, sp⟩ := a
      have h0 := (hT 0 hn).1 0 _ rfl
      obtain rfl := spot_none h0
      have hlt : b < w.heap.size := by simpa [add_none] using cell_lt h0
      refine ⟨b, off, rfl, hlt, fun j u hu => ?_⟩
      obtain ⟨hj, hu'⟩ := flatAtK BrickT.cells 3 (by decide) (fun _ => rfl) _ _ _ hu
      rw [hL] at hj
      have := (hT _ hj).1 (j % 3) u (by simpa using hu')
      rw [add_none, Nat.div_add_mod' j 3] at this
      exact this
    · simp only [List.mem_map, List.mem_range] at ht
      obtain ⟨i, hi, rfl⟩ := ht
      exact (hT i hi).2
theorem item_of_trod {fuel : Nat} {cs : Array Value} {x : DataW H × List MemPlace} (hlen : cs.size = 7) (h : DataW.trod enc Tryz.prog w base spare held fuel 57 (Value.agg cs).cells.toList = some x) :
    ∃ t : ItemT, Value.agg cs = t.val ∧ t.name.size ≤ maxLen := by
  obtain ⟨l⟩ := cs
  have h' : DataW.trod enc Tryz.prog w base spare held fuel 57 l = some x := h
  obtain ⟨ys, n', hn', hy, hlen', hyl, hf⟩ := DataW.trod_struct Tryz.underlying57 h'
  obtain ⟨c0, c1, c2, c3, c4, c5, c6, rfl⟩ := list7 (show l.length = 7 from hlen)
  obtain ⟨y0, y1, y2, y3, y4, y5, y6, rfl⟩ := list7 hyl
  have g0 : DataW.trod enc Tryz.prog w base spare held n' 9 (List.take (Tryz.prog.cellsOf 9) (List.drop 0 [c0, c1, c2, c3, c4, c5, c6])) = some y0 := hf 0 _ rfl
  have g1 : DataW.trod enc Tryz.prog w base spare held n' 3 (List.take (Tryz.prog.cellsOf 3) (List.drop 1 [c0, c1, c2, c3, c4, c5, c6])) = some y1 := hf 1 _ rfl
  have g2 : DataW.trod enc Tryz.prog w base spare held n' 3 (List.take (Tryz.prog.cellsOf 3) (List.drop 2 [c0, c1, c2, c3, c4, c5, c6])) = some y2 := hf 2 _ rfl
  have g3 : DataW.trod enc Tryz.prog w base spare held n' 3 (List.take (Tryz.prog.cellsOf 3) (List.drop 3 [c0, c1, c2, c3, c4, c5, c6])) = some y3 := hf 3 _ rfl
  have g4 : DataW.trod enc Tryz.prog w base spare held n' 3 (List.take (Tryz.prog.cellsOf 3) (List.drop 4 [c0, c1, c2, c3, c4, c5, c6])) = some y4 := hf 4 _ rfl
  have g5 : DataW.trod enc Tryz.prog w base spare held n' 3 (List.take (Tryz.prog.cellsOf 3) (List.drop 5 [c0, c1, c2, c3, c4, c5, c6])) = some y5 := hf 5 _ rfl
  have g6 : DataW.trod enc Tryz.prog w base spare held n' 3 (List.take (Tryz.prog.cellsOf 3) (List.drop 6 [c0, c1, c2, c3, c4, c5, c6])) = some y6 := hf 6 _ rfl
  rw [show Tryz.prog.cellsOf 9 = 1 from by kernel_rfl] at g0
  rw [show Tryz.prog.cellsOf 3 = 1 from by kernel_rfl] at g1
  rw [show Tryz.prog.cellsOf 3 = 1 from by kernel_rfl] at g2
  rw [show Tryz.prog.cellsOf 3 = 1 from by kernel_rfl] at g3
  rw [show Tryz.prog.cellsOf 3 = 1 from by kernel_rfl] at g4
  rw [show Tryz.prog.cellsOf 3 = 1 from by kernel_rfl] at g5
  rw [show Tryz.prog.cellsOf 3 = 1 from by kernel_rfl] at g6
  obtain ⟨f0, rfl, hnm⟩ := str_of_trod (v := c0) g0
  obtain ⟨f1, rfl, -⟩ := int_of_trod (v := c1) g1
  obtain ⟨f2, rfl, -⟩ := int_of_trod (v := c2) g2
  obtain ⟨f3, rfl, -⟩ := int_of_trod (v := c3) g3
  obtain ⟨f4, rfl, -⟩ := int_of_trod (v := c4) g4
  obtain ⟨f5, rfl, -⟩ := int_of_trod (v := c5) g5
  obtain ⟨f6, rfl, -⟩ := int_of_trod (v := c6) g6
  exact ⟨⟨f0, f1, f2, f3, f4, f5, f6⟩, rfl, hnm⟩
theorem set_of_trod {fuel : Nat} {cs : List Value} {x : DataW H × List MemPlace} (hlen : cs.length = 13) (h : DataW.trod enc Tryz.prog w base spare held fuel 26 cs = some x) :
    ∃ s, SetAt w w.heap.size (.agg cs.toArray) s ∧ SetNames s := by
  obtain ⟨ys, n', hn', hy, hlen', hyl, hf⟩ := DataW.trod_struct Tryz.underlying26 h
  obtain ⟨c0, c1, c2, c3, c4, c5, c6, c7, c8, c9, c10, c11, c12, rfl⟩ := list13 hlen
  obtain ⟨y0, y1, y2, y3, y4, y5, y6, y7, y8, y9, y10, y11, y12, rfl⟩ := list13 hyl
  have g0 : DataW.trod enc Tryz.prog w base spare held n' 9 (List.take (Tryz.prog.cellsOf 9) (List.drop 0 [c0, c1, c2, c3, c4, c5, c6, c7, c8, c9, c10, c11, c12])) = some y0 := hf 0 _ rfl
  have g1 : DataW.trod enc Tryz.prog w base spare held n' 3 (List.take (Tryz.prog.cellsOf 3) (List.drop 1 [c0, c1, c2, c3, c4, c5, c6, c7, c8, c9, c10, c11, c12])) = some y1 := hf 1 _ rfl
  have g2 : DataW.trod enc Tryz.prog w base spare held n' 3 (List.take (Tryz.prog.cellsOf 3) (List.drop 2 [c0, c1, c2, c3, c4, c5, c6, c7, c8, c9, c10, c11, c12])) = some y2 := hf 2 _ rfl
  have g3 : DataW.trod enc Tryz.prog w base spare held n' 3 (List.take (Tryz.prog.cellsOf 3) (List.drop 3 [c0, c1, c2, c3, c4, c5, c6, c7, c8, c9, c10, c11, c12])) = some y3 := hf 3 _ rfl
  have g4 : DataW.trod enc Tryz.prog w base spare held n' 3 (List.take (Tryz.prog.cellsOf 3) (List.drop 4 [c0, c1, c2, c3, c4, c5, c6, c7, c8, c9, c10, c11, c12])) = some y4 := hf 4 _ rfl
  have g5 : DataW.trod enc Tryz.prog w base spare held n' 22 (List.take (Tryz.prog.cellsOf 22) (List.drop 5 [c0, c1, c2, c3, c4, c5, c6, c7, c8, c9, c10, c11, c12])) = some y5 := hf 5 _ rfl
  have g6 : DataW.trod enc Tryz.prog w base spare held n' 3 (List.take (Tryz.prog.cellsOf 3) (List.drop 6 [c0, c1, c2, c3, c4, c5, c6, c7, c8, c9, c10, c11, c12])) = some y6 := hf 6 _ rfl
  have g7 : DataW.trod enc Tryz.prog w base spare held n' 3 (List.take (Tryz.prog.cellsOf 3) (List.drop 7 [c0, c1, c2, c3, c4, c5, c6, c7, c8, c9, c10, c11, c12])) = some y7 := hf 7 _ rfl
  have g8 : DataW.trod enc Tryz.prog w base spare held n' 3 (List.take (Tryz.prog.cellsOf 3) (List.drop 8 [c0, c1, c2, c3, c4, c5, c6, c7, c8, c9, c10, c11, c12])) = some y8 := hf 8 _ rfl
  have g9 : DataW.trod enc Tryz.prog w base spare held n' 3 (List.take (Tryz.prog.cellsOf 3) (List.drop 9 [c0, c1, c2, c3, c4, c5, c6, c7, c8, c9, c10, c11, c12])) = some y9 := hf 9 _ rfl
  have g10 : DataW.trod enc Tryz.prog w base spare held n' 3 (List.take (Tryz.prog.cellsOf 3) (List.drop 10 [c0, c1, c2, c3, c4, c5, c6, c7, c8, c9, c10, c11, c12])) = some y10 := hf 10 _ rfl
  have g11 : DataW.trod enc Tryz.prog w base spare held n' 23 (List.take (Tryz.prog.cellsOf 23) (List.drop 11 [c0, c1, c2, c3, c4, c5, c6, c7, c8, c9, c10, c11, c12])) = some y11 := hf 11 _ rfl
  have g12 : DataW.trod enc Tryz.prog w base spare held n' 24 (List.take (Tryz.prog.cellsOf 24) (List.drop 12 [c0, c1, c2, c3, c4, c5, c6, c7, c8, c9, c10, c11, c12])) = some y12 := hf 12 _ rfl
  rw [show Tryz.prog.cellsOf 9 = 1 from by kernel_rfl] at g0
  rw [show Tryz.prog.cellsOf 3 = 1 from by kernel_rfl] at g1
  rw [show Tryz.prog.cellsOf 3 = 1 from by kernel_rfl] at g2
  rw [show Tryz.prog.cellsOf 3 = 1 from by kernel_rfl] at g3
  rw [show Tryz.prog.cellsOf 3 = 1 from by kernel_rfl] at g4
  rw [show Tryz.prog.cellsOf 22 = 1 from by kernel_rfl] at g5
  rw [show Tryz.prog.cellsOf 3 = 1 from by kernel_rfl] at g6
  rw [show Tryz.prog.cellsOf 3 = 1 from by kernel_rfl] at g7
  rw [show Tryz.prog.cellsOf 3 = 1 from by kernel_rfl] at g8
  rw [show Tryz.prog.cellsOf 3 = 1 from by kernel_rfl] at g9
  rw [show Tryz.prog.cellsOf 3 = 1 from by kernel_rfl] at g10
  rw [show Tryz.prog.cellsOf 23 = 1 from by kernel_rfl] at g11
  rw [show Tryz.prog.cellsOf 24 = 1 from by kernel_rfl] at g12
  obtain ⟨f0, rfl, hnm⟩ := str_of_trod (v := c0) g0
  obtain ⟨f1, rfl, -⟩ := int_of_trod (v := c1) g1
  obtain ⟨f2, rfl, -⟩ := int_of_trod (v := c2) g2
  obtain ⟨f3, rfl, -⟩ := int_of_trod (v := c3) g3
  obtain ⟨f4, rfl, -⟩ := int_of_trod (v := c4) g4
  obtain ⟨f5, Al, cl, rfl, hL⟩ := intsS_of_trod (v := c5) g5
  obtain ⟨f6, rfl, -⟩ := int_of_trod (v := c6) g6
  obtain ⟨f7, rfl, -⟩ := int_of_trod (v := c7) g7
  obtain ⟨f8, rfl, -⟩ := int_of_trod (v := c8) g8
  obtain ⟨f9, rfl, -⟩ := int_of_trod (v := c9) g9
  obtain ⟨f10, rfl, -⟩ := int_of_trod (v := c10) g10
  obtain ⟨f11, Ai, ci, rfl, hI, hIn⟩ := items_of_trod (v := c11) g11
  obtain ⟨f12, Ab, cb, rfl, hB, hBn⟩ := bricks_of_trod (v := c12) g12
  exact ⟨⟨f0, f1, f2, f3, f4, f5, f6, f7, f8, f9, f10, f11, f12⟩, ⟨Al, cl, Ai, ci, Ab, cb, rfl, hL, hI, hB⟩, ⟨hnm, hIn, hBn⟩⟩
end
end Go.Proofs.YtpnongeibpkbhaaGreatDoor

/- LinesetTotals: for every input the law returns true, and its arguments read as they did. The listed tables of Go's library are never read. -/
namespace Go.Proofs.YtpnongeibpkbhaaGreatDoor
open Go.ChangeShapes Go.WideShapes Go.ChangeAt Go.RowKit

theorem linesetTotals_door (os : Os) (args : Array Value) : laidMetH Tryz.prog Rows.linesetTotalsRow.laid ((World.doorLaid Tryz.prog 400 os).forCall (fun _ _ => 0) ⟨#[], args, []⟩).memory :=
  laidMetH_of_parts3 (fuel := 8) (laidMet_of_run' 8 (by kernel_rfl) (by kernel_rfl)) (by kernel_rfl) (by kernel_rfl)
set_option maxRecDepth 100000 in
theorem linesetTotals_lifted (os : Os) (started : os.Started) (H : Type) (enc : TypeId × Value → H) :
    ReturnsInHanded {} Tryz.checked os 5 .any (fun w args => (Rows.linesetTotalsSpec.pre enc Tryz.prog Tryz.f5 [] false w args ∧ laidMetH Tryz.prog Rows.linesetTotalsRow.laid w) ∧ sizedMet enc Tryz.prog Tryz.f5 (OpenSpec.ofChange Rows.linesetTotalsSpec) false w args) (Rows.linesetTotalsSpec.post enc Tryz.prog Tryz.f5 false true false false) := by
  refine law_liftedL started (by kernel_rfl) Tryz.func5 rfl (by kernel_rfl) ?_ ?_ (ChangeSpec.witness_shaped (enc := enc) (C := Tryz.checked) (os := os) (X := fun w _ => laidMetH Tryz.prog Rows.linesetTotalsRow.laid w) false (World.doorLaid Tryz.prog 400 os) #[.agg #[.string ⟨#[]⟩, .int .i64 0, .int .i64 0, .int .i64 0, .int .i64 0, .slice none 0 0, .int .i64 0, .int .i64 0, .int .i64 0, .int .i64 0, .int .i64 0, .slice none 0 0, .slice none 0 0], .agg #[.string ⟨#[]⟩, .int .i64 0, .int .i64 0, .int .i64 0, .int .i64 0, .int .i64 0, .int .i64 0]] 8 rfl (World.shaped_of_RefB (by kernel_rfl) (by kernel_rfl)) (by kernel_rfl) (by kernel_rfl) (by kernel_rfl) (linesetTotals_door os _)) ?_
  · rw [Tryz.params5]
    intro t ht
    simp only [List.mem_cons, List.not_mem_nil, or_false] at ht
    rcases ht with rfl | rfl <;> exact ⟨by kernel_rfl, of_decide_eq_true (by kernel_rfl)⟩
  · intro ds hds
    match ds, hds with
    | [d0, d1], _ => exact ⟨rfl, rfl, rfl⟩
  · intro W base args ds ps hval hA
    rw [Tryz.params5] at hA hval
    obtain ⟨v0, vs0, d0, ds0, p0, q0, hargs, rfl, rfl, h0, r0⟩ := trodAll_cons hA
    obtain ⟨v1, vs1, d1, ds1, p1, q1, rfl, rfl, rfl, h1, r1⟩ := trodAll_cons r0
    obtain ⟨rfl, rfl, rfl⟩ := trodAll_nil r1
    obtain rfl : args = #[v0, v1] := by cases args; simp_all
    obtain ⟨cs0, rfl, hcs0⟩ := okWide_struct Tryz.underlying26 (hval 0 26 v0 rfl rfl)
    rw [show Tryz.prog.cellsOf 26 = 13 from by kernel_rfl] at hcs0
    obtain ⟨fuel0, hf0⟩ := h0
    obtain ⟨x0, hx0, hn0⟩ := set_of_trod (by simpa [Value.cells] using hcs0) hf0
    obtain ⟨cs1, rfl, hcs1⟩ := okWide_struct Tryz.underlying57 (hval 1 57 v1 rfl rfl)
    rw [show Tryz.prog.cellsOf 57 = 7 from by kernel_rfl] at hcs1
    obtain ⟨fuel1, hf1⟩ := h1
    obtain ⟨x1, hx1, hn1⟩ := item_of_trod hcs1 hf1
    rw [hx1]
    exact lawTotals _ x0 x1 W (by simpa [Value.cells] using hx0) hn0 hn1
theorem linesetTotals_row : Rows.LinesetTotalsSaid :=
  OpenClaim.holds_of_wide 5 Tryz.f5 rfl rfl rfl rfl rfl rfl rfl ⟨rfl, rfl, rfl, rfl, rfl⟩ rfl rfl rfl rfl rfl (by kernel_rfl) Tryz.func5 (by kernel_rfl)
    (of_decide_eq_true (by kernel_rfl)) (by unfold Func.isWrapper; first | (rw [if_pos (by decide +kernel)]; kernel_rfl) | (rw [if_neg (by decide +kernel)]; exact ⟨rfl, rfl⟩))
    (fun os started H enc _ => linesetTotals_lifted os started H enc)
theorem linesetTotals_holds : Rows.LinesetTotalsCardSaid :=
  Claim7.holds_tied_plain_at .later [] [.data, .data, .data] true Rows.linesetTotalsCard.stood.harness false
    linesetTotals_row (fun _ h => by cases h) (by kernel_rfl) (fun _ h => by cases h) linesetTotals_row_tie rfl ⟨rfl, rfl⟩ (by kernel_rfl) rfl
    (fun f fn hf hfn => by
      obtain rfl : f = 5 := Option.some.inj ((show Tryz.prog.funcNamed "loftblock/loftblocklaw29.LinesetTotals" = some 5 by kernel_rfl).symm.trans hf) |>.symm
      obtain rfl : fn = Tryz.f5 := (Option.some.inj (Tryz.func5.symm.trans hfn)).symm
      exact ⟨by kernel_rfl, fun j t ht => by
        rw [Tryz.params5] at ht
        have h3 : t = 26 ∨ t = 57 := by
          rcases j with _ | _ | j
          · exact .inl (by simpa using ht.symm)
          · exact .inr (by simpa using ht.symm)
          · simp at ht
        rcases h3 with rfl | rfl
        · exact (show Tryz.prog.wantsStandIn 26 = false by kernel_rfl)
        · exact (show Tryz.prog.wantsStandIn 57 = false by kernel_rfl)⟩)
    (by kernel_rfl)
#print axioms linesetTotals_holds
end Go.Proofs.YtpnongeibpkbhaaGreatDoor
