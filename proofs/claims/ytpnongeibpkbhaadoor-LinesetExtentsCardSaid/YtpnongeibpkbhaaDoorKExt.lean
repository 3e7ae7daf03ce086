/- For every input the law returns true, and its arguments read as they did: LawExt, Open, Row, RowL, OpenSet, RowExt. -/
import Derived.Below
import Derived.Carry
import Derived.ChangeSame
import Derived.Deep.Fields
import Derived.Deep.Slices
import Derived.LaidMore
import Derived.OpenShut
import Derived.ProofKit
import Derived.SliceStrings
import Derived.Stop.Joined
import Derived.Test.YtpnongeibpkbhaaDoorCards
import Derived.Test.YtpnongeibpkbhaaDoorD1
import Derived.Test.YtpnongeibpkbhaaDoorD2
import Derived.Test.YtpnongeibpkbhaaDoorD6
import Derived.Test.YtpnongeibpkbhaaDoorG1
import Derived.Test.YtpnongeibpkbhaaDoorRows
import Derived.Test.YtpnongeibpkbhaaDoorTie

/- The law LinesetExtents: the walk. -/
namespace Go.Proofs.YtpnongeibpkbhaaDoor
open Go.RowKit Go.Shelf

theorem lawLarge29 (v : Value) (s : SetT) (w : World) (hv : SetAt w w.heap.size v s) (hn : SetNames s) : Calls Tryd.prog 5 #[v] w (AnsB w) := by
  have HS := fun W (hb : Below w.heap.size w W) => refSmall v s 8 W ((hv.below hb (Nat.le_refl _)).mono hb.size) hn.name hn.items hn.bricks
  obtain ⟨Al, cl, Ai, ci, Ab, cb, rfl, -, -, -⟩ := hv
  have HB1 := Lib.hid ((Below.refl _ w).alloc (Nat.le_refl _) (.cells #[.string s.name, .int .i64 s.depth, .int .i64 s.low, .int .i64 s.high, .int .i64 s.len, .slice Al s.lines.length cl, .int .i64 s.pipe, .int .i64 s.arbor, .int .i64 s.purch, .int .i64 s.most, .int .i64 s.brake, .slice Ai s.items.length ci, .slice Ab s.bricks.length cb] 26))
  have hs := HS _ HB1.out
  clear HS hn
  unfold setVal at *
  go_enter Tryd.func5, Tryd.ntmps5
  go_wp2_with fail
  refine hs.mono ?_
  rintro e w2 ⟨q, rfl, hb2⟩
  have hb := HB1.out.trans (hb2.mono HB1.out.size)
  go_wp2_with fail
  go_ret
  exact ⟨_, rfl, hb⟩
theorem ext_form (s : SetT) (t : Int) : ∃ x0 x1 y0 y1 k : Int, extV s t = .tuple #[spanV x0 x1, spanV y0 y1, .int .i64 k] ∧
    ((setB s = true ∧ trimB s t = false ∧ k = 0 ∧ x0 = t - mxN ItemT.hang s.items ∧ x1 = t ∧ y0 = s.depth - mxN ItemT.back s.items ∧ y1 = s.depth + mxN ItemT.front s.items) ∨ ((k == 0) = false ∧ (k != 0) = true ∧ x0 = 0 ∧ x1 = 0 ∧ y0 = 0 ∧ y1 = 0)) := by
  cases h1 : setB s with
  | false => exact ⟨0, 0, 0, 0, 1, ext_no h1, .inr ⟨rfl, rfl, rfl, rfl, rfl, rfl⟩⟩
  | true =>
    cases h2 : trimB s t with
    | true => exact ⟨0, 0, 0, 0, 2, ext_out h1 h2, .inr ⟨rfl, rfl, rfl, rfl, rfl, rfl⟩⟩
    | false => exact ⟨_, _, _, _, _, ext_in h1 h2, .inl ⟨rfl, rfl, rfl, rfl, rfl, rfl, rfl⟩⟩
theorem two_spans (w : World) (a b : Array Value) : Blk ((w.alloc (.cells a 30)).alloc (.cells b 30)) w.heap.size 30 a ∧ Blk ((w.alloc (.cells a 30)).alloc (.cells b 30)) (w.heap.size + 1) 30 b ∧ Below w.heap.size w ((w.alloc (.cells a 30)).alloc (.cells b 30)) := by
  refine ⟨(Blk.new w _ a).alloc _, ?_, ((Below.refl _ w).alloc (Nat.le_refl _) _).alloc (by simp) _⟩
  have h := Blk.new (w.alloc (.cells a 30)) 30 b
  rw [World.size_alloc] at h
  exact h
set_option maxRecDepth 100000 in
set_option maxHeartbeats 4000000 in
theorem lawExtents (v : Value) (s : SetT) (a b : Int) (w : World) (hv : SetAt w w.heap.size v s) (hn : SetNames s) :
    Calls Tryd.prog 3 #[v, .int .i64 a, .int .i64 b] w fun e w' => e = .returned (.bool true) ∧ Below w.heap.size w w' := by
  have HLa := fun W (hb : Below w.heap.size w W) => lawLarge29 v s W ((hv.below hb (Nat.le_refl _)).mono hb.size) hn
  have HEx := Lib.hid fun t W (hb : Below w.heap.size w W) => lsExtent v s t W ((hv.below hb (Nat.le_refl _)).mono hb.size) hn
  obtain ⟨Al, cl, Ai, ci, Ab, cb, rfl, -, hI, -⟩ := hv
  obtain ⟨_, _, e, hi1, hi2, hic⟩ := hI.open_
  injection e with e1 _ e2
  subst e1 e2
  have HI := Lib.hid hic
  unfold maxLen at hi2
  have HD := Lib.hid (Blk.new w 26 #[.string s.name, .int .i64 s.depth, .int .i64 s.low, .int .i64 s.high, .int .i64 s.len, .slice Al s.lines.length cl, .int .i64 s.pipe, .int .i64 s.arbor, .int .i64 s.purch, .int .i64 s.most, .int .i64 s.brake, .slice Ai s.items.length ci, .slice Ab s.bricks.length cb])
  have HB1 := Lib.hid ((Below.refl _ w).alloc (Nat.le_refl _) (.cells #[.string s.name, .int .i64 s.depth, .int .i64 s.low, .int .i64 s.high, .int .i64 s.len, .slice Al s.lines.length cl, .int .i64 s.pipe, .int .i64 s.arbor, .int .i64 s.purch, .int .i64 s.most, .int .i64 s.brake, .slice Ai s.items.length ci, .slice Ab s.bricks.length cb] 26))
  have HLa := Lib.hid HLa
  clear hI hic hn
  unfold setVal at *
  go_enter Tryd.func3, Tryd.ntmps3
  go_wp2_with fail
  generalize w.alloc (.cells #[.string s.name, .int .i64 s.depth, .int .i64 s.low, .int .i64 s.high, .int .i64 s.len, .slice Al s.lines.length cl, .int .i64 s.pipe, .int .i64 s.arbor, .int .i64 s.purch, .int .i64 s.most, .int .i64 s.brake, .slice Ai s.items.length ci, .slice Ab s.bricks.length cb] 26) = W1 at *
  refine (lawAwake29 _).mono ?_
  rintro e w2 ⟨rfl, hb2⟩
  have HB2 := Lib.hid (HB1.out.trans (hb2.mono HB1.out.size))
  have HD2 := Lib.hid (HD.out.below hb2 HD.out.lt)
  have z0 := HD2.out.cell 0
  have z1 := HD2.out.cell 1
  have z2 := HD2.out.cell 2
  have z3 := HD2.out.cell 3
  have z4 := HD2.out.cell 4
  have z5 := HD2.out.cell 5
  have z6 := HD2.out.cell 6
  have z7 := HD2.out.cell 7
  have z8 := HD2.out.cell 8
  have z9 := HD2.out.cell 9
  have z10 := HD2.out.cell 10
  have z11 := HD2.out.cell 11
  have z12 := HD2.out.cell 12
  simp only [List.getElem?_toArray, List.getElem?_cons_succ, List.getElem?_cons_zero] at z0 z1 z2 z3 z4 z5 z6 z7 z8 z9 z10 z11 z12
  clear hb2 HB1 HD
  go_wp2_with fail
  refine (HLa.out _ HB2.out).mono ?_
  rintro e w3 ⟨q, rfl, hb3⟩
  have HB3 := Lib.hid (HB2.out.trans (hb3.mono HB2.out.size))
  have HD3 := Lib.hid (HD2.out.below hb3 HD2.out.lt)
  clear z0 z1 z2 z3 z4 z5 z6 z7 z8 z9 z10 z11 z12
  have z0 := HD3.out.cell 0
  have z1 := HD3.out.cell 1
  have z2 := HD3.out.cell 2
  have z3 := HD3.out.cell 3
  have z4 := HD3.out.cell 4
  have z5 := HD3.out.cell 5
  have z6 := HD3.out.cell 6
  have z7 := HD3.out.cell 7
  have z8 := HD3.out.cell 8
  have z9 := HD3.out.cell 9
  have z10 := HD3.out.cell 10
  have z11 := HD3.out.cell 11
  have z12 := HD3.out.cell 12
  simp only [List.getElem?_toArray, List.getElem?_cons_succ, List.getElem?_cons_zero] at z0 z1 z2 z3 z4 z5 z6 z7 z8 z9 z10 z11 z12
  clear hb3 HB2 HD2 HLa
  cases q with
  | true =>
    go_wp2_with fail
    go_ret
    exact ⟨rfl, HB3.out⟩
  | false =>
    go_wp2_with fail
    have hEa := HEx.out a _ HB3.out
    obtain ⟨x0, x1, y0, y1, ka, ea, HA⟩ := ext_form s a
    rw [ea] at hEa
    have HA := Lib.hid HA
    clear ea
    refine hEa.mono ?_
    rintro e w4 ⟨rfl, hb4⟩
    obtain ⟨t1, t2, tb⟩ := two_spans w4 #[.int .i64 x0, .int .i64 x1] #[.int .i64 y0, .int .i64 y1]
    have hb5 := hb4.trans (tb.mono hb4.size)
    have HB5 := Lib.hid (HB3.out.trans (hb5.mono HB3.out.size))
    have HD5 := Lib.hid (HD3.out.below hb5 HD3.out.lt)
    have T1 := Lib.hid t1
    have T2 := Lib.hid t2
    clear z0 z1 z2 z3 z4 z5 z6 z7 z8 z9 z10 z11 z12
    have z0 := HD5.out.cell 0
    have z1 := HD5.out.cell 1
    have z2 := HD5.out.cell 2
    have z3 := HD5.out.cell 3
    have z4 := HD5.out.cell 4
    have z5 := HD5.out.cell 5
    have z6 := HD5.out.cell 6
    have z7 := HD5.out.cell 7
    have z8 := HD5.out.cell 8
    have z9 := HD5.out.cell 9
    have z10 := HD5.out.cell 10
    have z11 := HD5.out.cell 11
    have z12 := HD5.out.cell 12
    simp only [List.getElem?_toArray, List.getElem?_cons_succ, List.getElem?_cons_zero] at z0 z1 z2 z3 z4 z5 z6 z7 z8 z9 z10 z11 z12
    clear hEa hb4 hb5 tb t1 t2 HB3 HD3
    go_wp2_with fail
    generalize (w4.alloc (.cells #[.int .i64 x0, .int .i64 x1] 30)).alloc (.cells #[.int .i64 y0, .int .i64 y1] 30) = W5 at *
    generalize w4.heap.size = G7 at *
    have hEb := HEx.out b _ HB5.out
    obtain ⟨u0, u1, v0, v1, kb, eb, HC⟩ := ext_form s b
    rw [eb] at hEb
    have HC := Lib.hid HC
    clear eb HEx
    refine hEb.mono ?_
    rintro e w6 ⟨rfl, hb6⟩
    obtain ⟨t1, t2, tb⟩ := two_spans w6 #[.int .i64 u0, .int .i64 u1] #[.int .i64 v0, .int .i64 v1]
    have hb7 := hb6.trans (tb.mono hb6.size)
    have HB7 := Lib.hid (HB5.out.trans (hb7.mono HB5.out.size))
    have HD7 := Lib.hid (HD5.out.below hb7 HD5.out.lt)
    have T17 := Lib.hid (T1.out.below hb7 T1.out.lt)
    have T27 := Lib.hid (T2.out.below hb7 T2.out.lt)
    have U1 := Lib.hid t1
    have U2 := Lib.hid t2
    clear z0 z1 z2 z3 z4 z5 z6 z7 z8 z9 z10 z11 z12
    have z1 := HD7.out.cell 1
    have z11 := HD7.out.cell 11
    have a0 := T17.out.cell 0
    have a1 := T17.out.cell 1
    have b0 := T27.out.cell 0
    have b1 := T27.out.cell 1
    have c0 := U1.out.cell 0
    have c1 := U1.out.cell 1
    have d0 := U2.out.cell 0
    have d1 := U2.out.cell 1
    simp only [List.getElem?_toArray, List.getElem?_cons_succ, List.getElem?_cons_zero] at z1 z11 a0 a1 b0 b1 c0 c1 d0 d1
    clear hEb hb6 hb7 tb t1 t2 HB5 HD5 T1 T2
    rcases HA.out with ⟨hok, hta, rfl, e1, e2, e3, e4⟩ | ⟨ka1, ka2, rfl, rfl, rfl, rfl⟩
    rotate_left
    · clear HA
      rcases HC.out with ⟨-, -, rfl, -, -, -, -⟩ | ⟨kb1, kb2, rfl, rfl, rfl, rfl⟩
      all_goals
        clear HC
        go_wp2_with fail
        go_ret
        exact ⟨rfl, HB7.out⟩
    rcases HC.out with ⟨-, htb, rfl, f1, f2, f3, f4⟩ | ⟨kb1, kb2, rfl, rfl, rfl, rfl⟩
    rotate_left
    · clear HA HC e1 e2 e3 e4 hok hta
      go_wp2_with fail
      go_ret
      exact ⟨rfl, HB7.out⟩
    have hk := setB_ok hok
    have hal := fun x (hx : x ∈ s.items) => alone_all (hk.wts.2 x hx).1
    have bd1 := mxTo_bd (f := ItemT.hang) (l := s.items) (fun x hx => (hal x hx).1) s.items.length (Nat.le_refl _)
    have bd2 := mxTo_bd (f := ItemT.front) (l := s.items) (fun x hx => (hal x hx).2.1) s.items.length (Nat.le_refl _)
    have bd3 := mxTo_bd (f := ItemT.back) (l := s.items) (fun x hx => (hal x hx).2.2) s.items.length (Nat.le_refl _)
    have HG := Lib.hid fun i (hi : i < s.items.length) => And.intro (mxTo_ge (f := ItemT.hang) _ (Nat.le_refl _) i hi hi) (And.intro (mxTo_ge (f := ItemT.front) _ (Nat.le_refl _) i hi hi) (mxTo_ge (f := ItemT.back) _ (Nat.le_refl _) i hi hi))
    have HAl := Lib.hid hal
    have hdp := hk.depth
    have hlow := hk.low
    have hra : 0 ≤ a ∧ a ≤ 1048576 := by
      unfold trimB at hta
      simp only [Bool.or_eq_false_iff, decide_eq_false_iff_not] at hta
      omega
    have hrb : 0 ≤ b ∧ b ≤ 1048576 := by
      unfold trimB at htb
      simp only [Bool.or_eq_false_iff, decide_eq_false_iff_not] at htb
      omega
    unfold mxN at e1 e3 e4 f1 f3 f4
    generalize mxTo ItemT.hang s.items s.items.length = hg at *
    generalize mxTo ItemT.front s.items s.items.length = fr at *
    generalize mxTo ItemT.back s.items s.items.length = bk at *
    subst e1 e2 e3 e4 f1 f2 f3 f4
    have v5 : IntKind.i64.wrap (x1 - (x1 - hg)) = hg := by rw [show x1 - (x1 - hg) = hg by omega]; exact IntWalk.i64_in _ (by omega)
    have v6 : IntKind.i64.wrap (u1 - (u1 - hg)) = hg := by rw [show u1 - (u1 - hg) = hg by omega]; exact IntWalk.i64_in _ (by omega)
    have p1 : decide (s.depth < s.depth - bk) = false := decide_eq_false (by omega)
    have p2 : decide (s.depth + fr < s.depth) = false := decide_eq_false (by omega)
    have p1' : decide (bk < 0) = false := decide_eq_false (by omega)
    have p2' : decide (fr < 0) = false := decide_eq_false (by omega)
    have Hb := Lib.hid (And.intro bd1 (And.intro bd2 (And.intro bd3 (And.intro hdp hra))))
    have HZ := Lib.hid (And.intro z1 (And.intro a0 (And.intro b0 b1)))
    clear HA HC hok hk hal hta htb bd1 bd2 bd3 hdp hlow hra hrb
    go_wp2_with fail
    go_loopw [100] (fun ix wr => ∃ k : Nat, k ≤ s.items.length ∧ ix = .int .i64 k ∧ Hid (Below w.heap.size w wr) ∧ Hid (Below (w6.heap.size + 2) ((w6.alloc (.cells #[.int .i64 (u1 - hg), .int .i64 u1] 30)).alloc (.cells #[.int .i64 (s.depth - bk), .int .i64 (s.depth + fr)] 30)) wr)) (fun ix _ => s.items.length - (intOf ix).toNat)
    case atStart => exact ⟨0, Nat.zero_le _, rfl, HB7, Below.refl _ _⟩
    case round =>
      obtain ⟨k, hk, rfl, HBw, HBr⟩ := hrel
      have k0 : (0 : Int) ≤ (k : Int) := Int.natCast_nonneg _
      have hsz : ((w6.alloc (.cells #[.int .i64 (u1 - hg), .int .i64 u1] 30)).alloc (.cells #[.int .i64 (s.depth - bk), .int .i64 (s.depth + fr)] 30)).heap.size = w6.heap.size + 2 := by simp
      have l1 : w.heap.size < w6.heap.size + 2 := by have := HD7.out.lt; omega
      have l2 := T17.out.lt
      have l3 := T27.out.lt
      rw [hsz] at l2 l3
      by_cases hkl : k < s.items.length
      · have k1 : (k : Int) < (s.items.length : Int) := by omega
        obtain ⟨b1', o1, rfl, hb1, hc⟩ := HI.out k hkl
        have y0 := (HBw.out.cell (p := ⟨b1', o1 + k * 7, none⟩) hb1).trans (hc k hkl).1
        have y1 := (HBw.out.cell (p := ⟨b1', o1 + k * 7 + 1, none⟩) hb1).trans (hc k hkl).2.1
        have y2 := (HBw.out.cell (p := ⟨b1', o1 + k * 7 + 2, none⟩) hb1).trans (hc k hkl).2.2.1
        have y3 := (HBw.out.cell (p := ⟨b1', o1 + k * 7 + 3, none⟩) hb1).trans (hc k hkl).2.2.2.1
        have y4 := (HBw.out.cell (p := ⟨b1', o1 + k * 7 + 4, none⟩) hb1).trans (hc k hkl).2.2.2.2.1
        have y5 := (HBw.out.cell (p := ⟨b1', o1 + k * 7 + 5, none⟩) hb1).trans (hc k hkl).2.2.2.2.2.1
        have y6 := (HBw.out.cell (p := ⟨b1', o1 + k * 7 + 6, none⟩) hb1).trans (hc k hkl).2.2.2.2.2.2
        obtain ⟨g1, g2, g3⟩ := HG.out k hkl
        obtain ⟨m1, m2, m3⟩ := HAl.out _ (List.getElem_mem hkl)
        obtain ⟨n1, n2, n3, n4, n5⟩ := Hb.out
        clear hc
        generalize s.items[k] = x at *
        obtain ⟨nm, pos, width, wt, hang, front, back⟩ := x
        simp only at y0 y1 y2 y3 y4 y5 y6 g1 g2 g3 m1 m2 m3
        have x5 : IntKind.i64.wrap (x1 - hang) = x1 - hang := IntWalk.i64_in _ (by omega)
        have x6 : IntKind.i64.wrap (s.depth - back) = s.depth - back := IntWalk.i64_in _ (by omega)
        have x7 : IntKind.i64.wrap (s.depth + front) = s.depth + front := IntWalk.i64_in _ (by omega)
        have p3 : decide (x1 - hang < x1 - hg) = false := decide_eq_false (by omega)
        have p4 : decide (s.depth - back < s.depth - bk) = false := decide_eq_false (by omega)
        have p5 : decide (s.depth + fr < s.depth + front) = false := decide_eq_false (by omega)
        have p6 : decide (hg < hang) = false := decide_eq_false (by omega)
        have p7 : decide (bk < back) = false := decide_eq_false (by omega)
        have p8 : decide (fr < front) = false := decide_eq_false (by omega)
        have hbA := HBr.out.alloc (by have := HBr.out.size; omega) (.cells #[.string nm, .int .i64 pos, .int .i64 width, .int .i64 wt, .int .i64 hang, .int .i64 front, .int .i64 back] 35)
        have hbB := HBw.out.alloc HBw.out.size (.cells #[.string nm, .int .i64 pos, .int .i64 width, .int .i64 wt, .int .i64 hang, .int .i64 front, .int .i64 back] 35)
        have q1 := (hbA.cell (p := ⟨w.heap.size, 1, none⟩) l1).trans HZ.out.1
        have q2 := (hbA.cell (p := ⟨G7, 0, none⟩) l2).trans HZ.out.2.1
        have q3 := (hbA.cell (p := ⟨G7 + 1, 0, none⟩) l3).trans HZ.out.2.2.1
        have q4 := (hbA.cell (p := ⟨G7 + 1, 1, none⟩) l3).trans HZ.out.2.2.2
        have HBA := Lib.hid hbA
        have HBB := Lib.hid hbB
        clear hbA hbB g1 g2 g3 m1 m2 m3 n1 n2 n3 n4 n5 l1 l2 l3 hsz
        go_wp2_with fail
        go_roundw
        case rel => exact ⟨k + 1, by omega, by go_num, HBB, HBA⟩
        case measure => simp [intOf]; omega
      · obtain rfl : k = s.items.length := by omega
        go_wp2_with fail
        go_ret
        exact ⟨rfl, HBw.out⟩
end Go.Proofs.YtpnongeibpkbhaaDoor

/- An argument that is a slice of tasks, read as data, is a list of tasks in memory. -/
namespace Go.Proofs.YtpnongeibpkbhaaDoor
open Go.RowKit Go.Shelf Go.ChangeShapes Go.WideShapes Go.Deep

theorem add_none (b off k : Nat) : (Addr.mk b off none).add k = ⟨b, off + k, none⟩ := by
  unfold Addr.add
  split
  · rename_i h; subst h; rfl
  · rfl
theorem cell_lt {w : World} {a : Addr} {v : Value} (h : w.cell? a = some v) : a.block < w.heap.size := by
  unfold World.cell? at h
  split at h
  · rename_i c t z hh
    exact (Array.getElem?_eq_some_iff.1 hh).1
  · cases h
theorem spot_none {w : World} {b off : Nat} {s : Option Nat} {v : Value} (h : w.cell? ((Addr.mk b off s).add 0) = some v) : s = none := by
  simpa [Addr.add] using World.cell?_spot h

theorem list5 {α : Type} : ∀ {cs : List α}, cs.length = 5 → ∃ a b c d e, cs = [a, b, c, d, e]
  | [a, b, c, d, e], _ => ⟨a, b, c, d, e, rfl⟩

section
variable {H : Type} {enc : TypeId × Value → H} {w : World} {base : Nat} {spare : Nat → Bool} {held : Bool}

theorem int_of_trod {fuel : Nat} {v : Value} {x : DataW H × List MemPlace} (h : DataW.trod enc Tryd.prog w base spare held fuel 3 [v] = some x) :
    ∃ n : Int, v = .int .i64 n ∧ -9223372036854775808 ≤ n ∧ n ≤ 9223372036854775807 := by
  obtain ⟨n, hv, -, hw⟩ := DataW.trod_int Tryd.underlying3 h
  simp [Lit.wf, IntKind.min, IntKind.max, IntKind.signed, IntKind.bits] at hw
  exact ⟨n, by simpa using hv, by omega, by omega⟩
theorem str_of_trod {fuel : Nat} {v : Value} {x : DataW H × List MemPlace} (h : DataW.trod enc Tryd.prog w base spare held fuel 9 [v] = some x) :
    ∃ s : ByteArray, v = .string s ∧ s.size ≤ maxLen := by
  obtain ⟨s, hv, -, hw⟩ := DataW.trod_string Tryd.underlying9 h
  exact ⟨s, by simpa using hv, hw⟩
end

instance : Inhabited Task := ⟨⟨⟨#[]⟩, 0, 0, 0, none, 0, []⟩⟩

theorem flat_at (l : List Task) (x : Nat) (u : Value) (hu : (l.flatMap Task.cells)[x]? = some u) : ∃ (hj : x / 5 < l.length), l[x / 5].cells[x % 5]? = some u := by
  have hlen : (l.flatMap Task.cells).length = l.length * 5 := by
    clear hu
    induction l with
    | nil => rfl
    | cons t l ih => rw [List.flatMap_cons, List.length_append, ih]; simp [Task.cells]; omega
  have hx := (List.getElem?_eq_some_iff.1 hu).1
  rw [hlen] at hx
  have hj : x / 5 < l.length := by omega
  refine ⟨hj, ?_⟩
  rw [← flat_get l (x / 5) (x % 5) hj (by omega), show x / 5 * 5 + x % 5 = x by omega]
  exact hu

section
variable {H : Type} {enc : TypeId × Value → H} {w : World} {base : Nat} {spare : Nat → Bool} {held : Bool}

end

end Go.Proofs.YtpnongeibpkbhaaDoor

/- From a law's walk to its row: the arguments read behind the call as they did, the result is true. -/
namespace Go.Proofs.YtpnongeibpkbhaaDoor
open Go.ChangeShapes Go.WideShapes Go.ChangeAt Go.RowKit

theorem Tryd.own : ownKnob Tryd.prog.godebug = none := by kernel_rfl
theorem Tryd.laidOut : laidOutB Tryd.prog = true := by kernel_rfl

section
variable {H : Type} {enc : TypeId × Value → H} {P : Program}
theorem post_of_below {f : Func} {s : ChangeSpec} {apart fresh handsOn again : Bool} {W W' : World} {args : Array Value} {v : Value} {ds gs : List (DataW H)} {before pa pv : List MemPlace}
    (hW : DataW.Whole enc P f.params.toList s.vars apart W args.toList ds gs before)
    (hres : ∀ (b : Nat) (sp : Nat → Bool) (hd : Bool), DataW.TrodAll enc P W' b sp hd f.resultTypes.toList (v.resultList f.resultTypes.size) (s.fn H (ds ++ gs)).results [])
    (hargs : ∀ sp : Nat → Bool, (∀ p ∈ before, sp p.block = true) → DataW.TrodAll enc P W' 0 sp true f.params.toList args.toList (s.fn H (ds ++ gs)).args pa)
    (hvars : ∀ sp : Nat → Bool, (∀ p ∈ before, sp p.block = true) → DataW.TrodVars enc P W' sp s.vars (s.fn H (ds ++ gs)).vars pv)
    (hps : before = pa ++ pv) (hb : Below W.heap.size W W')
    (hok : ∀ (j : Nat) (t : TypeId) (r : Value), f.resultTypes[j]? = some t → (v.resultList f.resultTypes.size)[j]? = some r → Value.okWide P W' .any 0 t r) :
    s.post enc P f apart fresh handsOn again W args v W' := by
  have hlt : ∀ p ∈ before, p.block < W.heap.size := fun p hp => hW.lt p hp
  have hold : ∀ p ∈ before, (fun b => decide (b < W.heap.size)) p.block = true := fun p hp => by simpa using hlt p hp
  refine ⟨ds, gs, before, [], pa, pv, hW, hres _ _ _, hargs _ hold, hvars _ hold, World.keptBut_mono (fun p hp => ⟨hp, ?_⟩) (hb.frame (· ∈ before)), fun _ => ?_⟩
  · rw [hps, List.mem_append] at hp
    exact Or.inr hp
  · obtain ⟨_, _, _, _, _, hz, hn⟩ := hW
    refine ⟨hok, _, _, ([] ++ pa) ++ pv, ⟨[] ++ pa, pv, trodAll_append (hargs _ (fun _ _ => rfl)) (hres _ _ _), hvars _ (fun _ _ => rfl), rfl, ?_, ?_⟩, ?_⟩
    · intro b off hp
      have hin : MemPlace.cell b off ∈ before := by rw [hps]; simpa using hp
      rw [hb.frozen (hlt _ hin)]
      exact hz b off hin
    · intro ha
      have := hn ha
      rw [hps] at this
      simpa using this
    · intro p hp _
      rw [hps]
      simpa using hp

theorem trodAll_len {W : World} {base : Nat} {sp : Nat → Bool} {held : Bool} : ∀ {ts : List TypeId} {vs : List Value} {ds : List (DataW H)} {ps : List MemPlace}, DataW.TrodAll enc P W base sp held ts vs ds ps → ds.length = ts.length
  | [], [], [], _, _ => rfl
  | _ :: ts, _ :: vs, _ :: ds, _, ⟨_, _, _, h2, _⟩ => by rw [List.length_cons, List.length_cons, trodAll_len h2]
/-- All arguments read as they did. -/
theorem stays_all (hl : laidOutB P = true) {W W' : World} {sp : Nat → Bool} (hb : Below W.heap.size W W') : ∀ {ts : List TypeId} {vs : List Value} {ds : List (DataW H)} {ps : List MemPlace},
    (∀ t ∈ ts, P.readableRec t = true ∧ t < P.types.size) → DataW.TrodAll enc P W 0 (fun _ => true) true ts vs ds ps → (∀ p ∈ ps, p.block < W.heap.size) → (∀ p ∈ ps, sp p.block = true) → DataW.TrodAll enc P W' 0 sp true ts vs ds ps
  | [], [], [], _, _, h, _, _ => h
  | t :: _, _ :: _, _ :: _, _, ht, ⟨p, q, h1, h2, e⟩, hlt, hs => ⟨p, q,
      WideElems.Trod_stays hl (ht t List.mem_cons_self).1 (ht t List.mem_cons_self).2 h1 (fun x hx => hb.same (hlt x (by rw [e]; exact List.mem_append_left _ hx))) (fun x hx => hs x (by rw [e]; exact List.mem_append_left _ hx)),
      stays_all hl hb (fun t ht' => ht t (List.mem_cons_of_mem _ ht')) h2 (fun x hx => hlt x (by rw [e]; exact List.mem_append_right _ hx)) (fun x hx => hs x (by rw [e]; exact List.mem_append_right _ hx)), e⟩
end


set_option maxRecDepth 100000 in
theorem law_lifted {K : FuncId} {fn : Func} {s : ChangeSpec} {conds : List PathCond} {H : Type} {enc : TypeId × Value → H} {os : Os} (started : os.Started) (noInit : Tryd.prog.inits.idxOf? K = none) (hfn : Tryd.prog.funcs[K]? = some fn)
    (hvars : s.vars = []) (hres : fn.resultTypes = #[4]) (hrd : ∀ t ∈ fn.params.toList, Tryd.prog.readableRec t = true ∧ t < Tryd.prog.types.size)
    (hspec : ∀ ds : List (DataW H), ds.length = fn.params.size → (s.fn H ds).results = [.lit (.bool true)] ∧ (s.fn H ds).args = ds ∧ (s.fn H ds).vars = [])
    (witness : ∃ (w : World) (tape : Tape) (i : Input), w.os = os ∧ (w.forCall tape i).Shaped Tryd.prog ∧ i.vars = [] ∧ Input.okWide Tryd.prog (w.forCall tape i) .any w.heap.size K i ∧
      s.pre6 enc Tryd.prog fn conds false (w.forCall tape i).memory i.args ∧ ({} : Assume).holds Tryd.prog (lone (Frame.enter Tryd.prog K i.args .normal) [] (w.forCall tape i)))
    (call : ∀ (W : World) (base : Nat) (args : Array Value) (ds : List (DataW H)) (ps : List MemPlace), (∀ (j : Nat) t v, fn.params[j]? = some t → args[j]? = some v → Value.okWide Tryd.prog W .any base t v) →
      DataW.TrodAll enc Tryd.prog W 0 (fun _ => true) true fn.params.toList args.toList ds ps → Calls Tryd.prog K args W fun e W' => e = .returned (.bool true) ∧ Below W.heap.size W W') :
    ReturnsInHanded {} Tryd.checked os K .any (s.pre6 enc Tryd.prog fn conds false) (s.post enc Tryd.prog fn false true false false) := by
  refine returnsInHanded_of_change (C := Tryd.checked) Tryd.own started noInit hfn witness ?_
  intro W base args ds gs before hval hW hcnd _
  have hW' := hW
  obtain ⟨p, q, hA, hV, rfl, hfz, hnd⟩ := hW
  rw [hvars] at hV
  obtain ⟨rfl, rfl⟩ := trodVars_none hV
  rw [List.append_nil] at hW'
  have hlen : ds.length = fn.params.size := by rw [trodAll_len hA, Array.length_toList]
  obtain ⟨e1, e2, e3⟩ := hspec ds hlen
  refine (call W base args ds p hval hA).mono fun e W' ⟨he, hb⟩ => ?_
  subst he
  have hlt : ∀ x ∈ p, x.block < W.heap.size := fun x hx => hW'.lt x hx
  refine ⟨_, rfl, post_of_below (pa := p) (pv := []) hW' (fun _ _ _ => ?_) (fun sp hsp => ?_) (fun _ _ => ?_) (by simp) hb ?_⟩
  · rw [List.append_nil, e1, hres]
    exact trodAll_mk1 (shut_bool Tryd.underlying4 _)
  · rw [List.append_nil, e2]
    exact stays_all Tryd.laidOut hb hrd hA hlt hsp
  · rw [List.append_nil, e3, hvars]
    rfl
  · exact ok_one hres rfl (okWide_bool_mk Tryd.underlying4 _)

end Go.Proofs.YtpnongeibpkbhaaDoor

/- From a law's walk to its row, where the row lists variables. -/
namespace Go.Proofs.YtpnongeibpkbhaaDoor
open Go.ChangeShapes Go.WideShapes Go.ChangeAt Go.RowKit

set_option maxRecDepth 100000 in
theorem law_liftedL {laidL : List (String × DataW Unit)} {K : FuncId} {fn : Func} {s : ChangeSpec} {H : Type} {enc : TypeId × Value → H} {os : Os} (started : os.Started) (noInit : Tryd.prog.inits.idxOf? K = none) (hfn : Tryd.prog.funcs[K]? = some fn)
    (hvars : s.vars = []) (hres : fn.resultTypes = #[4]) (hrd : ∀ t ∈ fn.params.toList, Tryd.prog.readableRec t = true ∧ t < Tryd.prog.types.size)
    (hspec : ∀ ds : List (DataW H), ds.length = fn.params.size → (s.fn H ds).results = [.lit (.bool true)] ∧ (s.fn H ds).args = ds ∧ (s.fn H ds).vars = [])
    (witness : ∃ (w : World) (tape : Tape) (i : Input), w.os = os ∧ (w.forCall tape i).Shaped Tryd.prog ∧ i.vars = [] ∧ Input.okWide Tryd.prog (w.forCall tape i) .any w.heap.size K i ∧
      ((s.pre enc Tryd.prog fn [] false (w.forCall tape i).memory i.args ∧ laidMetH Tryd.prog laidL (w.forCall tape i).memory) ∧ sizedMet enc Tryd.prog fn (OpenSpec.ofChange s) false (w.forCall tape i).memory i.args) ∧ ({} : Assume).holds Tryd.prog (lone (Frame.enter Tryd.prog K i.args .normal) [] (w.forCall tape i)))
    (call : ∀ (W : World) (base : Nat) (args : Array Value) (ds : List (DataW H)) (ps : List MemPlace), (∀ (j : Nat) t v, fn.params[j]? = some t → args[j]? = some v → Value.okWide Tryd.prog W .any base t v) →
      DataW.TrodAll enc Tryd.prog W 0 (fun _ => true) true fn.params.toList args.toList ds ps → Calls Tryd.prog K args W fun e W' => e = .returned (.bool true) ∧ Below W.heap.size W W') :
    ReturnsInHanded {} Tryd.checked os K .any (fun w args => (s.pre enc Tryd.prog fn [] false w args ∧ laidMetH Tryd.prog laidL w) ∧ sizedMet enc Tryd.prog fn (OpenSpec.ofChange s) false w args) (s.post enc Tryd.prog fn false true false false) := by
  refine returnsInHanded_of_change_and (C := Tryd.checked) (X := fun w _ => laidMetH Tryd.prog laidL w) (fun _ _ _ hh h => h.of_heap hh) Tryd.own started noInit hfn witness ?_
  intro W base args ds gs before hval hW _ _ _ _
  have hW' := hW
  obtain ⟨p, q, hA, hV, rfl, hfz, hnd⟩ := hW
  rw [hvars] at hV
  obtain ⟨rfl, rfl⟩ := trodVars_none hV
  rw [List.append_nil] at hW'
  have hlen : ds.length = fn.params.size := by rw [trodAll_len hA, Array.length_toList]
  obtain ⟨e1, e2, e3⟩ := hspec ds hlen
  refine (call W base args ds p hval hA).mono fun e W' ⟨he, hb⟩ => ?_
  subst he
  have hlt : ∀ x ∈ p, x.block < W.heap.size := fun x hx => hW'.lt x hx
  refine ⟨_, rfl, post_of_below (pa := p) (pv := []) hW' (fun _ _ _ => ?_) (fun sp hsp => ?_) (fun _ _ => ?_) (by simp) hb ?_⟩
  · rw [List.append_nil, e1, hres]
    exact trodAll_mk1 (shut_bool Tryd.underlying4 _)
  · rw [List.append_nil, e2]
    exact stays_all Tryd.laidOut hb hrd hA hlt hsp
  · rw [List.append_nil, e3, hvars]
    rfl
  · exact ok_one hres rfl (okWide_bool_mk Tryd.underlying4 _)
end Go.Proofs.YtpnongeibpkbhaaDoor

/- An argument that is a line set, read as data, is a line set in memory. Written by gen_openset.py. -/
namespace Go.Proofs.YtpnongeibpkbhaaDoor
open Go.RowKit Go.Shelf Go.ChangeShapes Go.WideShapes Go.Deep

theorem list3 {α : Type} : ∀ {cs : List α}, cs.length = 3 → ∃ a b c, cs = [a, b, c]
  | [a, b, c], _ => ⟨a, b, c, rfl⟩
theorem list7 {α : Type} : ∀ {cs : List α}, cs.length = 7 → ∃ a b c d e f g, cs = [a, b, c, d, e, f, g]
  | [a, b, c, d, e, f, g], _ => ⟨a, b, c, d, e, f, g, rfl⟩
theorem list13 {α : Type} : ∀ {cs : List α}, cs.length = 13 → ∃ a0 a1 a2 a3 a4 a5 a6 a7 a8 a9 a10 a11 a12, cs = [a0, a1, a2, a3, a4, a5, a6, a7, a8, a9, a10, a11, a12]
  | [a0, a1, a2, a3, a4, a5, a6, a7, a8, a9, a10, a11, a12], _ => ⟨a0, a1, a2, a3, a4, a5, a6, a7, a8, a9, a10, a11, a12, rfl⟩
theorem flatAtK {α : Type} (f : α → List Value) (k : Nat) (hk : 0 < k) (hf : ∀ x, (f x).length = k) (l : List α) (x : Nat) (u : Value) (hu : (l.flatMap f)[x]? = some u) : ∃ (hj : x / k < l.length), (f l[x / k])[x % k]? = some u := by
  have hlen : (l.flatMap f).length = l.length * k := by
    clear hu
    induction l with
    | nil => simp
    | cons t l ih => rw [List.flatMap_cons, List.length_append, ih, hf, List.length_cons, Nat.succ_mul]; omega
  have hx := (List.getElem?_eq_some_iff.1 hu).1
  rw [hlen] at hx
  have hj : x / k < l.length := by rw [Nat.div_lt_iff_lt_mul hk]; exact hx
  refine ⟨hj, ?_⟩
  rw [← flatGet f k hf l (x / k) (x % k) hj (Nat.mod_lt _ hk), Nat.div_add_mod' x k]
  exact hu

section
variable {H : Type} {enc : TypeId × Value → H} {w : World} {base : Nat} {spare : Nat → Bool} {held : Bool}
theorem intsS_of_trod {fuel : Nat} {v : Value} {x : DataW H × List MemPlace} (h : DataW.trod enc Tryd.prog w base spare held fuel 22 [v] = some x) :
    ∃ (s : List Int) (A : Option Addr) (c : Nat), v = .slice A s.length c ∧ IntsAt w w.heap.size v s := by
  rcases open_slice1 Tryd.underlying22 (by kernel_rfl) h with ⟨hcs, -⟩ | ⟨a, len, cap, m, n, V, D, Pl, hcs, _, hl, hm, hmm, -, hi⟩
  · obtain rfl : v = .slice none 0 0 := by simpa using hcs
    exact ⟨[], none, 0, rfl, none, 0, rfl, Nat.le_refl _, Nat.zero_le _, fun h => absurd h (by simp)⟩
  · obtain rfl : v = .slice (some a) len cap := by simpa using hcs
    have hle : len ≤ m := by rw [hmm]; split <;> omega
    have each : ∀ i, i < len → ∃ z : Int, w.cell? (a.add i) = some (.int .i64 z) := fun i hil => by
      obtain ⟨h1, h2⟩ := hi i (by omega)
      obtain ⟨z, hz, -⟩ := int_of_trod h2
      exact ⟨z, by rw [h1, hz]⟩
    obtain ⟨Z, hZ⟩ := choose_lt each
    have hL : ((List.range len).map Z).length = len := by simp
    refine ⟨(List.range len).map Z, some a, cap, by rw [hL], some a, cap, by rw [hL], by rw [hL]; exact hl, hm, fun hn => ?_⟩
    rw [hL] at hn
    obtain ⟨b, off, sp⟩ := a
    have h0 := hZ 0 hn
    obtain rfl := spot_none h0
    have hlt : b < w.heap.size := by simpa [add_none] using cell_lt h0
    refine ⟨b, off, rfl, hlt, fun j u hu => ?_⟩
    rw [List.getElem?_map, Option.map_eq_some_iff] at hu
    obtain ⟨z, hz, rfl⟩ := hu
    have hj : j < len := by have := (List.getElem?_eq_some_iff.1 hz).1; simpa using this
    have hz' : Z j = z := by simpa [hj] using hz
    have := hZ j hj
    rw [add_none, hz'] at this
    exact this
instance : Inhabited ItemT := ⟨⟨⟨#[]⟩, 0, 0, 0, 0, 0, 0⟩⟩
theorem items_of_trod {fuel : Nat} {v : Value} {x : DataW H × List MemPlace} (h : DataW.trod enc Tryd.prog w base spare held fuel 23 [v] = some x) :
    ∃ (l : List ItemT) (A : Option Addr) (c : Nat), v = .slice A l.length c ∧ Flat w w.heap.size v l.length (l.flatMap ItemT.cells) ∧ ∀ t ∈ l, t.name.size ≤ maxLen := by
  rcases open_slice Tryd.underlying23 h with ⟨hcs, -⟩ | ⟨a, len, cap, m, n, D, Pl, hcs, _, hl, hm, hmm, -, hi⟩
  · obtain rfl : v = .slice none 0 0 := by simpa using hcs
    exact ⟨[], none, 0, rfl, ⟨none, 0, rfl, Nat.le_refl _, Nat.zero_le _, fun h => absurd h (by simp)⟩, by simp⟩
  · obtain rfl : v = .slice (some a) len cap := by simpa using hcs
    have hle : len ≤ m := by rw [hmm]; split <;> omega
    have hC : Tryd.prog.cellsOf 35 = 7 := by kernel_rfl
    rw [hC] at hi
    have each : ∀ i, i < len → ∃ t : ItemT, (∀ k u, t.cells[k]? = some u → w.cell? (a.add (i * 7 + k)) = some u) ∧ t.name.size ≤ maxLen := fun i hil => by
      obtain ⟨cs, hc, ht⟩ := hi i (by omega)
      obtain ⟨ys, n', hn', hy, hlen, hyl, hf⟩ := DataW.trod_struct Tryd.underlying35 ht
      obtain ⟨_, hcl, hat⟩ := World.cells?_some hc
      obtain ⟨c0, c1, c2, c3, c4, c5, c6, rfl⟩ := list7 hcl
      obtain ⟨y0, y1, y2, y3, y4, y5, y6, rfl⟩ := list7 hyl
      have g0 : DataW.trod enc Tryd.prog w base spare held n' 9 (List.take (Tryd.prog.cellsOf 9) (List.drop 0 [c0, c1, c2, c3, c4, c5, c6])) = some y0 := hf 0 _ rfl
      have g1 : DataW.trod enc Tryd.prog w base spare held n' 3 (List.take (Tryd.prog.cellsOf 3) (List.drop 1 [c0, c1, c2, c3, c4, c5, c6])) = some y1 := hf 1 _ rfl
      have g2 : DataW.trod enc Tryd.prog w base spare held n' 3 (List.take (Tryd.prog.cellsOf 3) (List.drop 2 [c0, c1, c2, c3, c4, c5, c6])) = some y2 := hf 2 _ rfl
      have g3 : DataW.trod enc Tryd.prog w base spare held n' 3 (List.take (Tryd.prog.cellsOf 3) (List.drop 3 [c0, c1, c2, c3, c4, c5, c6])) = some y3 := hf 3 _ rfl
      have g4 : DataW.trod enc Tryd.prog w base spare held n' 3 (List.take (Tryd.prog.cellsOf 3) (List.drop 4 [c0, c1, c2, c3, c4, c5, c6])) = some y4 := hf 4 _ rfl
      have g5 : DataW.trod enc Tryd.prog w base spare held n' 3 (List.take (Tryd.prog.cellsOf 3) (List.drop 5 [c0, c1, c2, c3, c4, c5, c6])) = some y5 := hf 5 _ rfl
      have g6 : DataW.trod enc Tryd.prog w base spare held n' 3 (List.take (Tryd.prog.cellsOf 3) (List.drop 6 [c0, c1, c2, c3, c4, c5, c6])) = some y6 := hf 6 _ rfl
      rw [show Tryd.prog.cellsOf 9 = 1 from by kernel_rfl] at g0
      rw [show Tryd.prog.cellsOf 3 = 1 from by kernel_rfl] at g1
      rw [show Tryd.prog.cellsOf 3 = 1 from by kernel_rfl] at g2
      rw [show Tryd.prog.cellsOf 3 = 1 from by kernel_rfl] at g3
      rw [show Tryd.prog.cellsOf 3 = 1 from by kernel_rfl] at g4
      rw [show Tryd.prog.cellsOf 3 = 1 from by kernel_rfl] at g5
      rw [show Tryd.prog.cellsOf 3 = 1 from by kernel_rfl] at g6
      obtain ⟨f0, rfl, hnm⟩ := str_of_trod (v := c0) g0
      obtain ⟨f1, rfl, -⟩ := int_of_trod (v := c1) g1
      obtain ⟨f2, rfl, -⟩ := int_of_trod (v := c2) g2
      obtain ⟨f3, rfl, -⟩ := int_of_trod (v := c3) g3
      obtain ⟨f4, rfl, -⟩ := int_of_trod (v := c4) g4
      obtain ⟨f5, rfl, -⟩ := int_of_trod (v := c5) g5
      obtain ⟨f6, rfl, -⟩ := int_of_trod (v := c6) g6
      refine ⟨⟨f0, f1, f2, f3, f4, f5, f6⟩, fun k u hk => ?_, hnm⟩
      have hk5 : k < 7 := (List.getElem?_eq_some_iff.1 hk).1
      rw [← add_add, hat k hk5]
      exact hk
    obtain ⟨T, hT⟩ := choose_lt each
    have hL : ((List.range len).map T).length = len := by simp
    refine ⟨(List.range len).map T, some a, cap, by rw [hL], ⟨some a, cap, by rw [hL], by rw [hL]; exact hl, hm, fun hn => ?_⟩, fun t ht => ?_⟩
    · rw [hL] at hn
      obtain ⟨b, off, sp⟩ := a
      have h0 := (hT 0 hn).1 0 _ rfl
      obtain rfl := spot_none h0
      have hlt : b < w.heap.size := by simpa [add_none] using cell_lt h0
      refine ⟨b, off, rfl, hlt, fun j u hu => ?_⟩
      obtain ⟨hj, hu'⟩ := flatAtK ItemT.cells 7 (by decide) (fun _ => rfl) _ _ _ hu
      rw [hL] at hj
      have := (hT _ hj).1 (j % 7) u (by simpa using hu')
      rw [add_none, Nat.div_add_mod' j 7] at this
      exact this
    · simp only [List.mem_map, List.mem_range] at ht
      obtain ⟨i, hi, rfl⟩ := ht
      exact (hT i hi).2
instance : Inhabited BrickT := ⟨⟨⟨#[]⟩, 0, 0⟩⟩
theorem bricks_of_trod {fuel : Nat} {v : Value} {x : DataW H × List MemPlace} (h : DataW.trod enc Tryd.prog w base spare held fuel 24 [v] = some x) :
    ∃ (l : List BrickT) (A : Option Addr) (c : Nat), v = .slice A l.length c ∧ Flat w w.heap.size v l.length (l.flatMap BrickT.cells) ∧ ∀ t ∈ l, t.name.size ≤ maxLen := by
  rcases open_slice Tryd.underlying24 h with ⟨hcs, -⟩ | ⟨a, len, cap, m, n, D, Pl, hcs, _, hl, hm, hmm, -, hi⟩
  · obtain rfl : v = .slice none 0 0 := by simpa using hcs
    exact ⟨[], none, 0, rfl, ⟨none, 0, rfl, Nat.le_refl _, Nat.zero_le _, fun h => absurd h (by simp)⟩, by simp⟩
  · obtain rfl : v = .slice (some a) len cap := by simpa using hcs
    have hle : len ≤ m := by rw [hmm]; split <;> omega
    have hC : Tryd.prog.cellsOf 59 = 3 := by kernel_rfl
    rw [hC] at hi
    have each : ∀ i, i < len → ∃ t : BrickT, (∀ k u, t.cells[k]? = some u → w.cell? (a.add (i * 3 + k)) = some u) ∧ t.name.size ≤ maxLen := fun i hil => by
      obtain ⟨cs, hc, ht⟩ := hi i (by omega)
      obtain ⟨ys, n', hn', hy, hlen, hyl, hf⟩ := DataW.trod_struct Tryd.underlying59 ht
      obtain ⟨_, hcl, hat⟩ := World.cells?_some hc
      obtain ⟨c0, c1, c2, rfl⟩ := list3 hcl
      obtain ⟨y0, y1, y2, rfl⟩ := list3 hyl
      have g0 : DataW.trod enc Tryd.prog w base spare held n' 9 (List.take (Tryd.prog.cellsOf 9) (List.drop 0 [c0, c1, c2])) = some y0 := hf 0 _ rfl
      have g1 : DataW.trod enc Tryd.prog w base spare held n' 3 (List.take (Tryd.prog.cellsOf 3) (List.drop 1 [c0, c1, c2])) = some y1 := hf 1 _ rfl
      have g2 : DataW.trod enc Tryd.prog w base spare held n' 3 (List.take (Tryd.prog.cellsOf 3) (List.drop 2 [c0, c1, c2])) = some y2 := hf 2 _ rfl
      rw [show Tryd.prog.cellsOf 9 = 1 from by kernel_rfl] at g0
      rw [show Tryd.prog.cellsOf 3 = 1 from by kernel_rfl] at g1
      rw [show Tryd.prog.cellsOf 3 = 1 from by kernel_rfl] at g2
      obtain ⟨f0, rfl, hnm⟩ := str_of_trod (v := c0) g0
      obtain ⟨f1, rfl, -⟩ := int_of_trod (v := c1) g1
      obtain ⟨f2, rfl, -⟩ := int_of_trod (v := c2) g2
      refine ⟨⟨f0, f1, f2⟩, fun k u hk => ?_, hnm⟩
      have hk5 : k < 3 := (List.getElem?_eq_some_iff.1 hk).1
      rw [← add_add, hat k hk5]
      exact hk
    obtain ⟨T, hT⟩ := choose_lt each
    have hL : ((List.range len).map T).length = len := by simp
    refine ⟨(List.range len).map T, some a, cap, by rw [hL], ⟨some a, cap, by rw [hL], by rw [hL]; exact hl, hm, fun hn => ?_⟩, fun t ht => ?_⟩
    · rw [hL] at hn
      obtain ⟨b, off, sp⟩ := a
      have h0 := (hT 0 hn).1 0 _ rfl
      obtain rfl := spot_none h0
      have hlt : b < w.heap.size := by simpa [add_none] using cell_lt h0
      refine ⟨b, off, rfl, hlt, fun j u hu => ?_⟩
      obtain ⟨hj, hu'⟩ := flatAtK BrickT.cells 3 (by decide) (fun _ => rfl) _ _ _ hu
      rw [hL] at hj
      have := (hT _ hj).1 (j % 3) u (by simpa using hu')
      rw [add_none, Nat.div_add_mod' j 3] at this
      exact this
    · simp only [List.mem_map, List.mem_range] at ht
      obtain ⟨i, hi, rfl⟩ := ht
      exact (hT i hi).2
theorem set_of_trod {fuel : Nat} {cs : List Value} {x : DataW H × List MemPlace} (hlen : cs.length = 13) (h : DataW.trod enc Tryd.prog w base spare held fuel 26 cs = some x) :
    ∃ s, SetAt w w.heap.size (.agg cs.toArray) s ∧ SetNames s := by
  obtain ⟨ys, n', hn', hy, hlen', hyl, hf⟩ := DataW.trod_struct Tryd.underlying26 h
  obtain ⟨c0, c1, c2, c3, c4, c5, c6, c7, c8, c9, c10, c11, c12, rfl⟩ := list13 hlen
  obtain ⟨y0, y1, y2, y3, y4, y5, y6, y7, y8, y9, y10, y11, y12, rfl⟩ := list13 hyl
  have g0 : DataW.trod enc Tryd.prog w base spare held n' 9 (List.take (Tryd.prog.cellsOf 9) (List.drop 0 [c0, c1, c2, c3, c4, c5, c6, c7, c8, c9, c10, c11, c12])) = some y0 := hf 0 _ rfl
  have g1 : DataW.trod enc Tryd.prog w base spare held n' 3 (List.take (Tryd.prog.cellsOf 3) (List.drop 1 [c0, c1, c2, c3, c4, c5, c6, c7, c8, c9, c10, c11, c12])) = some y1 := hf 1 _ rfl
  have g2 : DataW.trod enc Tryd.prog w base spare held n' 3 (List.take (Tryd.prog.cellsOf 3) (List.drop 2 [c0, c1, c2, c3, c4, c5, c6, c7, c8, c9, c10, c11, c12])) = some y2 := hf 2 _ rfl
  have g3 : DataW.trod enc Tryd.prog w base spare held n' 3 (List.take (Tryd.prog.cellsOf 3) (List.drop 3 [c0, c1, c2, c3, c4, c5, c6, c7, c8, c9, c10, c11, c12])) = some y3 := hf 3 _ rfl
  have g4 : DataW.trod enc Tryd.prog w base spare held n' 3 (List.take (Tryd.prog.cellsOf 3) (List.drop 4 [c0, c1, c2, c3, c4, c5, c6, c7, c8, c9, c10, c11, c12])) = some y4 := hf 4 _ rfl
  have g5 : DataW.trod enc Tryd.prog w base spare held n' 22 (List.take (Tryd.prog.cellsOf 22) (List.drop 5 [c0, c1, c2, c3, c4, c5, c6, c7, c8, c9, c10, c11, c12])) = some y5 := hf 5 _ rfl
  have g6 : DataW.trod enc Tryd.prog w base spare held n' 3 (List.take (Tryd.prog.cellsOf 3) (List.drop 6 [c0, c1, c2, c3, c4, c5, c6, c7, c8, c9, c10, c11, c12])) = some y6 := hf 6 _ rfl
  have g7 : DataW.trod enc Tryd.prog w base spare held n' 3 (List.take (Tryd.prog.cellsOf 3) (List.drop 7 [c0, c1, c2, c3, c4, c5, c6, c7, c8, c9, c10, c11, c12])) = some y7 := hf 7 _ rfl
  have g8 : DataW.trod enc Tryd.prog w base spare held n' 3 (List.take (Tryd.prog.cellsOf 3) (List.drop 8 [c0, c1, c2, c3, c4, c5, c6, c7, c8, c9, c10, c11, c12])) = some y8 := hf 8 _ rfl
  have g9 : DataW.trod enc Tryd.prog w base spare held n' 3 (List.take (Tryd.prog.cellsOf 3) (List.drop 9 [c0, c1, c2, c3, c4, c5, c6, c7, c8, c9, c10, c11, c12])) = some y9 := hf 9 _ rfl
  have g10 : DataW.trod enc Tryd.prog w base spare held n' 3 (List.take (Tryd.prog.cellsOf 3) (List.drop 10 [c0, c1, c2, c3, c4, c5, c6, c7, c8, c9, c10, c11, c12])) = some y10 := hf 10 _ rfl
  have g11 : DataW.trod enc Tryd.prog w base spare held n' 23 (List.take (Tryd.prog.cellsOf 23) (List.drop 11 [c0, c1, c2, c3, c4, c5, c6, c7, c8, c9, c10, c11, c12])) = some y11 := hf 11 _ rfl
  have g12 : DataW.trod enc Tryd.prog w base spare held n' 24 (List.take (Tryd.prog.cellsOf 24) (List.drop 12 [c0, c1, c2, c3, c4, c5, c6, c7, c8, c9, c10, c11, c12])) = some y12 := hf 12 _ rfl
  rw [show Tryd.prog.cellsOf 9 = 1 from by kernel_rfl] at g0
  rw [show Tryd.prog.cellsOf 3 = 1 from by kernel_rfl] at g1
  rw [show Tryd.prog.cellsOf 3 = 1 from by kernel_rfl] at g2
  rw [show Tryd.prog.cellsOf 3 = 1 from by kernel_rfl] at g3
  rw [show Tryd.prog.cellsOf 3 = 1 from by kernel_rfl] at g4
  rw [show Tryd.prog.cellsOf 22 = 1 from by kernel_rfl] at g5
  rw [show Tryd.prog.cellsOf 3 = 1 from by kernel_rfl] at g6
  rw [show Tryd.prog.cellsOf 3 = 1 from by kernel_rfl] at g7
  rw [show Tryd.prog.cellsOf 3 = 1 from by kernel_rfl] at g8
  rw [show Tryd.prog.cellsOf 3 = 1 from by kernel_rfl] at g9
  rw [show Tryd.prog.cellsOf 3 = 1 from by kernel_rfl] at g10
  rw [show Tryd.prog.cellsOf 23 = 1 from by kernel_rfl] at g11
  rw [show Tryd.prog.cellsOf 24 = 1 from by kernel_rfl] at g12
  obtain ⟨f0, rfl, hnm⟩ := str_of_trod (v := c0) g0
  obtain ⟨f1, rfl, -⟩ := int_of_trod (v := c1) g1
  obtain ⟨f2, rfl, -⟩ := int_of_trod (v := c2) g2
  obtain ⟨f3, rfl, -⟩ := int_of_trod (v := c3) g3
  obtain ⟨f4, rfl, -⟩ := int_of_trod (v := c4) g4
  obtain ⟨f5, Al, cl, rfl, hL⟩ := intsS_of_trod (v := c5) g5
  obtain ⟨f6, rfl, -⟩ := int_of_trod (v := c6) g6
  obtain ⟨f7, rfl, -⟩ := int_of_trod (v := c7) g7
  obtain ⟨f8, rfl, -⟩ := int_of_trod (v := c8) g8
  obtain ⟨f9, rfl, -⟩ := int_of_trod (v := c9) g9
  obtain ⟨f10, rfl, -⟩ := int_of_trod (v := c10) g10
  obtain ⟨f11, Ai, ci, rfl, hI, hIn⟩ := items_of_trod (v := c11) g11
  obtain ⟨f12, Ab, cb, rfl, hB, hBn⟩ := bricks_of_trod (v := c12) g12
  exact ⟨⟨f0, f1, f2, f3, f4, f5, f6, f7, f8, f9, f10, f11, f12⟩, ⟨Al, cl, Ai, ci, Ab, cb, rfl, hL, hI, hB⟩, ⟨hnm, hIn, hBn⟩⟩
end
end Go.Proofs.YtpnongeibpkbhaaDoor

/- LinesetExtents: for every input the law returns true, and its arguments read as they did. The listed tables of Go's library are never read. -/
namespace Go.Proofs.YtpnongeibpkbhaaDoor
open Go.ChangeShapes Go.WideShapes Go.ChangeAt Go.RowKit

theorem door_met (os : Os) (args : Array Value) : laidMetH Tryd.prog Rows.linesetExtentsRow.laid ((World.doorLaid Tryd.prog 400 os).forCall (fun _ _ => 0) ⟨#[], args, []⟩).memory :=
  laidMetH_of_parts3 (fuel := 8) (laidMet_of_run' 8 (by kernel_rfl) (by kernel_rfl)) (by kernel_rfl) (by kernel_rfl)
set_option maxRecDepth 100000 in
theorem linesetExtents_lifted (os : Os) (started : os.Started) (H : Type) (enc : TypeId × Value → H) :
    ReturnsInHanded {} Tryd.checked os 3 .any (fun w args => (Rows.linesetExtentsSpec.pre enc Tryd.prog Tryd.f3 [] false w args ∧ laidMetH Tryd.prog Rows.linesetExtentsRow.laid w) ∧ sizedMet enc Tryd.prog Tryd.f3 (OpenSpec.ofChange Rows.linesetExtentsSpec) false w args) (Rows.linesetExtentsSpec.post enc Tryd.prog Tryd.f3 false true false false) := by
  refine law_liftedL started (by kernel_rfl) Tryd.func3 rfl (by kernel_rfl) ?_ ?_ (ChangeSpec.witness_shaped (enc := enc) (C := Tryd.checked) (os := os) (X := fun w _ => laidMetH Tryd.prog Rows.linesetExtentsRow.laid w) false (World.doorLaid Tryd.prog 400 os) #[.agg #[.string ⟨#[]⟩, .int .i64 0, .int .i64 0, .int .i64 0, .int .i64 0, .slice none 0 0, .int .i64 0, .int .i64 0, .int .i64 0, .int .i64 0, .int .i64 0, .slice none 0 0, .slice none 0 0], .int .i64 0, .int .i64 0] 8 rfl (World.shaped_of_RefB (by kernel_rfl) (by kernel_rfl)) (by kernel_rfl) (by kernel_rfl) (by kernel_rfl) (door_met os _)) ?_
  · rw [Tryd.params3]
    intro t ht
    simp only [List.mem_cons, List.not_mem_nil, or_false] at ht
    rcases ht with rfl | rfl | rfl <;> exact ⟨by kernel_rfl, of_decide_eq_true (by kernel_rfl)⟩
  · intro ds hds
    match ds, hds with
    | [d0, d1, d2], _ => exact ⟨rfl, rfl, rfl⟩
  · intro W base args ds ps hval hA
    rw [Tryd.params3] at hA hval
    obtain ⟨v0, vs0, d0, ds0, p0, q0, hargs, rfl, rfl, h0, r0⟩ := trodAll_cons hA
    obtain ⟨v1, vs1, d1, ds1, p1, q1, rfl, rfl, rfl, h1, r1⟩ := trodAll_cons r0
    obtain ⟨v2, vs2, d2, ds2, p2, q2, rfl, rfl, rfl, h2, r2⟩ := trodAll_cons r1
    obtain ⟨rfl, rfl, rfl⟩ := trodAll_nil r2
    obtain rfl : args = #[v0, v1, v2] := by cases args; simp_all
    obtain ⟨cs0, rfl, hcs0⟩ := okWide_struct Tryd.underlying26 (hval 0 26 v0 rfl rfl)
    rw [show Tryd.prog.cellsOf 26 = 13 from by kernel_rfl] at hcs0
    obtain ⟨fuel0, hf0⟩ := h0
    obtain ⟨x0, hx0, hn0⟩ := set_of_trod (by simpa [Value.cells] using hcs0) hf0
    obtain ⟨x1, rfl, -, -, wf1⟩ := open_int Tryd.underlying3 (hval 1 3 v1 rfl rfl) h1
    clear wf1
    obtain ⟨x2, rfl, -, -, wf2⟩ := open_int Tryd.underlying3 (hval 2 3 v2 rfl rfl) h2
    clear wf2
    exact lawExtents _ x0 x1 x2 W (by simpa [Value.cells] using hx0) hn0
theorem linesetExtents_row : Rows.LinesetExtentsSaid :=
  OpenClaim.holds_of_wide 3 Tryd.f3 rfl rfl rfl rfl rfl rfl rfl ⟨rfl, rfl, rfl, rfl, rfl⟩ rfl rfl rfl rfl rfl (by kernel_rfl) Tryd.func3 (by kernel_rfl)
    (of_decide_eq_true (by kernel_rfl)) (by unfold Func.isWrapper; first | (rw [if_pos (by decide +kernel)]; kernel_rfl) | (rw [if_neg (by decide +kernel)]; exact ⟨rfl, rfl⟩))
    (fun os started H enc _ => linesetExtents_lifted os started H enc)
theorem linesetExtents_holds : Rows.LinesetExtentsCardSaid :=
  Claim7.holds_tied_plain_at .later [] [.data, .data, .data] true Rows.linesetExtentsCard.stood.harness false
    linesetExtents_row (fun _ h => by cases h) (by kernel_rfl) (fun _ h => by cases h) linesetExtents_row_tie rfl ⟨rfl, rfl⟩ (by kernel_rfl) rfl
    (fun f fn hf hfn => by
      obtain rfl : f = 3 := Option.some.inj ((show Tryd.prog.funcNamed "loftblock/loftblocklaw29.LinesetExtents" = some 3 by kernel_rfl).symm.trans hf) |>.symm
      obtain rfl : fn = Tryd.f3 := (Option.some.inj (Tryd.func3.symm.trans hfn)).symm
      exact ⟨by kernel_rfl, fun j t ht => by
        rw [Tryd.params3] at ht
        have h3 : t = 26 ∨ t = 3 := by
          rcases j with _ | _ | _ | j
          · exact .inl (by simpa using ht.symm)
          · exact .inr (by simpa using ht.symm)
          · exact .inr (by simpa using ht.symm)
          · simp at ht
        rcases h3 with rfl | rfl
        · exact (show Tryd.prog.wantsStandIn 26 = false by kernel_rfl)
        · exact (show Tryd.prog.wantsStandIn 3 = false by kernel_rfl)⟩)
    (by kernel_rfl)
#print axioms linesetExtents_holds
end Go.Proofs.YtpnongeibpkbhaaDoor
