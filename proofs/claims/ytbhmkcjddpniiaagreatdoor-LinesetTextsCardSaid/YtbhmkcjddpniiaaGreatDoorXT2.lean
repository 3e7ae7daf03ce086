/- Parts of the proof, laid into one text: RefExt, SmallB. -/
import Derived.BigQuiet
import Derived.Deep.AppendLies
import Derived.Deep.Cut
import Derived.Deep.Draws
import Derived.Deep.LoopGhost
import Derived.Deep.MidRow
import Derived.Deep.QuietTactic
import Derived.Deep.RegionHeld3
import Derived.Deep.RegionLaw
import Derived.IntWalk
import Derived.Laws.Bits64b
import Derived.Laws.Concat
import Derived.Laws.EntriesVeiled
import Derived.Lib.AppendIntMem
import Derived.Lib.Hide
import Derived.Lib.ItoaLen
import Derived.Lib.ItoaMem
import Derived.Lib.Join
import Derived.Lib.SmallJoins
import Derived.LoopIn
import Derived.LoopNIn
import Derived.Maps.AppendAt
import Derived.Maps.Own
import Derived.Maps.OwnOps
import Derived.Maps.OwnSet
import Derived.Maps.Views
import Derived.Outline
import Derived.OwnWalkIn
import Derived.PlainAid
import Derived.RangeFuncBox
import Derived.RangeFuncLeaves
import Derived.Shelf.Abstract
import Derived.Shelf.Bits.Mul64
import Derived.Shelf.Strconv.Itoa3
import Derived.Shelf.Strings.Count
import Derived.Shelf.Strings.OnBuilder
import Derived.Shelf.Strings.Prefix
import Derived.StillTail
import Derived.StillTailTactics
import Derived.TacticsInMore
import Derived.Test.YtbhmkcjddpniiaaGreatDoorProg
import Derived.Test.YtbhmkcjddpniiaaGreatDoorXC1
import Derived.Test.YtbhmkcjddpniiaaGreatDoorXC2
import Derived.Test.YtbhmkcjddpniiaaGreatDoorXC3
import Derived.Test.YtbhmkcjddpniiaaGreatDoorXC4
import Derived.Test.YtbhmkcjddpniiaaGreatDoorXC5
import Derived.Test.YtbhmkcjddpniiaaGreatDoorXC6
import Derived.Test.YtbhmkcjddpniiaaGreatDoorXC7
import Derived.Test.YtbhmkcjddpniiaaGreatDoorXD1
import Derived.Test.YtbhmkcjddpniiaaGreatDoorXD2
import Derived.Test.YtbhmkcjddpniiaaGreatDoorXD3
import Derived.Test.YtbhmkcjddpniiaaGreatDoorXD4
import Derived.Test.YtbhmkcjddpniiaaGreatDoorXD5
import Derived.Test.YtbhmkcjddpniiaaGreatDoorXD9
import Derived.Test.YtbhmkcjddpniiaaGreatDoorXG1
import Derived.Test.YtbhmkcjddpniiaaGreatDoorXI1
import Derived.Test.YtbhmkcjddpniiaaGreatDoorXI3
import Derived.Test.YtbhmkcjddpniiaaGreatDoorXI6
import Derived.WalkKit
import Derived.WalkLawsBesides
import Derived.WalkSpells

namespace Go.Proofs.YtbhmkcjddpniiaaGreatDoor
open Go.RowKit Go.Shelf
set_option maxRecDepth 100000 in
set_option maxHeartbeats 4000000 in
theorem refExtent29 (v : Value) (s : SetT) (trim : Int) (w : World) (hv : SetAt w w.heap.size v s) (hok : setB s = true) (htr : 0 ≤ trim ∧ trim ≤ 1048576) :
  Calls Tryz.prog 51 #[v,.int .i64 trim] w fun e w' => e = .returned (.tuple #[spanV (trim - mxN ItemT.hang s.items) trim,spanV (s.depth - mxN ItemT.back s.items) (s.depth + mxN ItemT.front s.items)]) ∧ Below w.heap.size w w' := by
 obtain ⟨Al,cl,Ai,ci,Ab,cb,rfl,-,hI,-⟩ := hv
 obtain ⟨_,_,e,hi1,hi2,hic⟩ := hI.open_
 injection e with e1 _ e2
 subst e1 e2
 have HI := Lib.hid hic
 unfold maxLen at hi2
 have hk := setB_ok hok
 have hdp := hk.depth
 have hal := fun x (hx : x ∈ s.items) => alone_all (hk.wts.2 x hx).1
 have HB1 := Lib.hid (mxTo_bd (f := ItemT.hang) (l := s.items) fun x hx => (hal x hx).1)
 have HB2 := Lib.hid (mxTo_bd (f := ItemT.front) (l := s.items) fun x hx => (hal x hx).2.1)
 have HB3 := Lib.hid (mxTo_bd (f := ItemT.back) (l := s.items) fun x hx => (hal x hx).2.2)
 have h40 := hk.wts.1
 obtain ⟨b1,b2,b3,hbx⟩ := three_boxes w 26 91 91 #[.string s.name,.int .i64 s.depth,.int .i64 s.low,.int .i64 s.high,.int .i64 s.len,.slice Al s.lines.length cl,.int .i64 s.pipe,.int .i64 s.arbor,.int .i64 s.purch,.int .i64 s.most,.int .i64 s.brake,.slice Ai s.items.length ci,.slice Ab s.bricks.length cb] #[.int .i64 0,.int .i64 0] #[.int .i64 0,.int .i64 0]
 have hs3 : (((w.alloc (.cells #[.string s.name,.int .i64 s.depth,.int .i64 s.low,.int .i64 s.high,.int .i64 s.len,.slice Al s.lines.length cl,.int .i64 s.pipe,.int .i64 s.arbor,.int .i64 s.purch,.int .i64 s.most,.int .i64 s.brake,.slice Ai s.items.length ci,.slice Ab s.bricks.length cb] 26)).alloc (.cells #[.int .i64 0,.int .i64 0] 91)).alloc (.cells #[.int .i64 0,.int .i64 0] 91)).heap.size = w.heap.size + 1 + 1 + 1 := by simp
 have HS3 := Lib.hid hs3
 have D0 := Lib.hid b1
 have D1 := Lib.hid b2
 have D2 := Lib.hid b3
 have HBx := Lib.hid hbx
 clear hI hic hk hal hok b1 b2 b3 hbx hs3
 unfold setVal
 go_enter Tryz.func51,Tryz.ntmps51
 go_upto_region 1 with fail
 generalize (((w.alloc (.cells #[.string s.name,.int .i64 s.depth,.int .i64 s.low,.int .i64 s.high,.int .i64 s.len,.slice Al s.lines.length cl,.int .i64 s.pipe,.int .i64 s.arbor,.int .i64 s.purch,.int .i64 s.most,.int .i64 s.brake,.slice Ai s.items.length ci,.slice Ab s.bricks.length cb] 26)).alloc (.cells #[.int .i64 0,.int .i64 0] 91)).alloc (.cells #[.int .i64 0,.int .i64 0] 91)) = w3 at *
 have y11 := D0.out.cell 11
 simp only [List.getElem?_toArray,List.getElem?_cons_succ,List.getElem?_cons_zero] at y11
 have m0 : mxTo ItemT.hang s.items 0 = 0 ∧ mxTo ItemT.front s.items 0 = 0 ∧ mxTo ItemT.back s.items 0 = 0 := ⟨rfl,rfl,rfl⟩
 have M0 := Lib.hid m0
 clear m0
 go_wp2_with fail
 go_loopw [6,7,8,9] (fun sh sf sb ix wr => ∃ k : Nat,k ≤ s.items.length ∧ ix = .int .i64 k ∧ sh = .int .i64 (mxTo ItemT.hang s.items k) ∧ sf = .int .i64 (mxTo ItemT.front s.items k) ∧ sb = .int .i64 (mxTo ItemT.back s.items k) ∧ Below w3.heap.size w3 wr) (fun _ _ _ ix _ => s.items.length - (intOf ix).toNat)
 case atStart => exact ⟨0,Nat.zero_le _,rfl,by rw [M0.out.1],by rw [M0.out.2.1],by rw [M0.out.2.2],Below.refl _ _⟩
 case round =>
  obtain ⟨k,hk,rfl,rfl,rfl,rfl,hbel⟩ := hrel
  clear y11
  have hd0 := D0.out.below hbel D0.out.lt
  have y11 := hd0.cell 11
  simp only [List.getElem?_toArray,List.getElem?_cons_succ,List.getElem?_cons_zero] at y11
  have k0 : (0 : Int) ≤ (k : Int) := Int.natCast_nonneg _
  by_cases hkl : k < s.items.length
  ·have k1 : (k : Int) < (s.items.length : Int) := by omega
   obtain ⟨b,off,rfl,hb,hc⟩ := HI.out k hkl
   obtain ⟨v0,v1,v2,v3,v4,v5,v6⟩ := hc k hkl
   replace v0 := (hbel.cell (Nat.lt_of_lt_of_le hb (by have := HS3.out;omega))).trans ((HBx.out.cell hb).trans v0)
   replace v1 := (hbel.cell (Nat.lt_of_lt_of_le hb (by have := HS3.out;omega))).trans ((HBx.out.cell hb).trans v1)
   replace v2 := (hbel.cell (Nat.lt_of_lt_of_le hb (by have := HS3.out;omega))).trans ((HBx.out.cell hb).trans v2)
   replace v3 := (hbel.cell (Nat.lt_of_lt_of_le hb (by have := HS3.out;omega))).trans ((HBx.out.cell hb).trans v3)
   replace v4 := (hbel.cell (Nat.lt_of_lt_of_le hb (by have := HS3.out;omega))).trans ((HBx.out.cell hb).trans v4)
   replace v5 := (hbel.cell (Nat.lt_of_lt_of_le hb (by have := HS3.out;omega))).trans ((HBx.out.cell hb).trans v5)
   replace v6 := (hbel.cell (Nat.lt_of_lt_of_le hb (by have := HS3.out;omega))).trans ((HBx.out.cell hb).trans v6)
   have HM1 := Lib.hid (mxTo_succ ItemT.hang s.items k hkl)
   have HM2 := Lib.hid (mxTo_succ ItemT.front s.items k hkl)
   have HM3 := Lib.hid (mxTo_succ ItemT.back s.items k hkl)
   clear hc
   generalize s.items[k] = x at *
   have HX := Lib.hid (Blk.new wr 47 #[.string x.name,.int .i64 x.pos,.int .i64 x.width,.int .i64 x.wt,.int .i64 x.hang,.int .i64 x.front,.int .i64 x.back])
   have HBe := Lib.hid (hbel.alloc hbel.size (.cells #[.string x.name,.int .i64 x.pos,.int .i64 x.width,.int .i64 x.wt,.int .i64 x.hang,.int .i64 x.front,.int .i64 x.back] 47))
   clear hbel
   generalize mxTo ItemT.hang s.items k = a1 at *
   generalize mxTo ItemT.front s.items k = a2 at *
   generalize mxTo ItemT.back s.items k = a3 at *
   go_upto_region 6 with fail
   clear v0 v1 v2 v3 v4 v5 v6 y11 hd0
   generalize (wr.alloc (.cells #[.string x.name,.int .i64 x.pos,.int .i64 x.width,.int .i64 x.wt,.int .i64 x.hang,.int .i64 x.front,.int .i64 x.back] 47)) = w4 at *
   generalize wr.heap.size = g4 at *
   have i4 := HX.out.cell 4
   have i5 := HX.out.cell 5
   have i6 := HX.out.cell 6
   simp only [List.getElem?_toArray,List.getElem?_cons_succ,List.getElem?_cons_zero] at i4 i5 i6
   rcases Bool.eq_false_or_eq_true (decide (a1 < x.hang)) with d1 | d1 <;> rcases Bool.eq_false_or_eq_true (decide (a2 < x.front)) with d2 | d2 <;> rcases Bool.eq_false_or_eq_true (decide (a3 < x.back)) with d3 | d3
   all_goals
    have e1 := d1
    have e2 := d2
    have e3 := d3
    simp only [decide_eq_true_eq,decide_eq_false_iff_not] at e1 e2 e3
    have E1 := Lib.hid e1
    have E2 := Lib.hid e2
    have E3 := Lib.hid e3
    clear e1 e2 e3
    go_wp2_with fail
    go_roundw
    case rel =>
     have h1 := HM1.out
     have h2 := HM2.out
     have h3 := HM3.out
     have h4 := E1.out
     have h5 := E2.out
     have h6 := E3.out
     exact ⟨k + 1,by omega,by go_num,by rw [h1];congr 1;omega,by rw [h2];congr 1;omega,by rw [h3];congr 1;omega,HBe.out⟩
    case measure => simp [intOf];omega
  ·obtain rfl : k = s.items.length := by omega
   have bd1 := HB1.out s.items.length (Nat.le_refl _)
   have bd2 := HB2.out s.items.length (Nat.le_refl _)
   have bd3 := HB3.out s.items.length (Nat.le_refl _)
   have HD0 := Lib.hid hd0
   have HD1 := Lib.hid (D1.out.below hbel D1.out.lt)
   have HD2 := Lib.hid (D2.out.below hbel D2.out.lt)
   have HBel := Lib.hid (HBx.out.trans (hbel.mono (by rw [HS3.out];omega)))
   clear HB1 HB2 HB3 hbel hd0
   obtain ⟨hg,ehg⟩ : ∃ z,mxTo ItemT.hang s.items s.items.length = z := ⟨_,rfl⟩
   rw [ehg] at bd1
   rw [ehg]
   have Ehg := Lib.hid ehg
   clear ehg
   obtain ⟨fr,efr⟩ : ∃ z,mxTo ItemT.front s.items s.items.length = z := ⟨_,rfl⟩
   rw [efr] at bd2
   rw [efr]
   have Efr := Lib.hid efr
   clear efr
   obtain ⟨bk,ebk⟩ : ∃ z,mxTo ItemT.back s.items s.items.length = z := ⟨_,rfl⟩
   rw [ebk] at bd3
   rw [ebk]
   have Ebk := Lib.hid ebk
   clear ebk
   have v1 : IntKind.i64.wrap (trim - hg) = trim - hg := IntWalk.i64_in _ (by omega)
   have v2 : IntKind.i64.wrap (s.depth - bk) = s.depth - bk := IntWalk.i64_in _ (by omega)
   have v3 : IntKind.i64.wrap (s.depth + fr) = s.depth + fr := IntWalk.i64_in _ (by omega)
   have hne0 : w.heap.size ≠ w.heap.size + 1 := by omega
   have hne1 : w.heap.size ≠ w.heap.size + 1 + 1 := by omega
   go_upto_region 12 with fail
   clear y11
   obtain ⟨Wd,w0,w1,w2'⟩ : ∃ Wd : Nat → World,Wd 0 = wr.drew ∧ ((Wd 0).setCell ⟨w.heap.size + 1,0,none⟩ (.int .i64 (trim - hg))).setCell ⟨w.heap.size + 1,1,none⟩ (.int .i64 trim) = Wd 1 ∧ ((Wd 1).setCell ⟨w.heap.size + 1 + 1,0,none⟩ (.int .i64 (s.depth - bk))).setCell ⟨w.heap.size + 1 + 1,1,none⟩ (.int .i64 (s.depth + fr)) = Wd 2 :=
    ⟨fun | 0 => wr.drew | 1 => (wr.drew.setCell ⟨w.heap.size + 1,0,none⟩ (.int .i64 (trim - hg))).setCell ⟨w.heap.size + 1,1,none⟩ (.int .i64 trim) | _ => (((wr.drew.setCell ⟨w.heap.size + 1,0,none⟩ (.int .i64 (trim - hg))).setCell ⟨w.heap.size + 1,1,none⟩ (.int .i64 trim)).setCell ⟨w.heap.size + 1 + 1,0,none⟩ (.int .i64 (s.depth - bk))).setCell ⟨w.heap.size + 1 + 1,1,none⟩ (.int .i64 (s.depth + fr)),rfl,rfl,rfl⟩
   have far2 := fun {W : World} {g : Nat} {t : TypeId} {c : Array Value} (h : Blk W g t c) (x : Nat) (hx : g ≠ x) (u0 u1 : Value) => (h.far (p := ⟨x,0,none⟩) hx u0).far (p := ⟨x,1,none⟩) hx u1
   have s0 : Blk (Wd 0) w.heap.size 26 #[.string s.name,.int .i64 s.depth,.int .i64 s.low,.int .i64 s.high,.int .i64 s.len,.slice Al s.lines.length cl,.int .i64 s.pipe,.int .i64 s.arbor,.int .i64 s.purch,.int .i64 s.most,.int .i64 s.brake,.slice Ai s.items.length ci,.slice Ab s.bricks.length cb] := by rw [w0];exact HD0.out
   have s1 := far2 s0 _ hne0 (.int .i64 (trim - hg)) (.int .i64 trim)
   rw [w1] at s1
   have s2 := far2 s1 _ hne1 (.int .i64 (s.depth - bk)) (.int .i64 (s.depth + fr))
   rw [w2'] at s2
   have a0 : Blk (Wd 0) (w.heap.size + 1) 91 #[.int .i64 0,.int .i64 0] := by rw [w0];exact HD1.out
   have a0' := a0.set_ 0 (.int .i64 (trim - hg))
   have b0 : Blk (Wd 0) (w.heap.size + 1 + 1) 91 #[.int .i64 0,.int .i64 0] := by rw [w0];exact HD2.out
   have b1' := far2 b0 (w.heap.size + 1) (by omega) (.int .i64 (trim - hg)) (.int .i64 trim)
   rw [w1] at b1'
   have b1'' := b1'.set_ 0 (.int .i64 (s.depth - bk))
   have hK : ∀ m,m ≤ 2 → Blk (Wd m) w.heap.size 26 #[.string s.name,.int .i64 s.depth,.int .i64 s.low,.int .i64 s.high,.int .i64 s.len,.slice Al s.lines.length cl,.int .i64 s.pipe,.int .i64 s.arbor,.int .i64 s.purch,.int .i64 s.most,.int .i64 s.brake,.slice Ai s.items.length ci,.slice Ab s.bricks.length cb] := fun m hm => by
    rcases (show m = 0 ∨ m = 1 ∨ m = 2 by omega) with rfl | rfl | rfl
    ·exact s0
    ·exact s1
    ·exact s2
   have q1 : ∀ m,m ≤ 2 → (Wd m).cell? ⟨w.heap.size,1,none⟩ = some (.int .i64 s.depth) := fun m hm => (hK m hm).cell 1
   have ca0 : (Wd 0).cell? ⟨w.heap.size + 1,0,none⟩ = some (.int .i64 0) := a0.cell 0
   have fa0 : (Wd 0).frozen? ⟨w.heap.size + 1,0,none⟩ = false := a0.frozen 0
   have ca1 : ((Wd 0).setCell ⟨w.heap.size + 1,0,none⟩ (.int .i64 (trim - hg))).cell? ⟨w.heap.size + 1,1,none⟩ = some (.int .i64 0) := a0'.cell 1
   have fa1 : ((Wd 0).setCell ⟨w.heap.size + 1,0,none⟩ (.int .i64 (trim - hg))).frozen? ⟨w.heap.size + 1,1,none⟩ = false := a0'.frozen 1
   have cb0 : (Wd 1).cell? ⟨w.heap.size + 1 + 1,0,none⟩ = some (.int .i64 0) := b1'.cell 0
   have fb0 : (Wd 1).frozen? ⟨w.heap.size + 1 + 1,0,none⟩ = false := b1'.frozen 0
   have cb1 : ((Wd 1).setCell ⟨w.heap.size + 1 + 1,0,none⟩ (.int .i64 (s.depth - bk))).cell? ⟨w.heap.size + 1 + 1,1,none⟩ = some (.int .i64 0) := b1''.cell 1
   have fb1 : ((Wd 1).setCell ⟨w.heap.size + 1 + 1,0,none⟩ (.int .i64 (s.depth - bk))).frozen? ⟨w.heap.size + 1 + 1,1,none⟩ = false := b1''.frozen 1
   obtain ⟨hBe,z0,z1,z2,z3⟩ := spans_stored (HBel.out.drew) (by omega) (show Blk wr.drew (w.heap.size + 1) 91 #[.int .i64 0,.int .i64 0] from HD1.out) (show Blk wr.drew (w.heap.size + 1 + 1) 91 #[.int .i64 0,.int .i64 0] from HD2.out) (.int .i64 (trim - hg)) (.int .i64 trim) (.int .i64 (s.depth - bk)) (.int .i64 (s.depth + fr))
   rw [← w0,w1,w2'] at hBe z0 z1 z2 z3
   have HBe := Lib.hid hBe
   have W0 := Lib.hid w0
   have Z0 := Lib.hid z0
   have Z1 := Lib.hid z1
   have Z2 := Lib.hid z2
   have Z3 := Lib.hid z3
   clear far2 hBe w0 z0 z1 z2 z3 s0 s1 s2 a0 a0' b0 b1' b1'' hK HD0 HD1 HD2 HBel hne0 hne1 bd1 bd2 bd3
   refine wp_region_freeL [.int .i64 trim,.int .i64 hg,.int .i64 (trim - hg),.int .i64 trim,spanV (trim - hg) trim,.pointer (some ⟨w.heap.size,1,none⟩),.int .i64 s.depth,.int .i64 bk,.int .i64 (s.depth - bk),.pointer (some ⟨w.heap.size,1,none⟩),.int .i64 s.depth,.int .i64 fr,.int .i64 (s.depth + fr),spanV (s.depth - bk) (s.depth + fr),undef,undef] Wd [14,15] (by kernel_rfl) (by kernel_rfl) (by kernel_rfl) (by decide) (by rfl) W0.out ?_ ?_
   ·simp only [putAll,Act.put,List.setIfInBounds_toArray,List.set_cons_zero,List.set_cons_succ]
    simp only [freeAll]
    refine ⟨?_,?_,?_,?_,?_,?_,?_,?_,?_,?_,?_,?_,?_,?_,?_,?_,trivial⟩
    ·exact .inl ⟨by decide,fun m hm hok => by go_simp⟩
    ·exact .inl ⟨by decide,fun m hm hok => by go_simp⟩
    ·exact .inl ⟨by decide,fun m hm hok => by go_simp⟩
    ·exact .inl ⟨by decide,fun m hm hok => by go_simp⟩
    ·exact .inl ⟨by decide,fun m hm hok => by go_simp⟩
    ·exact .inl ⟨by decide,fun m hm hok => by go_simp⟩
    ·exact .inl ⟨by decide,fun m hm hok => by have h := q1 m hm;go_simp⟩
    ·exact .inl ⟨by decide,fun m hm hok => by go_simp⟩
    ·exact .inl ⟨by decide,fun m hm hok => by go_simp⟩
    ·exact .inl ⟨by decide,fun m hm hok => by go_simp⟩
    ·exact .inl ⟨by decide,fun m hm hok => by have h := q1 m hm;go_simp⟩
    ·exact .inl ⟨by decide,fun m hm hok => by go_simp⟩
    ·exact .inl ⟨by decide,fun m hm hok => by go_simp⟩
    ·exact .inl ⟨by decide,fun m hm hok => by go_simp⟩
    ·exact .inr ⟨0,rfl,by go_simp⟩
    ·exact .inr ⟨1,rfl,by go_simp⟩
   ·simp only [putAll,Act.put,List.setIfInBounds_toArray,List.set_cons_zero,List.set_cons_succ]
    have z0 := Z0.out
    have z1 := Z1.out
    have z2 := Z2.out
    have z3 := Z3.out
    clear q1 ca0 fa0 ca1 fa1 cb0 fb0 cb1 fb1 w1 w2'
    go_wp2_with fail
    refine bodyPost_ret (v := .tuple #[spanV (trim - hg) trim,spanV (s.depth - bk) (s.depth + fr)]) (by simp [results,Tryz.results51,go_sem,z0,z1,z2,z3]) rfl ?_
    exact ⟨by unfold mxN;rw [Ehg.out,Efr.out,Ebk.out],HBe.out⟩
end Go.Proofs.YtbhmkcjddpniiaaGreatDoor

namespace Go.Proofs.YtbhmkcjddpniiaaGreatDoor
open Go.RowKit Go.Shelf
def AnsL (s : SetT) (w : World) (e : Ending) (w' : World) : Prop := ∃ q : Bool,e = .returned (.bool q) ∧ Below w.heap.size w w' ∧ (q = true → lensOk s)
set_option maxRecDepth 100000 in
set_option maxHeartbeats 4000000 in
theorem refSmallB (v : Value) (s : SetT) (n : Int) (w : World) (hv : SetAt w w.heap.size v s) (_hsz : s.name.size ≤ maxLen) (hnm : ∀ x ∈ s.items,x.name.size ≤ maxLen) (hbm : ∀ x ∈ s.bricks,x.name.size ≤ maxLen) :
  Calls Tryz.prog 23 #[v,.int .i64 n] w (AnsL s w) := by
 obtain ⟨Al,cl,Ai,ci,Ab,cb,rfl,hL,hI,hB⟩ := hv
 obtain ⟨_,_,e,hl1,hl2,-⟩ := hL.open_
 injection e with e1 _ e2
 subst e1 e2
 obtain ⟨_,_,e,hi1,hi2,hic⟩ := hI.open_
 injection e with e1 _ e2
 subst e1 e2
 obtain ⟨_,_,e,hk1,hk2,hkc⟩ := hB.open_
 injection e with e1 _ e2
 subst e1 e2
 have HI := Lib.hid hic
 have HK := Lib.hid hkc
 have HN := Lib.hid hnm
 have HM := Lib.hid hbm
 have HD := Lib.hid (Blk.new w 26 #[.string s.name,.int .i64 s.depth,.int .i64 s.low,.int .i64 s.high,.int .i64 s.len,.slice Al s.lines.length cl,.int .i64 s.pipe,.int .i64 s.arbor,.int .i64 s.purch,.int .i64 s.most,.int .i64 s.brake,.slice Ai s.items.length ci,.slice Ab s.bricks.length cb])
 have HB1 := Lib.hid ((Below.refl _ w).alloc (Nat.le_refl _) (.cells #[.string s.name,.int .i64 s.depth,.int .i64 s.low,.int .i64 s.high,.int .i64 s.len,.slice Al s.lines.length cl,.int .i64 s.pipe,.int .i64 s.arbor,.int .i64 s.purch,.int .i64 s.most,.int .i64 s.brake,.slice Ai s.items.length ci,.slice Ab s.bricks.length cb] 26))
 unfold maxLen at hl2 hi2 hk2
 unfold setVal
 clear hL hI hB hic hkc hnm hbm
 by_cases c0 : 60 < (s.name.size : Int)
 ·have d0 : decide (60 < (s.name.size : Int)) = true := decide_eq_true c0
  go_enter Tryz.func23,Tryz.ntmps23
  go_wp2
  go_ret
  exact ⟨_,rfl,HB1.out,fun h => by first | (cases h;done) | exact ⟨by omega,by omega,by omega⟩⟩
 have d0 : decide (60 < (s.name.size : Int)) = false := decide_eq_false c0
 by_cases c1 : 12 < (s.lines.length : Int)
 ·have d1 : decide (12 < (s.lines.length : Int)) = true := decide_eq_true c1
  go_enter Tryz.func23,Tryz.ntmps23
  go_wp2
  go_ret
  exact ⟨_,rfl,HB1.out,fun h => by first | (cases h;done) | exact ⟨by omega,by omega,by omega⟩⟩
 have d1 : decide (12 < (s.lines.length : Int)) = false := decide_eq_false c1
 by_cases c2 : n < (s.items.length : Int)
 ·have d2 : decide (n < (s.items.length : Int)) = true := decide_eq_true c2
  by_cases c3 : (s.items.length : Int) ≤ 40
  ·have d3 : decide ((s.items.length : Int) ≤ 40) = true := decide_eq_true c3
   go_enter Tryz.func23,Tryz.ntmps23
   go_wp2
   go_ret
   exact ⟨_,rfl,HB1.out,fun h => by first | (cases h;done) | exact ⟨by omega,by omega,by omega⟩⟩
  have d3 : decide ((s.items.length : Int) ≤ 40) = false := decide_eq_false c3
  by_cases c4 : 45 < (s.items.length : Int)
  ·have d4 : decide (45 < (s.items.length : Int)) = true := decide_eq_true c4
   go_enter Tryz.func23,Tryz.ntmps23
   go_wp2
   go_ret
   exact ⟨_,rfl,HB1.out,fun h => by first | (cases h;done) | exact ⟨by omega,by omega,by omega⟩⟩
  have d4 : decide (45 < (s.items.length : Int)) = false := decide_eq_false c4
  by_cases c5 : 10 < (s.bricks.length : Int)
  ·have d5 : decide (10 < (s.bricks.length : Int)) = true := decide_eq_true c5
   go_enter Tryz.func23,Tryz.ntmps23
   go_wp2
   go_ret
   exact ⟨_,rfl,HB1.out,fun h => by first | (cases h;done) | exact ⟨by omega,by omega,by omega⟩⟩
  have d5 : decide (10 < (s.bricks.length : Int)) = false := decide_eq_false c5
  go_enter Tryz.func23,Tryz.ntmps23
  go_wp2
  generalize w.alloc (.cells #[.string s.name,.int .i64 s.depth,.int .i64 s.low,.int .i64 s.high,.int .i64 s.len,.slice Al s.lines.length cl,.int .i64 s.pipe,.int .i64 s.arbor,.int .i64 s.purch,.int .i64 s.most,.int .i64 s.brake,.slice Ai s.items.length ci,.slice Ab s.bricks.length cb] 26) = W1 at *
  have z11 := HD.out.cell 11
  have z12 := HD.out.cell 12
  simp only [List.getElem?_toArray,List.getElem?_cons_succ,List.getElem?_cons_zero] at z11 z12
  go_loopw [5] (fun x wr => ∃ k : Nat,k ≤ s.items.length ∧ x = .int .i64 k ∧ W1 = wr) (fun x _ => s.items.length - (intOf x).toNat)
  case atStart => exact ⟨0,Nat.zero_le _,rfl,rfl⟩
  case round =>
   obtain ⟨k,hk,rfl,rfl⟩ := hrel
   by_cases hkl : k < s.items.length
   ·obtain ⟨b,off,rfl,hb,hc⟩ := HI.out k hkl
    have y0 := (HB1.out.cell (p := ⟨b,off + k * 7,none⟩) hb).trans (hc k hkl).1
    have hz := HN.out _ (List.getElem_mem hkl)
    unfold maxLen at hz
    have i1 : (0 : Int) ≤ (k : Int) := Int.natCast_nonneg _
    have i2 : (k : Int) < (s.items.length : Int) := by omega
    clear hc
    by_cases g : 60 < (s.items[k].name.size : Int)
    ·have gd := decide_eq_true g
     go_wp2
     go_ret
     exact ⟨_,rfl,HB1.out,fun h => by first | (cases h;done) | exact ⟨by omega,by omega,by omega⟩⟩
    ·have gd := decide_eq_false g
     go_wp2
     go_roundw
     case rel => exact ⟨k + 1,by omega,by go_num,by trivial⟩
     case measure => simp [intOf];omega
   ·obtain rfl : k = s.items.length := by omega
    go_wp2
    go_loopw [6] (fun x wr => ∃ k : Nat,k ≤ s.bricks.length ∧ x = .int .i64 k ∧ W1 = wr) (fun x _ => s.bricks.length - (intOf x).toNat)
    case atStart => exact ⟨0,Nat.zero_le _,rfl,rfl⟩
    case round =>
     obtain ⟨k,hk,rfl,rfl⟩ := hrel
     by_cases hkl : k < s.bricks.length
     ·obtain ⟨b,off,rfl,hb,hc⟩ := HK.out k hkl
      have y0 := (HB1.out.cell (p := ⟨b,off + k * 3,none⟩) hb).trans (hc k hkl).1
      have hz := HM.out _ (List.getElem_mem hkl)
      unfold maxLen at hz
      have i1 : (0 : Int) ≤ (k : Int) := Int.natCast_nonneg _
      have i2 : (k : Int) < (s.bricks.length : Int) := by omega
      clear hc
      by_cases g : 60 < (s.bricks[k].name.size : Int)
      ·have gd := decide_eq_true g
       go_wp2
       go_ret
       exact ⟨_,rfl,HB1.out,fun h => by first | (cases h;done) | exact ⟨by omega,by omega,by omega⟩⟩
      ·have gd := decide_eq_false g
       go_wp2
       go_roundw
       case rel => exact ⟨k + 1,by omega,by go_num,by trivial⟩
       case measure => simp [intOf];omega
     ·obtain rfl : k = s.bricks.length := by omega
      go_wp2
      go_ret
      exact ⟨_,rfl,HB1.out,fun h => by first | (cases h;done) | exact ⟨by omega,by omega,by omega⟩⟩
 have d2 : decide (n < (s.items.length : Int)) = false := decide_eq_false c2
 by_cases c4 : 45 < (s.items.length : Int)
 ·have d4 : decide (45 < (s.items.length : Int)) = true := decide_eq_true c4
  go_enter Tryz.func23,Tryz.ntmps23
  go_wp2
  go_ret
  exact ⟨_,rfl,HB1.out,fun h => by first | (cases h;done) | exact ⟨by omega,by omega,by omega⟩⟩
 have d4 : decide (45 < (s.items.length : Int)) = false := decide_eq_false c4
 by_cases c5 : 10 < (s.bricks.length : Int)
 ·have d5 : decide (10 < (s.bricks.length : Int)) = true := decide_eq_true c5
  go_enter Tryz.func23,Tryz.ntmps23
  go_wp2
  go_ret
  exact ⟨_,rfl,HB1.out,fun h => by first | (cases h;done) | exact ⟨by omega,by omega,by omega⟩⟩
 have d5 : decide (10 < (s.bricks.length : Int)) = false := decide_eq_false c5
 go_enter Tryz.func23,Tryz.ntmps23
 go_wp2
 generalize w.alloc (.cells #[.string s.name,.int .i64 s.depth,.int .i64 s.low,.int .i64 s.high,.int .i64 s.len,.slice Al s.lines.length cl,.int .i64 s.pipe,.int .i64 s.arbor,.int .i64 s.purch,.int .i64 s.most,.int .i64 s.brake,.slice Ai s.items.length ci,.slice Ab s.bricks.length cb] 26) = W1 at *
 have z11 := HD.out.cell 11
 have z12 := HD.out.cell 12
 simp only [List.getElem?_toArray,List.getElem?_cons_succ,List.getElem?_cons_zero] at z11 z12
 go_loopw [5] (fun x wr => ∃ k : Nat,k ≤ s.items.length ∧ x = .int .i64 k ∧ W1 = wr) (fun x _ => s.items.length - (intOf x).toNat)
 case atStart => exact ⟨0,Nat.zero_le _,rfl,rfl⟩
 case round =>
  obtain ⟨k,hk,rfl,rfl⟩ := hrel
  by_cases hkl : k < s.items.length
  ·obtain ⟨b,off,rfl,hb,hc⟩ := HI.out k hkl
   have y0 := (HB1.out.cell (p := ⟨b,off + k * 7,none⟩) hb).trans (hc k hkl).1
   have hz := HN.out _ (List.getElem_mem hkl)
   unfold maxLen at hz
   have i1 : (0 : Int) ≤ (k : Int) := Int.natCast_nonneg _
   have i2 : (k : Int) < (s.items.length : Int) := by omega
   clear hc
   by_cases g : 60 < (s.items[k].name.size : Int)
   ·have gd := decide_eq_true g
    go_wp2
    go_ret
    exact ⟨_,rfl,HB1.out,fun h => by first | (cases h;done) | exact ⟨by omega,by omega,by omega⟩⟩
   ·have gd := decide_eq_false g
    go_wp2
    go_roundw
    case rel => exact ⟨k + 1,by omega,by go_num,by trivial⟩
    case measure => simp [intOf];omega
  ·obtain rfl : k = s.items.length := by omega
   go_wp2
   go_loopw [6] (fun x wr => ∃ k : Nat,k ≤ s.bricks.length ∧ x = .int .i64 k ∧ W1 = wr) (fun x _ => s.bricks.length - (intOf x).toNat)
   case atStart => exact ⟨0,Nat.zero_le _,rfl,rfl⟩
   case round =>
    obtain ⟨k,hk,rfl,rfl⟩ := hrel
    by_cases hkl : k < s.bricks.length
    ·obtain ⟨b,off,rfl,hb,hc⟩ := HK.out k hkl
     have y0 := (HB1.out.cell (p := ⟨b,off + k * 3,none⟩) hb).trans (hc k hkl).1
     have hz := HM.out _ (List.getElem_mem hkl)
     unfold maxLen at hz
     have i1 : (0 : Int) ≤ (k : Int) := Int.natCast_nonneg _
     have i2 : (k : Int) < (s.bricks.length : Int) := by omega
     clear hc
     by_cases g : 60 < (s.bricks[k].name.size : Int)
     ·have gd := decide_eq_true g
      go_wp2
      go_ret
      exact ⟨_,rfl,HB1.out,fun h => by first | (cases h;done) | exact ⟨by omega,by omega,by omega⟩⟩
     ·have gd := decide_eq_false g
      go_wp2
      go_roundw
      case rel => exact ⟨k + 1,by omega,by go_num,by trivial⟩
      case measure => simp [intOf];omega
    ·obtain rfl : k = s.bricks.length := by omega
     go_wp2
     go_ret
     exact ⟨_,rfl,HB1.out,fun h => by first | (cases h;done) | exact ⟨by omega,by omega,by omega⟩⟩
end Go.Proofs.YtbhmkcjddpniiaaGreatDoor
