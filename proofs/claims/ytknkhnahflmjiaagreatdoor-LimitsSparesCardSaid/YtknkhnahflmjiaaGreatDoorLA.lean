/- Parts of the proof, laid into one text: SlI, LawSpares. -/
import Derived.BigQuiet
import Derived.Deep.AppendLies
import Derived.Deep.DeepCutAuto
import Derived.Deep.Draws
import Derived.Deep.LoopGhost
import Derived.Deep.QuietTactic
import Derived.Deep.RegionHeld3
import Derived.Deep.RegionLaw
import Derived.IntWalk
import Derived.Laws.AppendOwnNone
import Derived.Laws.Bits64b
import Derived.Lib.Hide
import Derived.Lib.ItoaNum
import Derived.LoopIn
import Derived.LoopNIn
import Derived.Maps.AppendAt
import Derived.Maps.Own
import Derived.Maps.OwnOps
import Derived.Maps.OwnSet
import Derived.Maps.Views
import Derived.Outline
import Derived.OwnWalkIn
import Derived.PlainAid
import Derived.RangeFuncBox
import Derived.RangeFuncLeaves
import Derived.Shelf.Abstract
import Derived.Shelf.Bits.Mul64
import Derived.Shelf.Small.Bits
import Derived.Shelf.Spec.BitsCarry
import Derived.Shelf.Spec.SlicesGrow
import Derived.Shelf.Strconv.Itoa3
import Derived.StillTail
import Derived.StillTailTactics
import Derived.TacticsInMore
import Derived.Test.YtknkhnahflmjiaaGreatDoorC1
import Derived.Test.YtknkhnahflmjiaaGreatDoorC2
import Derived.Test.YtknkhnahflmjiaaGreatDoorC3
import Derived.Test.YtknkhnahflmjiaaGreatDoorC4
import Derived.Test.YtknkhnahflmjiaaGreatDoorC5
import Derived.Test.YtknkhnahflmjiaaGreatDoorC6
import Derived.Test.YtknkhnahflmjiaaGreatDoorC7
import Derived.Test.YtknkhnahflmjiaaGreatDoorD1
import Derived.Test.YtknkhnahflmjiaaGreatDoorD2
import Derived.Test.YtknkhnahflmjiaaGreatDoorD3
import Derived.Test.YtknkhnahflmjiaaGreatDoorD4
import Derived.Test.YtknkhnahflmjiaaGreatDoorG1
import Derived.Test.YtknkhnahflmjiaaGreatDoorL1
import Derived.Test.YtknkhnahflmjiaaGreatDoorL2
import Derived.Test.YtknkhnahflmjiaaGreatDoorL3
import Derived.Test.YtknkhnahflmjiaaGreatDoorL4
import Derived.Test.YtknkhnahflmjiaaGreatDoorL5
import Derived.Test.YtknkhnahflmjiaaGreatDoorL6
import Derived.Test.YtknkhnahflmjiaaGreatDoorL7
import Derived.Test.YtknkhnahflmjiaaGreatDoorL8
import Derived.Test.YtknkhnahflmjiaaGreatDoorL9
import Derived.Test.YtknkhnahflmjiaaGreatDoorProg
import Derived.WalkKit
import Derived.WalkLawsBesides
import Derived.WalkSpells

namespace Go.Proofs.YtknkhnahflmjiaaGreatDoor
open Go.RowKit Go.Shelf
set_option maxRecDepth 100000 in
set_option maxHeartbeats 1000000 in
theorem indexFind (v : Value) (l : List FindT) (x : FindT) (w : World) (hl : FindsAt w w.heap.size v l) :
  Calls Tryz.prog 68 #[v,x.val] w fun e w' => ∃ z : Int,e = .returned (.int .i64 z) ∧ decide (0 ≤ z) = decide (x ∈ l) ∧ Below w.heap.size w w' := by
 obtain ⟨A,c,rfl,hc1,hc2,hcell⟩ := hl.open_
 unfold maxLen at hc2
 have HC := Lib.hid hcell
 have HB0 := Lib.hid ((Below.refl _ w).alloc (Nat.le_refl _) (.cells #[.int .i64 x.kind,.string x.name] 49))
 have HX0 := Lib.hid (Blk.new w 49 #[.int .i64 x.kind,.string x.name])
 clear hl hcell
 go_enter Tryz.func68,Tryz.ntmps68
 go_upto_region 2 with fail
 generalize w.alloc (.cells #[.int .i64 x.kind,.string x.name] 49) = W1 at *
 have HN0 : Hid (x ∉ l.take 0) := by unfold Hid;simp
 go_loopw [8] (fun s wr => ∃ j : Nat,j ≤ l.length ∧ s = .int .i64 j ∧ Hid (x ∉ l.take j) ∧ Hid (Below W1.heap.size W1 wr)) (fun x _ => l.length - (intOf x).toNat)
 case atStart => exact ⟨0,Nat.zero_le _,rfl,HN0,Below.refl _ _⟩
 case round =>
  clear HN0
  obtain ⟨j,hj,rfl,HN,HT⟩ := hrel
  have j0 : (0 : Int) ≤ (j : Int) := Int.natCast_nonneg _
  have HBz := Lib.hid (HB0.out.trans (HT.out.mono HB0.out.size))
  by_cases hlt : j < l.length
  ·have j1 : (j : Int) < (l.length : Int) := by omega
   obtain ⟨b1,o1,rfl,hb1,hx⟩ := HC.out j hlt
   have y0 := (HBz.out.cell (p := ⟨b1,o1 + j * 2,none⟩) hb1).trans (hx j hlt).1
   have y1 := (HBz.out.cell (p := ⟨b1,o1 + j * 2 + 1,none⟩) hb1).trans (hx j hlt).2
   have hX := HX0.out.below HT.out HX0.out.lt
   have x0 := hX.cell 0
   have x1 := hX.cell 1
   simp only [List.getElem?_toArray,List.getElem?_cons_succ,List.getElem?_cons_zero] at x0 x1
   clear hx hX
   by_cases hq : x = l[j]
   ·have ht : (x.kind == l[j].kind) = true := by rw [← hq];exact beq_self_eq_true _
    have ht' : (x.name.toList == l[j].name.toList) = true := by rw [← hq];exact beq_self_eq_true _
    have HM : Hid (x ∈ l) := by unfold Hid;rw [hq];exact List.getElem_mem hlt
    clear hq
    go_wp2
    go_quiet (fail)
    go_wp2
    go_ret
    exact ⟨(j : Int),rfl,by rw [decide_eq_true j0,decide_eq_true HM.out],below_drewN HBz.out _⟩
   ·have HQ := Lib.hid hq
    have HNn : Hid (x ∉ l.take (j + 1)) := by
     unfold Hid
     rw [take_snoc l j hlt,List.mem_append,List.mem_singleton]
     rintro (h | h)
     ·exact HN.out h
     ·exact hq h
    by_cases hn : x.kind = l[j].kind
    ·have ht : (x.kind == l[j].kind) = true := beq_iff_eq.2 hn
     have ht' : (x.name.toList == l[j].name.toList) = false := by
      rw [str_beq]
      exact decide_eq_false fun h => HQ.out (by
      cases e1 : x;cases e2 : l[j]
      rw [e1,e2] at hn h
      simp only at hn h
      rw [hn,h])
     clear hq hn
     go_wp2
     go_quiet (fail)
     go_wp2
     go_roundw
     case rel => exact ⟨j + 1,by omega,by go_num,HNn,below_drewN HT.out _⟩
     case measure => simp [intOf];omega
    ·have ht : (x.kind == l[j].kind) = false := beq_eq_false_iff_ne.2 hn
     clear hq hn
     go_wp2
     go_quiet (fail)
     go_wp2
     go_roundw
     case rel => exact ⟨j + 1,by omega,by go_num,HNn,below_drewN HT.out _⟩
     case measure => simp [intOf];omega
  ·obtain rfl : j = l.length := by omega
   have HNo : Hid (x ∉ l) := by have h := HN.out;rw [List.take_length] at h;exact h
   go_wp2
   go_ret
   exact ⟨-1,rfl,by rw [decide_eq_false HNo.out];decide,HBz.out⟩
set_option maxHeartbeats 400000 in
theorem containsFind (v : Value) (l : List FindT) (x : FindT) (w : World) (hl : FindsAt w w.heap.size v l) :
  Calls Tryz.prog 22 #[v,x.val] w fun e w' => e = .returned (.bool (decide (x ∈ l))) ∧ Below w.heap.size w w' := by
 have hb := (Below.refl _ w).alloc (Nat.le_refl _) (.cells #[.int .i64 x.kind,.string x.name] 49)
 have hix := indexFind v l x _ ((hl.below hb (Nat.le_refl _)).mono hb.size)
 have HB := Lib.hid hb
 have HX := Lib.hid (Blk.new w 49 #[.int .i64 x.kind,.string x.name])
 have x0 := HX.out.cell 0
 have x1 := HX.out.cell 1
 simp only [List.getElem?_toArray,List.getElem?_cons_succ,List.getElem?_cons_zero] at x0 x1
 clear hl hb
 obtain ⟨k,n⟩ := x
 simp only at *
 go_enter Tryz.func22,Tryz.ntmps22
 go_wp2_with (go_at_call 68;refine hix.mono ?_;rintro e w' ⟨z,rfl,hz,hb'⟩)
 go_ret
 exact ⟨ret_bool (by rw [← hz]),HB.out.trans (hb'.mono HB.out.size)⟩
end Go.Proofs.YtknkhnahflmjiaaGreatDoor

namespace Go.Proofs.YtknkhnahflmjiaaGreatDoor
open Go.RowKit Go.Shelf
theorem spare_parts {s : SetT} {f : FrT} (h : spareE s f = 0) : givenE s f = 0 ∧ (linesL s).all (fun a => fracOk (spare23 s.most f a)) = true := by
 unfold spareE at h
 split at h
 ·rename_i h1
  split at h
  ·split at h
   ·rename_i h2
    exact ⟨h1,h2⟩
   ·cases h
  ·cases h
 ·rename_i h1
  exact absurd h h1
theorem spare_over {m : Int} {f a : FrT} (hm : 1 ≤ m ∧ m ≤ 67108864) (hk : fracOk (qOf a * qOf f) = true) (hf : 0 < qOf f) : over23 m f a = decide ((spare23 m f a).num < 0) := by
 rw [Bool.eq_iff_iff,over23_iff hm hk,decide_eq_true_eq]
 exact (spare_neg hf).symm
set_option maxRecDepth 100000 in
set_option maxHeartbeats 4000000 in
theorem lawSpares (v : Value) (s : SetT) (f : FrT) (w : World) (hv : SetAt w w.heap.size v s) (hn : SetNames s) : Calls Tryz.prog 5 #[v,f.val] w fun e w' => e = .returned (.bool true) ∧ Below w.heap.size w w' := by
 have HFew := fun W (hb : Below w.heap.size w W) => law23Few v s W (hv.grow hb) hn
 have HSp := fun W (hb : Below w.heap.size w W) => lmSpare v s f W (hv.grow hb) hn
 have HCk := fun W (hb : Below w.heap.size w W) => lmCheck v s f W (hv.grow hb) hn
 have HLs := fun W (hb : Below w.heap.size w W) => lfLines v s W (hv.grow hb) hn
 have HAw := Lib.hid fun W => lawAwake23 W
 unfold Check23Post at HCk
 unfold Spare23Post at HSp
 unfold LinesPost at HLs
 obtain ⟨Al,cl,Ai,ci,Ab,cb,rfl,-,-,-⟩ := hv
 obtain ⟨fn,hfn⟩ : ∃ fn,f.num = fn := ⟨_,rfl⟩
 obtain ⟨fd,hfd⟩ : ∃ fd,f.den = fd := ⟨_,rfl⟩
 have hfv : f.val = .agg #[.int .i64 fn,.int .i64 fd] := by rw [← hfn,← hfd]
 rw [hfv] at HCk HSp ⊢
 have HD := Lib.hid ((Blk.new w 37 #[.string s.name,.int .i64 s.depth,.int .i64 s.low,.int .i64 s.high,.int .i64 s.len,.slice Al s.lines.length cl,.int .i64 s.pipe,.int .i64 s.arbor,.int .i64 s.purch,.int .i64 s.most,.int .i64 s.brake,.slice Ai s.items.length ci,.slice Ab s.bricks.length cb]).alloc (.cells #[.int .i64 fn,.int .i64 fd] 23))
 have hE := Blk.new (w.alloc (.cells #[.string s.name,.int .i64 s.depth,.int .i64 s.low,.int .i64 s.high,.int .i64 s.len,.slice Al s.lines.length cl,.int .i64 s.pipe,.int .i64 s.arbor,.int .i64 s.purch,.int .i64 s.most,.int .i64 s.brake,.slice Ai s.items.length ci,.slice Ab s.bricks.length cb] 37)) 23 #[.int .i64 fn,.int .i64 fd]
 rw [World.size_alloc] at hE
 have HE := Lib.hid hE
 have HB := Lib.hid (((Below.refl _ w).alloc (Nat.le_refl _) (.cells #[.string s.name,.int .i64 s.depth,.int .i64 s.low,.int .i64 s.high,.int .i64 s.len,.slice Al s.lines.length cl,.int .i64 s.pipe,.int .i64 s.arbor,.int .i64 s.purch,.int .i64 s.most,.int .i64 s.brake,.slice Ai s.items.length ci,.slice Ab s.bricks.length cb] 37)).alloc (by simp) (.cells #[.int .i64 fn,.int .i64 fd] 23))
 have HFewH := Lib.hid HFew
 have HSpH := Lib.hid HSp
 have HCkH := Lib.hid HCk
 have HLsH := Lib.hid HLs
 clear hE HFew HSp HCk HLs hn
 unfold setVal at *
 go_enter Tryz.func5,Tryz.ntmps5
 go_upto_region 1 with fail
 generalize (w.alloc (.cells #[.string s.name,.int .i64 s.depth,.int .i64 s.low,.int .i64 s.high,.int .i64 s.len,.slice Al s.lines.length cl,.int .i64 s.pipe,.int .i64 s.arbor,.int .i64 s.purch,.int .i64 s.most,.int .i64 s.brake,.slice Ai s.items.length ci,.slice Ab s.bricks.length cb] 37)).alloc (.cells #[.int .i64 fn,.int .i64 fd] 23) = W1 at *
 go_upto_region 3 with (first | (go_at_call 11;refine (HAw.out _).mono ?_;rintro e w1 ⟨rfl,hb_w1⟩))
 have HD := Lib.hid (HD.out.below hb_w1 HD.out.lt)
 have HE := Lib.hid (HE.out.below hb_w1 HE.out.lt)
 have HB := Lib.hid (HB.out.trans (hb_w1.mono HB.out.size))
 clear hb_w1 HAw
 have z0 := HD.out.cell 0;have z1 := HD.out.cell 1;have z2 := HD.out.cell 2;have z3 := HD.out.cell 3;have z4 := HD.out.cell 4;have z5 := HD.out.cell 5;have z6 := HD.out.cell 6;have z7 := HD.out.cell 7;have z8 := HD.out.cell 8;have z9 := HD.out.cell 9;have z10 := HD.out.cell 10;have z11 := HD.out.cell 11;have z12 := HD.out.cell 12
 simp only [List.getElem?_toArray,List.getElem?_cons_succ,List.getElem?_cons_zero] at z0 z1 z2 z3 z4 z5 z6 z7 z8 z9 z10 z11 z12
 have hfw := HFewH.out _ HB.out
 go_wp2_with (first | (go_at_call 17;exact Go.WalkKit.wp_stop))
 refine hfw.mono ?_
 rintro e w2 ⟨q,rfl,hb_w2⟩
 have HD := Lib.hid (HD.out.below hb_w2 HD.out.lt)
 have HE := Lib.hid (HE.out.below hb_w2 HE.out.lt)
 have HB := Lib.hid (HB.out.trans (hb_w2.mono HB.out.size))
 clear hb_w2 hfw HFewH z0 z1 z2 z3 z4 z5 z6 z7 z8 z9 z10 z11 z12
 cases q with
 | false =>
  go_wp2_with fail
  go_ret
  exact ⟨rfl,HB.out⟩
 | true =>
  have z0 := HD.out.cell 0;have z1 := HD.out.cell 1;have z2 := HD.out.cell 2;have z3 := HD.out.cell 3;have z4 := HD.out.cell 4;have z5 := HD.out.cell 5;have z6 := HD.out.cell 6;have z7 := HD.out.cell 7;have z8 := HD.out.cell 8;have z9 := HD.out.cell 9;have z10 := HD.out.cell 10;have z11 := HD.out.cell 11;have z12 := HD.out.cell 12
  simp only [List.getElem?_toArray,List.getElem?_cons_succ,List.getElem?_cons_zero] at z0 z1 z2 z3 z4 z5 z6 z7 z8 z9 z10 z11 z12
  have HEc0 := HE.out.cell 0
  have HEc1 := HE.out.cell 1
  simp only [List.getElem?_toArray,List.getElem?_cons_succ,List.getElem?_cons_zero] at HEc0 HEc1
  have hck := HCkH.out _ HB.out
  have HCi := Lib.hid (@check_parts s f)
  have HSi := Lib.hid (@spare_parts s f)
  have HF : Hid (finds23 s.most f (linesL s) = finds23 s.most f (linesL s)) := rfl
  generalize hF : finds23 s.most f (linesL s) = F at *
  generalize hG : sparesL s.most f (linesL s) = G at *
  have HFe := Lib.hid hF
  have HGe := Lib.hid hG
  clear hF hG HF
  go_wp2_with (first | (go_at_call 18;exact Go.WalkKit.wp_stop))
  refine hck.mono ?_
  rintro e w5 ⟨hb5,h5⟩
  have HD := Lib.hid (HD.out.below hb5 HD.out.lt)
  have HE := Lib.hid (HE.out.below hb5 HE.out.lt)
  have HB := Lib.hid (HB.out.trans (hb5.mono HB.out.size))
  clear hb5 hck HCkH HEc0 HEc1 z0 z1 z2 z3 z4 z5 z6 z7 z8 z9 z10 z11 z12
  have z0 := HD.out.cell 0;have z1 := HD.out.cell 1;have z2 := HD.out.cell 2;have z3 := HD.out.cell 3;have z4 := HD.out.cell 4;have z5 := HD.out.cell 5;have z6 := HD.out.cell 6;have z7 := HD.out.cell 7;have z8 := HD.out.cell 8;have z9 := HD.out.cell 9;have z10 := HD.out.cell 10;have z11 := HD.out.cell 11;have z12 := HD.out.cell 12
  simp only [List.getElem?_toArray,List.getElem?_cons_succ,List.getElem?_cons_zero] at z0 z1 z2 z3 z4 z5 z6 z7 z8 z9 z10 z11 z12
  have HEc0 := HE.out.cell 0
  have HEc1 := HE.out.cell 1
  simp only [List.getElem?_toArray,List.getElem?_cons_succ,List.getElem?_cons_zero] at HEc0 HEc1
  have hsp := HSpH.out _ HB.out
  rcases h5 with ⟨hc0,v5,rfl,hF5⟩ | ⟨hc0,rfl⟩
  rotate_left
  ·have hcn : (check23E s f != 0) = true := bne_iff_ne.2 hc0
   have hcz : (check23E s f == 0) = false := beq_eq_false_iff_ne.2 hc0
   go_wp2_with (first | (go_at_call 19;exact Go.WalkKit.wp_stop))
   refine hsp.mono ?_
   rintro e w6 ⟨hb6,h6⟩
   have HD := Lib.hid (HD.out.below hb6 HD.out.lt)
   have HE := Lib.hid (HE.out.below hb6 HE.out.lt)
   have HB := Lib.hid (HB.out.trans (hb6.mono HB.out.size))
   clear hb6 hsp HSpH HEc0 HEc1 z0 z1 z2 z3 z4 z5 z6 z7 z8 z9 z10 z11 z12 HCi HSi
   rcases h6 with ⟨hs0,v6,rfl,hF6⟩ | ⟨hs0,rfl⟩
   ·obtain ⟨A6,c6,rfl,-⟩ := hF6.open_
    clear hF6 hs0 hc0
    go_wp2_with fail
    go_ret
    exact ⟨rfl,HB.out⟩
   ·have hsn : (spareE s f == 0) = false := beq_eq_false_iff_ne.2 hs0
    clear hs0 hc0
    go_wp2_with fail
    go_ret
    exact ⟨rfl,HB.out⟩
  obtain ⟨A5,c5,rfl,-⟩ := hF5.open_
  go_wp2_with (first | (go_at_call 19;exact Go.WalkKit.wp_stop))
  refine hsp.mono ?_
  rintro e w6 ⟨hb6,h6⟩
  have HD := Lib.hid (HD.out.below hb6 HD.out.lt)
  have HE := Lib.hid (HE.out.below hb6 HE.out.lt)
  have HB := Lib.hid (HB.out.trans (hb6.mono HB.out.size))
  have HF5 := Lib.hid ((hF5.below hb6 (Nat.le_refl _)).mono hb6.size)
  clear hb6 hsp HSpH HEc0 HEc1 z0 z1 z2 z3 z4 z5 z6 z7 z8 z9 z10 z11 z12 hF5
  rcases h6 with ⟨hs0,v6,rfl,hF6⟩ | ⟨hs0,rfl⟩
  rotate_left
  ·have hsn : (spareE s f != 0) = true := bne_iff_ne.2 hs0
   have hsz : (spareE s f == 0) = false := beq_eq_false_iff_ne.2 hs0
   clear hs0 hc0 HCi HSi
   go_wp2_with fail
   go_ret
   exact ⟨rfl,HB.out⟩
  obtain ⟨hgv,hfit⟩ := HCi.out hc0
  obtain ⟨hset,hfac,hle⟩ := given23 hgv
  obtain ⟨hgf,hf1,hf2,hf3⟩ := fac23 hfac
  obtain ⟨-,hlg,hl12,hl0⟩ := lines23 hle
  have hmost := (setB_ok hset).most
  have hqf : 0 < qOf f := q_pos hgf (by have := good_bd hgf;omega)
  have hkf : ∀ a ∈ linesL s,fracOk (qOf a * qOf f) = true := by unfold fits23 at hfit;exact List.all_eq_true.1 hfit
  have HSO := Lib.hid fun a (ha : a ∈ linesL s) => spare_over hmost (hkf a ha) hqf
  have hlen : (linesL s).length = s.lines.length := by
   unfold linesL reactL
   rw [List.length_map,List.length_map,List.length_range]
   rfl
  have hGl : G.length = (linesL s).length := by rw [← HGe.out];unfold sparesL;rw [List.length_map]
  have HLl := Lib.hid hlen
  have HGl := Lib.hid hGl
  clear hlen hGl
  have HLs2 : Hid (∀ W,Below w.heap.size w W → Calls Tryz.prog 20 #[.agg #[.string s.name,.int .i64 s.depth,.int .i64 s.low,.int .i64 s.high,.int .i64 s.len,.slice Al s.lines.length cl,.int .i64 s.pipe,.int .i64 s.arbor,.int .i64 s.purch,.int .i64 s.most,.int .i64 s.brake,.slice Ai s.items.length ci,.slice Ab s.bricks.length cb]] W fun e w' => Below W.heap.size W w' ∧ ∃ v4,e = .returned (.tuple #[v4,.int .i64 0]) ∧ FrsAt w' w'.heap.size v4 (linesL s)) := fun W hb => by
   refine (HLsH.out W hb).mono ?_
   rintro e w' ⟨h1,⟨-,v4,h2,h3⟩ | ⟨h2,-⟩⟩
   ·exact ⟨h1,v4,h2,h3⟩
   ·exact absurd hle h2
  have HF6 := Lib.hid hF6
  clear hgv hfit hset hfac hle hgf hf1 hf2 hf3 hmost hqf hkf HLsH HCi HSi hc0 hs0 hF6 hlg
  generalize linesL s = l at *
  have z0 := HD.out.cell 0;have z1 := HD.out.cell 1;have z2 := HD.out.cell 2;have z3 := HD.out.cell 3;have z4 := HD.out.cell 4;have z5 := HD.out.cell 5;have z6 := HD.out.cell 6;have z7 := HD.out.cell 7;have z8 := HD.out.cell 8;have z9 := HD.out.cell 9;have z10 := HD.out.cell 10;have z11 := HD.out.cell 11;have z12 := HD.out.cell 12
  simp only [List.getElem?_toArray,List.getElem?_cons_succ,List.getElem?_cons_zero] at z0 z1 z2 z3 z4 z5 z6 z7 z8 z9 z10 z11 z12
  have hls := HLs2.out _ HB.out
  obtain ⟨A6,c6,rfl,-,hc6,hcl6⟩ := HF6.out.open_
  go_upto_region 10 with (first | (go_at_call 20;refine hls.mono ?_;rintro e w8 ⟨hb8,v8,rfl,hF8⟩))
  clear z0 z1 z2 z3 z4 z5 z6 z7 z8 z9 z10 z11 z12 hls HLs2
  have HD := Lib.hid (HD.out.below hb8 HD.out.lt)
  have HE := Lib.hid (HE.out.below hb8 HE.out.lt)
  have HB := Lib.hid (HB.out.trans (hb8.mono HB.out.size))
  obtain ⟨A8,c8,rfl,-,hc8,hcl8⟩ := hF8.open_
  unfold maxLen at hc6 hc8
  have HG6 := Lib.hid fun k hk => hcl6 k hk
  have HL8 := Lib.hid hcl8
  have HF5 := Lib.hid ((HF5.out.below hb8 (Nat.le_refl _)).mono hb8.size)
  have HB68 := Lib.hid hb8
  clear hb8 hcl6 hcl8 hF8 HF6
  have z5 := HD.out.cell 5
  simp only [List.getElem?_toArray,List.getElem?_cons_succ,List.getElem?_cons_zero] at z5
  have n1 : ((l.length : Int) != (s.lines.length : Int)) = false := by rw [HLl.out];exact bne_self_eq_false _
  have n2 : ((G.length : Int) != (l.length : Int)) = false := by rw [HGl.out];exact bne_self_eq_false _
  go_upto_region 13 with fail
  clear z5 n1 n2
  have HZ0 : Hid (Below w8.heap.size w8 w8) := Below.refl _ _
  go_loopw [76] (fun ix wr => ∃ k : Nat,k ≤ l.length ∧ ix = .int .i64 k ∧ Hid (Below w8.heap.size w8 wr)) (fun ix _ => l.length - (intOf ix).toNat)
  case atStart => exact ⟨0,Nat.zero_le _,rfl,HZ0⟩
  case round =>
   clear HZ0
   obtain ⟨k,hk,rfl,HT⟩ := hrel
   have k0 : (0 : Int) ≤ (k : Int) := Int.natCast_nonneg _
   have HBz := Lib.hid (HB.out.trans (HT.out.mono HB.out.size))
   by_cases hkl : k < l.length
   ·have k1 : (k : Int) < (l.length : Int) := by omega
    have hkG : k < G.length := by rw [HGl.out];exact hkl
    have k2 : (k : Int) < (G.length : Int) := by omega
    obtain ⟨b1,o1,rfl,hb1,hx⟩ := HL8.out k hkl
    obtain ⟨b2,o2,rfl,hb2,hy⟩ := HG6.out k hkG
    have y0 := (HT.out.cell (p := ⟨b1,o1 + k * 2,none⟩) hb1).trans (hx k hkl).1
    have g0 := ((HB68.out.trans (HT.out.mono HB68.out.size)).cell (p := ⟨b2,o2 + k * 2,none⟩) hb2).trans (hy k hkG).1
    have hk100 : k + 1 < 100 := by omega
    have hIt := fun W => strItoa (k + 1) hk100 W
    have hc1 := @finds23_one s.most f l (by omega) k hkl
    have hc2 := @finds23_two s.most f l (by omega) k hkl
    rw [HFe.out] at hc1 hc2
    have hso := HSO.out l[k] (List.getElem_mem hkl)
    have hGk : G[k].num = (spare23 s.most f l[k]).num := by
     have e : G[k] = frOf (spare23 s.most f l[k]) := by
      have h : (sparesL s.most f l)[k]? = some (frOf (spare23 s.most f l[k])) := by
       unfold sparesL
       rw [List.getElem?_map,List.getElem?_eq_getElem hkl]
       rfl
      rw [HGe.out,List.getElem?_eq_getElem hkG] at h
      exact Option.some.inj h
     rw [e]
     rfl
    rw [hGk] at g0
    have ho1 : decide ((⟨1,itoaB (k + 1)⟩ : FindT) ∈ F) = decide ((spare23 s.most f l[k]).num < 0) := by
     rw [← hso,Bool.eq_iff_iff,decide_eq_true_eq]
     exact hc1
    have ho2 : decide ((⟨2,itoaB (k + 1)⟩ : FindT) ∈ F) = decide (l[k].num < 0) := by
     rw [Bool.eq_iff_iff,decide_eq_true_eq,decide_eq_true_eq]
     exact hc2
    have HFt := Lib.hid ((HF5.out.below HT.out (Nat.le_refl _)).mono HT.out.size)
    have HC1 : Hid (∀ W,Below wr.heap.size wr W → Calls Tryz.prog 22 #[.slice A5 F.length c5,.agg #[.int .i64 1,.string (itoaB (k + 1))]] W fun e w' => e = .returned (.bool (decide ((spare23 s.most f l[k]).num < 0))) ∧ Below W.heap.size W w') := fun W hb => by
     have h := containsFind _ F ⟨1,itoaB (k + 1)⟩ W ((HFt.out.below hb (Nat.le_refl _)).mono hb.size)
     rw [ho1] at h
     exact h
    have HC2 : Hid (∀ W,Below wr.heap.size wr W → Calls Tryz.prog 22 #[.slice A5 F.length c5,.agg #[.int .i64 2,.string (itoaB (k + 1))]] W fun e w' => e = .returned (.bool (decide (l[k].num < 0))) ∧ Below W.heap.size W w') := fun W hb => by
     have h := containsFind _ F ⟨2,itoaB (k + 1)⟩ W ((HFt.out.below hb (Nat.le_refl _)).mono hb.size)
     rw [ho2] at h
     exact h
    clear hx hy hc1 hc2 hso hGk ho1 ho2 HFt
    generalize (spare23 s.most f l[k]).num = gn at *
    generalize l[k].num = yn at *
    obtain ⟨o1b,ho1b⟩ : ∃ b,decide (gn < 0) = b := ⟨_,rfl⟩
    obtain ⟨o2b,ho2b⟩ : ∃ b,decide (yn < 0) = b := ⟨_,rfl⟩
    rw [ho1b] at HC1
    rw [ho2b] at HC2
    have m1 : (o1b != o1b) = false := by cases o1b <;> rfl
    have m2 : (o2b != o2b) = false := by cases o2b <;> rfl
    generalize itoaB (k + 1) = ib at *
    rw [Int.natCast_add,Int.natCast_one] at hIt
    have v1 : IntKind.i64.wrap ((k : Int) + 1) = (k : Int) + 1 := IntWalk.i64_in _ (by omega)
    go_upto_region 16 with (first | (go_at_call 21;refine (hIt _).mono ?_;rintro e w10 ⟨rfl,rfl⟩))
    have u0 := HeldB.cell y0
    have u1 := HeldB.cell g0
    clear y0 g0
    refine wp_region_grow 23 (fun jx => if jx = 3 then some (gC23 (.bool o1b)) else if jx = 15 then some (gC23 (.bool o2b)) else none) (by kernel_rfl) (by kernel_rfl) ?_
    simp only [List.take_succ_cons,List.take_zero,List.drop_succ_cons,List.drop_zero]
    first | refine wpG_quiet1W (by first | rfl | go_simp) rfl rfl ?_ | refine wpG_pickW rfl (by first | rfl | go_simp) rfl ?_
    go_big_quiet_step (fail)
    refine wpQuiet_nil ?_
    first | refine wpG_quiet1W (by first | rfl | go_simp) rfl rfl ?_ | refine wpG_pickW rfl (by first | rfl | go_simp) rfl ?_
    go_big_quiet_step (fail)
    refine wpQuiet_nil ?_
    first | refine wpG_quiet1W (by first | rfl | go_simp) rfl rfl ?_ | refine wpG_pickW rfl (by first | rfl | go_simp) rfl ?_
    go_big_quiet_step (fail)
    refine wpQuiet_nil ?_
    refine wpG_callW (by first | rfl | go_simp) rfl (fun w1 hb1 _ => ⟨22,#[.slice A5 F.length c5,.agg #[.int .i64 1,.string ib]],by go_simp,((HC1.out w1 hb1).mono fun _ _ hp => ⟨_,hp.1,hp.2,rfl,trivial⟩)⟩) ?_
    rintro _ rfl
    simp only [Act.put,List.setIfInBounds_toArray,List.set_cons_zero,List.set_cons_succ]
    first | refine wpG_quiet1W (by first | rfl | go_simp) rfl rfl ?_ | refine wpG_pickW rfl (by first | rfl | go_simp) rfl ?_
    go_big_quiet_step (fail)
    refine wpQuiet_nil ?_
    first | refine wpG_quiet1W (by first | rfl | go_simp) rfl rfl ?_ | refine wpG_pickW rfl (by first | rfl | go_simp) rfl ?_
    go_big_quiet_step (fail)
    refine wpQuiet_nil ?_
    first | refine wpG_quiet1W (by first | rfl | go_simp) rfl rfl ?_ | refine wpG_pickW rfl (by first | rfl | go_simp) rfl ?_
    go_big_quiet_step (fail)
    refine wpQuiet_nil ?_
    first | refine wpG_quiet1W (by first | rfl | go_simp) rfl rfl ?_ | refine wpG_pickW rfl (by first | rfl | go_simp) rfl ?_
    go_big_quiet_step (fail)
    refine wpQuiet_nil ?_
    first | refine wpG_quiet1W (by first | rfl | go_simp) rfl rfl ?_ | refine wpG_pickW rfl (by first | rfl | go_simp) rfl ?_
    go_big_quiet_step (fail)
    refine wpQuiet_nil ?_
    first | refine wpG_quiet1W (by first | rfl | go_simp) rfl rfl ?_ | refine wpG_pickW rfl (by first | rfl | go_simp) rfl ?_
    go_big_quiet_step (fail)
    refine wpQuiet_nil ?_
    first | refine wpG_quiet1W (by first | rfl | go_simp) rfl rfl ?_ | refine wpG_pickW rfl (by first | rfl | go_simp) rfl ?_
    go_big_quiet_step (fail)
    refine wpQuiet_nil ?_
    first | refine wpG_quiet1W (by first | rfl | go_simp) rfl rfl ?_ | refine wpG_pickW rfl (by first | rfl | go_simp) rfl ?_
    go_big_quiet_step (fail)
    refine wpQuiet_nil ?_
    first | refine wpG_quiet1W (by first | rfl | go_simp) rfl rfl ?_ | refine wpG_pickW rfl (by first | rfl | go_simp) rfl ?_
    go_big_quiet_step (fail)
    refine wpQuiet_nil ?_
    first | refine wpG_quiet1W (by first | rfl | go_simp) rfl rfl ?_ | refine wpG_pickW rfl (by first | rfl | go_simp) rfl ?_
    go_big_quiet_step (fail)
    refine wpQuiet_nil ?_
    first | refine wpG_quiet1W (by first | rfl | go_simp) rfl rfl ?_ | refine wpG_pickW rfl (by first | rfl | go_simp) rfl ?_
    go_big_quiet_step (fail)
    refine wpQuiet_nil ?_
    refine wpG_callW (by first | rfl | go_simp) rfl (fun w1 hb1 _ => ⟨22,#[.slice A5 F.length c5,.agg #[.int .i64 2,.string ib]],by go_simp,((HC2.out w1 hb1).mono fun _ _ hp => ⟨_,hp.1,hp.2,rfl,trivial⟩)⟩) ?_
    rintro _ rfl
    simp only [Act.put,List.setIfInBounds_toArray,List.set_cons_zero,List.set_cons_succ]
    first | refine wpG_quiet1W (by first | rfl | go_simp) rfl rfl ?_ | refine wpG_pickW rfl (by first | rfl | go_simp) rfl ?_
    go_big_quiet_step (fail)
    refine wpQuiet_nil ?_
    first | refine wpG_quiet1W (by first | rfl | go_simp) rfl rfl ?_ | refine wpG_pickW rfl (by first | rfl | go_simp) rfl ?_
    go_big_quiet_step (fail)
    refine wpQuiet_nil ?_
    first | refine wpG_quiet1W (by first | rfl | go_simp) rfl rfl ?_ | refine wpG_pickW rfl (by first | rfl | go_simp) rfl ?_
    go_big_quiet_step (fail)
    refine wpQuiet_nil ?_
    first | refine wpG_quiet1W (by first | rfl | go_simp) rfl rfl ?_ | refine wpG_pickW rfl (by first | rfl | go_simp) rfl ?_
    go_big_quiet_step (fail)
    refine wpQuiet_nil ?_
    first | refine wpG_quiet1W (by first | rfl | go_simp) rfl rfl ?_ | refine wpG_pickW rfl (by first | rfl | go_simp) rfl ?_
    go_big_quiet_step (fail)
    refine wpQuiet_nil ?_
    first | refine wpG_quiet1W (by first | rfl | go_simp) rfl rfl ?_ | refine wpG_pickW rfl (by first | rfl | go_simp) rfl ?_
    go_big_quiet_step (fail)
    refine wpQuiet_nil ?_
    first | refine wpG_quiet1W (by first | rfl | go_simp) rfl rfl ?_ | refine wpG_pickW rfl (by first | rfl | go_simp) rfl ?_
    go_big_quiet_step (fail)
    refine wpQuiet_nil ?_
    refine wpG_nil ?_
    intro w9 hb9 hF
    clear hF
    have HT := Lib.hid (HT.out.trans (hb9.mono HT.out.size))
    go_wp2_with fail
    go_roundw
    case rel => exact ⟨k + 1,by omega,by go_num,HT⟩
    case measure => simp [intOf];omega
   ·obtain rfl : k = l.length := by omega
    go_wp2_with fail
    go_ret
    exact ⟨rfl,HBz.out⟩
end Go.Proofs.YtknkhnahflmjiaaGreatDoor
