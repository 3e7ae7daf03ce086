/- Parts of the proof, laid into one text: RefWt, RefPath, RefJob. -/
import Derived.BigQuiet
import Derived.Deep.AppendLies
import Derived.Deep.Draws
import Derived.Deep.LoopGhost
import Derived.Deep.QuietTactic
import Derived.IntWalk
import Derived.Lib.Hide
import Derived.Maps.AppendAt
import Derived.Maps.Own
import Derived.Maps.OwnOps
import Derived.Maps.OwnSet
import Derived.Maps.Views
import Derived.PlainAid
import Derived.Shelf.Abstract
import Derived.StillTail
import Derived.StillTailTactics
import Derived.Test.YtfkikpbnigenhaaGreatC1
import Derived.Test.YtfkikpbnigenhaaGreatD1
import Derived.Test.YtfkikpbnigenhaaGreatD2
import Derived.Test.YtfkikpbnigenhaaGreatD3
import Derived.Test.YtfkikpbnigenhaaGreatE1
import Derived.Test.YtfkikpbnigenhaaGreatE2
import Derived.Test.YtfkikpbnigenhaaGreatG1
import Derived.Test.YtfkikpbnigenhaaGreatG2
import Derived.Test.YtfkikpbnigenhaaGreatProg
import Derived.WalkKit
import Derived.WalkLawsBesides
import Derived.WalkSpells

namespace Go.Proofs.YtfkikpbnigenhaaGreat
open Go.RowKit Go.Shelf
set_option maxRecDepth 100000 in
set_option maxHeartbeats 1000000 in
theorem refPipe21 (v : Value) (s : SetT) (B : Nat) (w : World) (hv : SetAt w B v s) (hp : 0 ≤ s.pipe ∧ s.pipe ≤ 1048576) (hl : 1000 ≤ s.len ∧ s.len ≤ 1048576) :
  Calls Tryz.prog 171 #[v] w fun e w' => e = .returned (.int .i64 (pipeN s)) ∧ Below w.heap.size w w' := by
 obtain ⟨Al,cl,Ai,ci,Ab,cb,rfl,-,-,-⟩ := hv
 have hb := pipe_bd hp hl
 have HE : Hid (pipeN s = s.pipe * (s.len / 1000)) := rfl
 have v1 : IntKind.i64.wrap (s.pipe * (s.len / 1000)) = s.pipe * (s.len / 1000) := IntWalk.i64_in _ (by omega)
 have v2 : IntKind.i64.wrap (s.len / 1000) = s.len / 1000 := IntWalk.i64_in _ (by omega)
 have v3 : s.len.tdiv 1000 = s.len / 1000 := Int.tdiv_eq_ediv_of_nonneg (by omega)
 clear hp hl hb
 unfold setVal
 go_enter Tryz.func171,Tryz.ntmps171
 go_wp2
 go_ret
 exact ⟨by rw [HE.out];rfl,(Below.refl _ _).alloc (Nat.le_refl _) _⟩
set_option maxRecDepth 100000 in
set_option maxHeartbeats 2000000 in
theorem refWeight21 (v : Value) (s : SetT) (w : World) (hv : SetAt w w.heap.size v s) (hp : 0 ≤ s.pipe ∧ s.pipe ≤ 1048576) (hl : 1000 ≤ s.len ∧ s.len ≤ 1048576) (hi : ∀ x ∈ s.items,0 ≤ x.wt ∧ x.wt ≤ 1048576) (h40 : s.items.length ≤ 40) :
  Calls Tryz.prog 141 #[v] w fun e w' => e = .returned (.int .i64 (weightN s)) ∧ Below w.heap.size w w' := by
 have hP := fun W (hb : Below w.heap.size w W) => refPipe21 v s W.heap.size W ((hv.below hb (Nat.le_refl _)).mono hb.size) hp hl
 have HBd := Lib.hid (wtTo_bd (s := s) (pipe_bd hp hl) hi)
 obtain ⟨Al,cl,Ai,ci,Ab,cb,rfl,hL,hI,hB⟩ := hv
 obtain ⟨_,_,e,hi1,hi2,hic⟩ := hI.open_
 injection e with e1 _ e2
 subst e1 e2
 have HI := Lib.hid hic
 have HD := Lib.hid (Blk.new w 26 #[.string s.name,.int .i64 s.depth,.int .i64 s.low,.int .i64 s.high,.int .i64 s.len,.slice Al s.lines.length cl,.int .i64 s.pipe,.int .i64 s.arbor,.int .i64 s.purch,.int .i64 s.most,.int .i64 s.brake,.slice Ai s.items.length ci,.slice Ab s.bricks.length cb])
 have HB1 := Lib.hid ((Below.refl _ w).alloc (Nat.le_refl _) (.cells #[.string s.name,.int .i64 s.depth,.int .i64 s.low,.int .i64 s.high,.int .i64 s.len,.slice Al s.lines.length cl,.int .i64 s.pipe,.int .i64 s.arbor,.int .i64 s.purch,.int .i64 s.most,.int .i64 s.brake,.slice Ai s.items.length ci,.slice Ab s.bricks.length cb] 26))
 unfold maxLen at hi2
 clear hL hI hB hic hp hl hi
 unfold setVal at *
 go_enter Tryz.func141,Tryz.ntmps141
 go_wp2_with (go_at_call 171;refine (hP _ HB1.out).mono ?_;rintro e w2 ⟨rfl,hb2⟩;have HB2 := Lib.hid (HB1.out.trans (hb2.mono HB1.out.size));have HD2 := Lib.hid (HD.out.below hb2 HD.out.lt);clear hb2)
 go_loopw [4,3] (fun x t wr => ∃ k : Nat,k ≤ s.items.length ∧ x = .int .i64 k ∧ t = .int .i64 (wtTo s k) ∧ Below w.heap.size w wr ∧ Hid (Blk wr w.heap.size 26 #[.string s.name,.int .i64 s.depth,.int .i64 s.low,.int .i64 s.high,.int .i64 s.len,.slice Al s.lines.length cl,.int .i64 s.pipe,.int .i64 s.arbor,.int .i64 s.purch,.int .i64 s.most,.int .i64 s.brake,.slice Ai s.items.length ci,.slice Ab s.bricks.length cb])) (fun x _ _ => s.items.length - (intOf x).toNat)
 case atStart => exact ⟨0,Nat.zero_le _,rfl,by simp [wtTo],HB2.out,HD2⟩
 case round =>
  clear HD2 HB2 HD HB1
  obtain ⟨k,hk,rfl,rfl,hbel,HD⟩ := hrel
  have z11 := HD.out.cell 11
  simp only [List.getElem?_toArray,List.getElem?_cons_succ,List.getElem?_cons_zero] at z11
  by_cases hkl : k < s.items.length
  ·obtain ⟨b1,off1,rfl,hb1,hc⟩ := HI.out k hkl
   have y3 := (hbel.cell (p := ⟨b1,off1 + k * 7 + 3,none⟩) hb1).trans (hc k hkl).2.2.2.1
   have h3 := HBd.out (k + 1) hkl
   have hs := wtTo_succ s k hkl
   have v1 : IntKind.i64.wrap (wtTo s k + s.items[k].wt) = wtTo s k + s.items[k].wt := IntWalk.i64_in _ (by rw [← hs];omega)
   have HS := Lib.hid hs
   have i1 : (0 : Int) ≤ (k : Int) := Int.natCast_nonneg _
   have i2 : (k : Int) < (s.items.length : Int) := by omega
   clear hc hs h3
   go_wp2
   go_roundw
   case rel => exact ⟨k + 1,by omega,by go_num,by rw [HS.out],hbel,HD⟩
   case measure => simp [intOf];omega
  ·obtain rfl : k = s.items.length := by omega
   go_wp2
   go_ret
   exact ⟨rfl,hbel⟩
abbrev cntV (l : List BrickT) (k : Nat) : List Value := ((l.take k).map BrickT.cnt).map (Value.int .i64)
theorem cntV_succ (l : List BrickT) {k : Nat} (hk : k < l.length) : cntV l (k + 1) = cntV l k ++ [.int .i64 l[k].cnt] := by
 unfold cntV
 rw [take_snoc l k hk,List.map_append,List.map_append]
 rfl
set_option maxRecDepth 100000 in
set_option maxHeartbeats 2000000 in
theorem refCounts (v : Value) (l : List BrickT) (w : World) (hl : BricksAt w w.heap.size v l) (h8 : l.length ≤ 8) :
  Calls Tryz.prog 111 #[v] w fun e w' => ∃ r,e = .returned r ∧ IntsAt w' w'.heap.size r (l.map BrickT.cnt) ∧ Below w.heap.size w w' := by
 obtain ⟨A,c,rfl,hc1,hc2,hcell⟩ := hl.open_
 unfold maxLen at hc2
 have HC := Lib.hid hcell
 clear hl hcell
 go_enter Tryz.func111,Tryz.ntmps111
 go_wp2
 go_loopw [4,3] (fun x t wr => ∃ (k : Nat) (A3 : Option Addr) (c3 : Nat),k ≤ l.length ∧ x = .int .i64 k ∧ t = .slice A3 k c3 ∧ Hid (wr.ownsRow w.heap.size 3 1 (.slice A3 k c3) k (cntV l k)) ∧ Hid (Below w.heap.size w wr)) (fun x _ _ => l.length - (intOf x).toNat)
 case atStart => exact ⟨0,none,0,Nat.zero_le _,rfl,rfl,World.ownsRow_nil _ _ _ _,Below.refl _ _⟩
 case round =>
  obtain ⟨k,A3,c3,hk,rfl,rfl,HO,HB⟩ := hrel
  by_cases hkl : k < l.length
  ·obtain ⟨b1,off1,rfl,hb1,hc⟩ := HC.out k hkl
   have y2 := (HB.out.cell (p := ⟨b1,off1 + k * 3 + 2,none⟩) hb1).trans (hc k hkl).2.2
   have HSu := Lib.hid (cntV_succ l hkl)
   have i1 : (0 : Int) ≤ (k : Int) := Int.natCast_nonneg _
   have i2 : (k : Int) < (l.length : Int) := by omega
   clear hc
   go_wp2_with (at_builtin;refine wpList_push _ rfl (.tmp 11) (.tmp 17) 22 rfl w.heap.size 3 info_int Tryz.underlying22 rfl _ k _ rfl HO.out (.int .i64 l[k].cnt) rfl rfl (by unfold maxLen;omega) (by omega) HB.out.size ?_;intro g3 cap3 w7 hown7 hgrow7 hbg hgg;have HB7 := Lib.hid (HB.out.grown hgrow7 HB.out.size (fun k hk => (HO.out.lt k hk).1));rw [← HSu.out] at hown7;have HO7 := Lib.hid hown7;clear hown7 hgrow7)
   go_roundw
   case rel => exact ⟨k + 1,_,_,by omega,by go_num,rfl,HO7,HB7⟩
   case measure => simp [intOf];omega
  ·obtain rfl : k = l.length := by omega
   go_wp2_with fail
   go_ret
   have hrow : wr.ownsRow w.heap.size 3 1 (.slice A3 l.length c3) (l.map BrickT.cnt).length ((l.map BrickT.cnt).map (Value.int .i64)) := by
    have := HO.out
    unfold cntV at this
    rw [List.take_length] at this
    rw [List.length_map]
    exact this
   exact ⟨_,rfl,RowAt.of_own hrow,HB.out⟩
set_option maxRecDepth 100000 in
set_option maxHeartbeats 2000000 in
theorem refSum25 (v u : Value) (l : List BrickT) (B : Nat) (w : World) (hl : BricksAt w B v l) (hu : IntsAt w B u (l.map BrickT.cnt)) (h8 : l.length ≤ 8) (hi : ∀ x ∈ l,(1 ≤ x.wt ∧ x.wt ≤ 1048576) ∧ (0 ≤ x.cnt ∧ x.cnt ≤ 60)) :
  Calls Tryz.prog 110 #[v,u] w fun e w' => e = .returned (.int .i64 (brickW l l.length)) ∧ ∃ q,w.drewN q = w' := by
 have HBd := Lib.hid (brickW_bd hi)
 have HOne := Lib.hid fun k (hk : k < l.length) => one_bd (hi _ (List.getElem_mem hk)).1 (hi _ (List.getElem_mem hk)).2
 obtain ⟨A,c,rfl,hc1,hc2,hcell⟩ := hl.open_
 obtain ⟨Ao,co,rfl,ho1,ho2,hoc⟩ := RowAt.open_ hu
 rw [List.length_map] at *
 unfold maxLen at hc2 ho2
 have HC := Lib.hid hcell
 have HO := Lib.hid hoc
 clear hl hu hcell hoc hi
 go_enter Tryz.func110,Tryz.ntmps110
 go_wp2
 go_loopw [6,5] (fun x t wr => ∃ k : Nat,k ≤ l.length ∧ x = .int .i64 k ∧ t = .int .i64 (brickW l k) ∧ ∃ q,wr = w.drewN q) (fun x _ _ => l.length - (intOf x).toNat)
 case atStart => exact ⟨0,Nat.zero_le _,rfl,rfl,0,rfl⟩
 case round =>
  obtain ⟨k,hk,rfl,rfl,q,rfl⟩ := hrel
  by_cases hkl : k < l.length
  ·obtain ⟨b1,off1,rfl,hb1,hc⟩ := HC.out k hkl
   obtain ⟨b2,off2,rfl,hb2,hoc⟩ := HO.out k (by rw [List.length_map];exact hkl)
   have y1 := (hc k hkl).2.1
   have x0 := hoc k (by rw [List.length_map];exact hkl)
   rw [List.getElem_map] at x0
   have h3 := HBd.out (k + 1) hkl
   have h4 := HOne.out k hkl
   have hs := brickW_succ l k hkl
   have v0 : IntKind.i64.wrap (l[k].wt * l[k].cnt) = l[k].wt * l[k].cnt := IntWalk.i64_in _ (by omega)
   have v1 : IntKind.i64.wrap (brickW l k + l[k].wt * l[k].cnt) = brickW l k + l[k].wt * l[k].cnt := IntWalk.i64_in _ (by rw [← hs];omega)
   have HS := Lib.hid hs
   have i1 : (0 : Int) ≤ (k : Int) := Int.natCast_nonneg _
   have i2 : (k : Int) < (l.length : Int) := by omega
   clear hc hoc hs h3 h4
   go_wp2
   go_quiet (fail)
   go_wp2
   go_roundw
   case rel => exact ⟨k + 1,by omega,by go_num,by rw [HS.out],_,rfl⟩
   case measure => simp [intOf];omega
  ·obtain rfl : k = l.length := by omega
   go_wp2
   go_ret
   exact ⟨rfl,_,rfl⟩
set_option maxRecDepth 100000 in
set_option maxHeartbeats 2000000 in
theorem refNeeded25 (v : Value) (s : SetT) (w : World) (hv : SetAt w w.heap.size v s) (hs : setB s = true) :
  Calls Tryz.prog 109 #[v] w fun e w' => e = .returned (.int .i64 (neededN s)) ∧ Below w.heap.size w w' := by
 have HWe := fun W (hb : Below w.heap.size w W) => refWeight21 v s W ((hv.below hb (Nat.le_refl _)).mono hb.size) (setB_ok hs).pipe (setB_ok hs).len (fun x hx => alone_wt ((setB_ok hs).wts.2 x hx).1) (setB_ok hs).wts.1
 have hb := weight_bd hs
 have hp := needed_bd hb (setB_ok hs).purch
 have ha := (setB_ok hs).arbor
 obtain ⟨Al,cl,Ai,ci,Ab,cb,rfl,-,-,-⟩ := hv
 have HD := Lib.hid (Blk.new w 26 #[.string s.name,.int .i64 s.depth,.int .i64 s.low,.int .i64 s.high,.int .i64 s.len,.slice Al s.lines.length cl,.int .i64 s.pipe,.int .i64 s.arbor,.int .i64 s.purch,.int .i64 s.most,.int .i64 s.brake,.slice Ai s.items.length ci,.slice Ab s.bricks.length cb])
 have HB1 := Lib.hid ((Below.refl _ w).alloc (Nat.le_refl _) (.cells #[.string s.name,.int .i64 s.depth,.int .i64 s.low,.int .i64 s.high,.int .i64 s.len,.slice Al s.lines.length cl,.int .i64 s.pipe,.int .i64 s.arbor,.int .i64 s.purch,.int .i64 s.most,.int .i64 s.brake,.slice Ai s.items.length ci,.slice Ab s.bricks.length cb] 26))
 have v1 : IntKind.i64.wrap (s.purch * weightN s) = s.purch * weightN s := IntWalk.i64_in _ (by rw [Int.mul_comm];omega)
 have v2 : IntKind.i64.wrap (s.purch * weightN s - s.arbor) = s.purch * weightN s - s.arbor := IntWalk.i64_in _ (by rw [Int.mul_comm];omega)
 have HE : Hid (neededN s = s.purch * weightN s - s.arbor) := by unfold Hid neededN;rw [Int.mul_comm]
 clear hs hb hp ha
 unfold setVal at *
 go_enter Tryz.func109,Tryz.ntmps109
 go_wp2_with fail
 generalize w.alloc (.cells #[.string s.name,.int .i64 s.depth,.int .i64 s.low,.int .i64 s.high,.int .i64 s.len,.slice Al s.lines.length cl,.int .i64 s.pipe,.int .i64 s.arbor,.int .i64 s.purch,.int .i64 s.most,.int .i64 s.brake,.slice Ai s.items.length ci,.slice Ab s.bricks.length cb] 26) = W1 at *
 have z0 := HD.out.cell 0;have z1 := HD.out.cell 1;have z2 := HD.out.cell 2;have z3 := HD.out.cell 3;have z4 := HD.out.cell 4;have z5 := HD.out.cell 5;have z6 := HD.out.cell 6;have z7 := HD.out.cell 7;have z8 := HD.out.cell 8;have z9 := HD.out.cell 9;have z10 := HD.out.cell 10;have z11 := HD.out.cell 11;have z12 := HD.out.cell 12
 simp only [List.getElem?_toArray,List.getElem?_cons_succ,List.getElem?_cons_zero] at z0 z1 z2 z3 z4 z5 z6 z7 z8 z9 z10 z11 z12
 have u0 := HeldB.cell z0
 have u1 := HeldB.cell z1
 have u2 := HeldB.cell z2
 have u3 := HeldB.cell z3
 have u4 := HeldB.cell z4
 have u5 := HeldB.cell z5
 have u6 := HeldB.cell z6
 have u7 := HeldB.cell z7
 have u8 := HeldB.cell z8
 have u9 := HeldB.cell z9
 have u10 := HeldB.cell z10
 have u11 := HeldB.cell z11
 have u12 := HeldB.cell z12
 have hap0 := fun (w' : World) (hb : Below W1.heap.size W1 w') => HWe w' (HB1.out.trans (hb.mono HB1.out.size))
 have hap := HeldB.call hap0
 clear hap0 HWe HD z0 z1 z2 z3 z4 z5 z6 z7 z8 z9 z10 z11 z12
 refine wp_region_heldb (by kernel_rfl) (by kernel_rfl) ?_
 repeat (go_big_quiet_step ((go_at_call 141;exact hap _)))
 refine wpQuiet_nil ?_
 rintro w7 ⟨⟨w8,hb7⟩,rfl⟩
 clear hap u0 u1 u2 u3 u4 u5 u6 u7 u8 u9 u10 u11 u12
 go_wp2_with fail
 go_ret
 exact ⟨ret_int HE.out.symm,HB1.out.trans (hb7.mono HB1.out.size)⟩
def gOne (v0 : Value) : GPost := ⟨fun v => v = v0,fun _ _ => True,⟨_,rfl⟩,fun _ _ _ _ _ => trivial,false⟩
def gInts (l : List Int) : GPost := ⟨fun v => ∃ A c,v = .slice A l.length c,fun v w => IntsAt w w.heap.size v l,⟨_,none,0,rfl⟩,fun _ _ _ hb h => (RowAt.below h hb (Nat.le_refl _)).mono hb.size,false⟩
set_option maxRecDepth 100000 in
set_option maxHeartbeats 2000000 in
theorem refBalance25 (v : Value) (s : SetT) (w : World) (hv : SetAt w w.heap.size v s) (hs : setB s = true) :
  Calls Tryz.prog 72 #[v] w fun e w' => e = .returned (.int .i64 (balanceN s)) ∧ Below w.heap.size w w' := by
 have HNe := fun W (hb : Below w.heap.size w W) => refNeeded25 v s W ((hv.below hb (Nat.le_refl _)).mono hb.size) hs
 have hbk := (setB_ok hs).brk
 have hb := weight_bd hs
 have hp := needed_bd hb (setB_ok hs).purch
 have ha := (setB_ok hs).arbor
 have hw := (brickW_bd hbk.2 _ (Nat.le_refl _)).1
 have h8 := hbk.1
 have v2 : IntKind.i64.wrap (neededN s - brickW s.bricks s.bricks.length) = neededN s - brickW s.bricks s.bricks.length := IntWalk.i64_in _ (by unfold neededN;omega)
 obtain ⟨Al,cl,Ai,ci,Ab,cb,rfl,-,-,hB⟩ := hv
 have HBr := Lib.hid fun W (hb : Below w.heap.size w W) => (BricksAt.below hB hb (Nat.le_refl _)).mono hb.size
 have HD := Lib.hid (Blk.new w 26 #[.string s.name,.int .i64 s.depth,.int .i64 s.low,.int .i64 s.high,.int .i64 s.len,.slice Al s.lines.length cl,.int .i64 s.pipe,.int .i64 s.arbor,.int .i64 s.purch,.int .i64 s.most,.int .i64 s.brake,.slice Ai s.items.length ci,.slice Ab s.bricks.length cb])
 have HB1 := Lib.hid ((Below.refl _ w).alloc (Nat.le_refl _) (.cells #[.string s.name,.int .i64 s.depth,.int .i64 s.low,.int .i64 s.high,.int .i64 s.len,.slice Al s.lines.length cl,.int .i64 s.pipe,.int .i64 s.arbor,.int .i64 s.purch,.int .i64 s.most,.int .i64 s.brake,.slice Ai s.items.length ci,.slice Ab s.bricks.length cb] 26))
 have HNe2 := Lib.hid HNe
 have HBk := Lib.hid hbk
 have HE : Hid (balanceN s = neededN s - brickW s.bricks s.bricks.length) := rfl
 clear hs hb hp ha HNe hB hw h8 hbk
 unfold setVal at *
 go_enter Tryz.func72,Tryz.ntmps72
 go_wp2_with fail
 generalize w.alloc (.cells #[.string s.name,.int .i64 s.depth,.int .i64 s.low,.int .i64 s.high,.int .i64 s.len,.slice Al s.lines.length cl,.int .i64 s.pipe,.int .i64 s.arbor,.int .i64 s.purch,.int .i64 s.most,.int .i64 s.brake,.slice Ai s.items.length ci,.slice Ab s.bricks.length cb] 26) = W1 at *
 have z0 := HD.out.cell 0;have z1 := HD.out.cell 1;have z2 := HD.out.cell 2;have z3 := HD.out.cell 3;have z4 := HD.out.cell 4;have z5 := HD.out.cell 5;have z6 := HD.out.cell 6;have z7 := HD.out.cell 7;have z8 := HD.out.cell 8;have z9 := HD.out.cell 9;have z10 := HD.out.cell 10;have z11 := HD.out.cell 11;have z12 := HD.out.cell 12
 simp only [List.getElem?_toArray,List.getElem?_cons_succ,List.getElem?_cons_zero] at z0 z1 z2 z3 z4 z5 z6 z7 z8 z9 z10 z11 z12
 have u0 := HeldB.cell z0
 have u1 := HeldB.cell z1
 have u2 := HeldB.cell z2
 have u3 := HeldB.cell z3
 have u4 := HeldB.cell z4
 have u5 := HeldB.cell z5
 have u6 := HeldB.cell z6
 have u7 := HeldB.cell z7
 have u8 := HeldB.cell z8
 have u9 := HeldB.cell z9
 have u10 := HeldB.cell z10
 have u11 := HeldB.cell z11
 have u12 := HeldB.cell z12
 clear HD z0 z1 z2 z3 z4 z5 z6 z7 z8 z9 z10 z11 z12
 refine wp_region_grow 9 (fun jx => if jx = 1 then some (gOne (.int .i64 (neededN s))) else if jx = 6 then some (gInts (s.bricks.map BrickT.cnt)) else if jx = 7 then some (gOne (.int .i64 (brickW s.bricks s.bricks.length))) else none) (by kernel_rfl) (by kernel_rfl) ?_
 simp only [List.take_succ_cons,List.take_zero,List.drop_succ_cons,List.drop_zero]
 refine wpG_quiet 1 (by kernel_rfl) (by rfl) (by decide) ?_
 simp only [List.take_succ_cons,List.take_zero,List.drop_succ_cons,List.drop_zero]
 repeat (go_big_quiet_step (fail))
 refine wpQuiet_nil ?_
 refine wpG_call rfl rfl (fun w1 hb1 _ => ⟨109,#[.agg #[.string s.name,.int .i64 s.depth,.int .i64 s.low,.int .i64 s.high,.int .i64 s.len,.slice Al s.lines.length cl,.int .i64 s.pipe,.int .i64 s.arbor,.int .i64 s.purch,.int .i64 s.most,.int .i64 s.brake,.slice Ai s.items.length ci,.slice Ab s.bricks.length cb]],by go_simp,(HNe2.out w1 (HB1.out.trans (hb1.mono HB1.out.size))).mono fun e w'' ⟨he,hb⟩ => ⟨_,he,hb,rfl,trivial⟩⟩) ?_
 rintro _ rfl
 simp only [Act.put,List.setIfInBounds_toArray,List.set_cons_zero,List.set_cons_succ]
 refine wpG_quiet 4 (by kernel_rfl) (by rfl) (by decide) ?_
 simp only [List.take_succ_cons,List.take_zero,List.drop_succ_cons,List.drop_zero]
 repeat (go_big_quiet_step (fail))
 refine wpQuiet_nil ?_
 refine wpG_call rfl rfl (fun w1 hb1 _ => ⟨111,#[.slice Ab s.bricks.length cb],by go_simp,(refCounts _ s.bricks w1 (HBr.out w1 (HB1.out.trans (hb1.mono HB1.out.size))) HBk.out.1).mono fun e w'' ⟨r,he,hI,hb⟩ => ⟨_,he,hb,(by obtain ⟨A9,c9,e9,-⟩ := RowAt.open_ hI;exact ⟨A9,c9,e9⟩),hI⟩⟩) ?_
 rintro _ ⟨A9,c9,rfl⟩
 simp only [Act.put,List.setIfInBounds_toArray,List.set_cons_zero,List.set_cons_succ]
 refine wpG_call rfl rfl ?_ ?_
 ·intro w1 hb1 hk
  have hI : IntsAt w1 w1.heap.size (.slice A9 (s.bricks.map BrickT.cnt).length c9) (s.bricks.map BrickT.cnt) := hk 9 (of_decide_eq_true (by kernel_rfl))
  exact ⟨110,#[.slice Ab s.bricks.length cb,.slice A9 (s.bricks.map BrickT.cnt).length c9],by go_simp,(refSum25 _ _ s.bricks w1.heap.size w1 (HBr.out w1 (HB1.out.trans (hb1.mono HB1.out.size))) hI HBk.out.1 HBk.out.2).mono fun e w'' ⟨he,q,hq⟩ => ⟨_,he,by rw [← hq];exact below_drewN (Below.refl _ _) q,rfl,trivial⟩⟩
 rintro _ rfl
 simp only [Act.put,List.setIfInBounds_toArray,List.set_cons_zero,List.set_cons_succ]
 refine wpG_quiet 1 (by kernel_rfl) (by rfl) (by decide) ?_
 simp only [List.take_succ_cons,List.take_zero,List.drop_succ_cons,List.drop_zero]
 repeat (go_big_quiet_step (fail))
 refine wpQuiet_nil ?_
 refine wpG_nil ?_
 intro w10 hb10 _
 clear u0 u1 u2 u3 u4 u5 u6 u7 u8 u9 u10 u11 u12
 go_wp2_with fail
 go_ret
 exact ⟨ret_int HE.out.symm,HB1.out.trans (hb10.mono HB1.out.size)⟩
end Go.Proofs.YtfkikpbnigenhaaGreat

namespace Go.Proofs.YtfkikpbnigenhaaGreat
open Go.RowKit Go.Shelf
set_option maxRecDepth 100000 in
set_option maxHeartbeats 4000000 in
theorem refPath27 (v u : Value) (s : SetT) (l : List JobT) (w : World) (hv : SetAt w w.heap.size v s) (hl : JobsAt w w.heap.size u l) (hs : setB s = true) (hok : JobsOk l) :
  Calls Tryz.prog 32 #[v,u] w fun e w' => ∃ r,e = .returned r ∧ IntsAt w' w'.heap.size r (pathL s l) ∧ Below w.heap.size w w' := by
 have HS := Lib.hid fun W (hb : Below w.heap.size w W) => hv.grow hb
 have HBa := fun W (hb : Below w.heap.size w W) => refBalance25 v s W (HS.out W hb) hs
 have HCh := Lib.hid fun (x : JobT) (hx : x ∈ l) W (hb : Below w.heap.size w W) => refChange v s x _ W (HS.out W hb) (setB_ok hs).purch (hok.wt x hx)
 have HBd := Lib.hid fun k (hk : k ≤ l.length) => pathTo_bd2 hs hok hk
 have HLn := Lib.hid hok.len
 obtain ⟨A,c,rfl,hc1,hc2,hcell⟩ := hl.open_
 unfold maxLen at hc2
 have HC := Lib.hid hcell
 obtain ⟨Al,cl,Ai,ci,Ab,cb,rfl,-,-,-⟩ := hv
 have HD := Lib.hid (Blk.new w 26 #[.string s.name,.int .i64 s.depth,.int .i64 s.low,.int .i64 s.high,.int .i64 s.len,.slice Al s.lines.length cl,.int .i64 s.pipe,.int .i64 s.arbor,.int .i64 s.purch,.int .i64 s.most,.int .i64 s.brake,.slice Ai s.items.length ci,.slice Ab s.bricks.length cb])
 have HB1 := Lib.hid ((Below.refl _ w).alloc (Nat.le_refl _) (.cells #[.string s.name,.int .i64 s.depth,.int .i64 s.low,.int .i64 s.high,.int .i64 s.len,.slice Al s.lines.length cl,.int .i64 s.pipe,.int .i64 s.arbor,.int .i64 s.purch,.int .i64 s.most,.int .i64 s.brake,.slice Ai s.items.length ci,.slice Ab s.bricks.length cb] 26))
 have hba := HBa _ HB1.out
 have HP0 : Hid (pathTo s l 0 = balanceN s) := rfl
 clear HBa hl hs hok hcell
 unfold setVal at *
 go_enter Tryz.func32,Tryz.ntmps32
 go_wp2_with (go_at_call 72;fail)
 generalize w.alloc (.cells #[.string s.name,.int .i64 s.depth,.int .i64 s.low,.int .i64 s.high,.int .i64 s.len,.slice Al s.lines.length cl,.int .i64 s.pipe,.int .i64 s.arbor,.int .i64 s.purch,.int .i64 s.most,.int .i64 s.brake,.slice Ai s.items.length ci,.slice Ab s.bricks.length cb] 26) = W1 at *
 go_at_call 72
 refine hba.mono ?_
 rintro e w3 ⟨rfl,hb3⟩
 have hbx3 := Lib.hid (HB1.out.trans (hb3.mono HB1.out.size))
 have HD3 := Lib.hid (HD.out.below hb3 HD.out.lt)
 clear hba hb3
 rw [← HP0.out]
 go_wp2_with fail
 have HO0 := own_one w3 w.heap.size 3 (.int .i64 (pathTo s l 0)) hbx3.out.size
 have HBO := Lib.hid (hbx3.out.alloc hbx3.out.size (.cells #[.int .i64 (pathTo s l 0)] 3))
 have HDO := Lib.hid (HD3.out.below ((Below.refl w3.heap.size w3).alloc (Nat.le_refl _) (.cells #[.int .i64 (pathTo s l 0)] 3)) HD3.out.lt)
 clear hbx3 HD3
 have HO1 := Lib.hid HO0
 clear HO0
 generalize w3.heap.size = G at *
 generalize w3.alloc (.cells #[.int .i64 (pathTo s l 0)] 3) = W4 at *
 go_loopw [7,6,5] (fun ix o n wr => ∃ (k : Nat) (A3 : Option Addr) (c3 : Nat),k ≤ l.length ∧ ix = .int .i64 k ∧ o = .slice A3 (k + 1) c3 ∧ n = .int .i64 (pathTo s l k) ∧ Hid (wr.ownsRow w.heap.size 3 1 (.slice A3 (k + 1) c3) (k + 1) (pathV s l (k + 1))) ∧ Hid (Below w.heap.size w wr) ∧ Hid (Blk wr w.heap.size 26 #[.string s.name,.int .i64 s.depth,.int .i64 s.low,.int .i64 s.high,.int .i64 s.len,.slice Al s.lines.length cl,.int .i64 s.pipe,.int .i64 s.arbor,.int .i64 s.purch,.int .i64 s.most,.int .i64 s.brake,.slice Ai s.items.length ci,.slice Ab s.bricks.length cb])) (fun ix _ _ _ => l.length - (intOf ix).toNat)
 case atStart => exact ⟨0,_,_,Nat.zero_le _,rfl,rfl,rfl,HO1,HBO,HDO⟩
 case round =>
  clear HO1 HBO HDO
  obtain ⟨k,A3,c3,hk,rfl,rfl,rfl,HO,HB,HDr⟩ := hrel
  have h100 := HLn.out
  by_cases hkl : k < l.length
  ·obtain ⟨b1,off1,rfl,hb1,hc⟩ := HC.out k hkl
   have y0 := (HB.out.cell (p := ⟨b1,off1 + k * 3,none⟩) hb1).trans (hc k hkl).1
   have y1 := (HB.out.cell (p := ⟨b1,off1 + k * 3 + 1,none⟩) hb1).trans (hc k hkl).2.1
   have y2 := (HB.out.cell (p := ⟨b1,off1 + k * 3 + 2,none⟩) hb1).trans (hc k hkl).2.2
   have HSu := Lib.hid (pathTo_succ s l hkl)
   have hbd := HBd.out (k + 1) (by omega)
   have v1 : IntKind.i64.wrap (pathTo s l k + chgN s l[k]) = pathTo s l k + chgN s l[k] := IntWalk.i64_in _ (by rw [← HSu.out];omega)
   have i1 : (0 : Int) ≤ (k : Int) := Int.natCast_nonneg _
   have i2 : (k : Int) < (l.length : Int) := by omega
   have hap0 := fun (w' : World) (hb : Below wr.heap.size wr w') => HCh.out l[k] (List.getElem_mem hkl) w' (HB.out.trans (hb.mono HB.out.size))
   have hap := HeldB.call hap0
   have z0 := HDr.out.cell 0;have z1 := HDr.out.cell 1;have z2 := HDr.out.cell 2;have z3 := HDr.out.cell 3;have z4 := HDr.out.cell 4;have z5 := HDr.out.cell 5;have z6 := HDr.out.cell 6;have z7 := HDr.out.cell 7;have z8 := HDr.out.cell 8;have z9 := HDr.out.cell 9;have z10 := HDr.out.cell 10;have z11 := HDr.out.cell 11;have z12 := HDr.out.cell 12
   simp only [List.getElem?_toArray,List.getElem?_cons_succ,List.getElem?_cons_zero] at z0 z1 z2 z3 z4 z5 z6 z7 z8 z9 z10 z11 z12
   have u0 := HeldB.cell z0
   have u1 := HeldB.cell z1
   have u2 := HeldB.cell z2
   have u3 := HeldB.cell z3
   have u4 := HeldB.cell z4
   have u5 := HeldB.cell z5
   have u6 := HeldB.cell z6
   have u7 := HeldB.cell z7
   have u8 := HeldB.cell z8
   have u9 := HeldB.cell z9
   have u10 := HeldB.cell z10
   have u11 := HeldB.cell z11
   have u12 := HeldB.cell z12
   have t0 := HeldB.cell y0
   have t1 := HeldB.cell y1
   have t2 := HeldB.cell y2
   clear hc hbd hap0 y0 y1 y2 z0 z1 z2 z3 z4 z5 z6 z7 z8 z9 z10 z11 z12
   go_wp2_with fail
   refine wp_region_heldb (by kernel_rfl) (by kernel_rfl) ?_
   repeat (go_big_quiet_step ((go_at_call 73;exact hap _)))
   refine wpQuiet_nil ?_
   rintro w6 ⟨⟨w8,hb6⟩,rfl⟩
   have HB6 := Lib.hid (HB.out.trans (hb6.mono HB.out.size))
   have HD6 := Lib.hid (HDr.out.below hb6 HDr.out.lt)
   have HO6 := own_pastJ HO.out hb6
   clear hap hb6 t0 t1 t2 u0 u1 u2 u3 u4 u5 u6 u7 u8 u9 u10 u11 u12
   go_wp2_with (first | (at_builtin;refine wpList_push _ rfl (.tmp 26) (.tmp 28) 22 rfl w.heap.size 3 info_int Tryz.underlying22 rfl _ (k + 1) _ rfl HO6 (.int .i64 (pathTo s l k + chgN s l[k])) rfl rfl (by unfold maxLen;omega) (by omega) HB6.out.size ?_;intro g3 cap3 w7 hown7 hgrow7 hbg hgg;have HB7 := Lib.hid (HB6.out.grown hgrow7 HB6.out.size (fun k hk => (HO6.lt k hk).1));have HD7 := Lib.hid (HD6.out.kept hgrow7 (HD6.out.ne_own HO6 (by decide)));rw [← HSu.out,← pathV_succ] at hown7;have HO7 := Lib.hid hown7;clear hown7 hgrow7))
   go_roundw
   case rel => exact ⟨k + 1,_,_,by omega,by go_num,rfl,by rw [HSu.out],HO7,HB7,HD7⟩
   case measure => simp [intOf];omega
  ·obtain rfl : k = l.length := by omega
   go_wp2_with fail
   go_ret
   exact ⟨_,rfl,RowAt.of_own (l := pathL s l) (enc := Value.int .i64) HO.out,HB.out⟩
end Go.Proofs.YtfkikpbnigenhaaGreat

namespace Go.Proofs.YtfkikpbnigenhaaGreat
open Go.RowKit Go.Shelf
def jbAt (l : List JobT) (i : Nat) : JobT := l.getD i default
theorem jbAt_eq {l : List JobT} {i : Nat} (h : i < l.length) : jbAt l i = l[i] := by unfold jbAt;rw [List.getD_eq_getElem?_getD,List.getElem?_eq_getElem h];rfl
def nameJ (l : List JobT) (k j : Nat) : Bool := !decide ((jbAt l j).name = (jbAt l k).name)
def jobGoodR (l : List JobT) (k : Nat) : Bool := nameB (jbAt l k).name && (betweenB (jbAt l k).wt (-1048576) 1048576 && upto (nameJ l k) k)
def jobsR (l : List JobT) : Bool := decide (l.length ≤ 100) && upto (jobGoodR l) l.length
theorem nameJ_eq {l : List JobT} {k j : Nat} (hk : k < l.length) (hj : j < l.length) : nameJ l k j = !decide (l[j].name = l[k].name) := by
 unfold nameJ
 rw [jbAt_eq hk,jbAt_eq hj]
theorem jobsR_eq (l : List JobT) : jobsR l = jobsB l := by
 unfold jobsR jobsB
 congr 1
 refine upto_congr fun i hi => ?_
 rw [jobGood_eq hi]
 unfold jobGoodR
 rw [jbAt_eq hi,Bool.and_comm (!decide _) (betweenB _ _ _)]
 congr 2
 by_cases h : l[i].name ∈ (l.map JobT.name).take i
 ·rw [decide_eq_true h]
  rw [List.mem_take_iff_getElem] at h
  obtain ⟨j,hj,e⟩ := h
  rw [List.length_map] at hj
  rw [List.getElem_map] at e
  exact upto_no (show j < i by omega) (by rw [nameJ_eq hi (by omega),decide_eq_true e];rfl)
 ·rw [decide_eq_false h]
  refine upto_iff.2 fun j hj => ?_
  rw [nameJ_eq hi (by omega),decide_eq_false,Bool.not_false]
  intro e
  exact h (by rw [List.mem_take_iff_getElem];exact ⟨j,by rw [List.length_map];omega,by rw [List.getElem_map];exact e⟩)
theorem jobsR_no {l : List JobT} {k : Nat} (hk : k < l.length) (h : jobGoodR l k = false) : jobsR l = false := by
 unfold jobsR
 rw [upto_no hk h,Bool.and_false]
set_option maxRecDepth 100000 in
set_option maxHeartbeats 4000000 in
theorem refValid27 (v : Value) (l : List JobT) (B : Nat) (w : World) (hl : JobsAt w B v l) (hn : ∀ x ∈ l,x.name.size ≤ maxLen) :
  Calls Tryz.prog 10 #[v] w fun e w' => e = .returned (.bool (jobsB l)) ∧ ∃ q,w.drewN q = w' := by
 rw [← jobsR_eq]
 obtain ⟨A,c,rfl,hc1,hc2,hcell⟩ := hl.open_
 unfold maxLen at hc2
 have HC := Lib.hid hcell
 have HN := Lib.hid hn
 clear hl hcell hn
 by_cases c0 : 100 < (l.length : Int)
 ·have d0 : decide (100 < (l.length : Int)) = true := decide_eq_true c0
  have HV : Hid (jobsR l = false) := by unfold Hid jobsR;rw [decide_eq_false (show ¬ l.length ≤ 100 by omega)];rfl
  go_enter Tryz.func10,Tryz.ntmps10
  go_wp2
  go_ret
  exact ⟨ret_bool HV.out.symm,0,rfl⟩
 have d0 : decide (100 < (l.length : Int)) = false := decide_eq_false c0
 have HV : Hid (jobsR l = upto (jobGoodR l) l.length) := by unfold Hid jobsR;rw [decide_eq_true (show l.length ≤ 100 by omega)];rfl
 go_enter Tryz.func10,Tryz.ntmps10
 go_wp2
 go_loopw [3] (fun x wr => ∃ k : Nat,k ≤ l.length ∧ x = .int .i64 k ∧ Hid (upto (jobGoodR l) k = true) ∧ ∃ q,wr = w.drewN q) (fun x _ => l.length - (intOf x).toNat)
 case atStart => exact ⟨0,Nat.zero_le _,rfl,upto_zero _,0,rfl⟩
 case round =>
  obtain ⟨k,hk,rfl,HU,q,rfl⟩ := hrel
  by_cases hkl : k < l.length
  ·obtain ⟨b,off,rfl,hb,hc⟩ := HC.out k hkl
   have HC2 := Lib.hid hc
   have y0 := (hc k hkl).1
   have y1 := (hc k hkl).2.1
   have y2 := (hc k hkl).2.2
   have hnm := fun W => refIsName l[k].name (HN.out _ (List.getElem_mem hkl)) W
   have HBk : Hid (jobGoodR l k = (nameB l[k].name && (betweenB l[k].wt (-1048576) 1048576 && upto (nameJ l k) k))) := by unfold Hid jobGoodR;rw [jbAt_eq hkl]
   have HNo := Lib.hid (fun h : jobGoodR l k = false => jobsR_no hkl h)
   have i1 : (0 : Int) ≤ (k : Int) := Int.natCast_nonneg _
   have i2 : (k : Int) < (l.length : Int) := by omega
   clear hc
   go_wp2_with (go_at_call 26;fail)
   go_at_call 26
   refine (hnm _).mono ?_
   rintro e w' ⟨rfl,rfl⟩
   rcases Bool.eq_false_or_eq_true (nameB l[k].name) with h0 | h0
   rotate_left
   ·have HV2 : Hid (jobsR l = false) := HNo.out (by rw [HBk.out,h0];rfl)
    rw [h0]
    go_wp2_with fail
    go_ret
    exact ⟨ret_bool HV2.out.symm,_,rfl⟩
   rw [h0,Bool.true_and] at HBk
   rw [h0]
   clear h0
   go_wp2_with (go_at_call 30;fail)
   go_at_call 30
   refine (refBetween27 _ _ _ _).mono ?_
   rintro e w' ⟨rfl,rfl⟩
   rcases Bool.eq_false_or_eq_true (betweenB l[k].wt (-1048576) 1048576) with h1 | h1
   rotate_left
   ·have HV2 : Hid (jobsR l = false) := HNo.out (by rw [HBk.out,h1];rfl)
    rw [h1]
    go_wp2_with fail
    go_ret
    exact ⟨ret_bool HV2.out.symm,_,rfl⟩
   rw [h1,Bool.true_and] at HBk
   rw [h1]
   clear h1
   go_wp2_with fail
   clear y0 y1 y2
   generalize hQ : q = q0
   clear hQ
   go_loopw [4] (fun x wr => ∃ j : Nat,j ≤ k ∧ x = .int .i64 j ∧ Hid (upto (nameJ l k) j = true) ∧ ∃ q,wr = w.drewN q) (fun x _ => k - (intOf x).toNat)
   case atStart => exact ⟨0,Nat.zero_le _,rfl,upto_zero _,_,rfl⟩
   case round =>
    obtain ⟨j,hj,rfl,HU2,q1,rfl⟩ := hrel
    by_cases hjk : j < k
    ·have hjl : j < l.length := by omega
     have y0 := (HC2.out k hkl).1
     have u0 := (HC2.out j hjl).1
     have j1 : (0 : Int) ≤ (j : Int) := Int.natCast_nonneg _
     have j2 : (j : Int) < (l.length : Int) := by omega
     have HPq := Lib.hid (nameJ_eq hkl hjl)
     by_cases hq : l[j].name = l[k].name
     ·have hqb : (l[j].name.toList == l[k].name.toList) = true := by rw [str_beq];simpa using hq
      have HV2 : Hid (jobsR l = false) := HNo.out (by rw [HBk.out];exact upto_no hjk (by rw [HPq.out,decide_eq_true hq];rfl))
      clear hq
      go_wp2
      go_quiet (fail)
      go_wp2
      go_ret
      exact ⟨ret_bool HV2.out.symm,q2⟩
     ·have hqb : (l[j].name.toList == l[k].name.toList) = false := by rw [str_beq];simpa using hq
      have HU3 := Lib.hid (upto_succ HU2.out (show nameJ l k j = true by rw [HPq.out,decide_eq_false hq];rfl))
      clear hq
      go_wp2
      go_quiet (fail)
      go_wp2
      go_roundw
      case rel => exact ⟨j + 1,by omega,by go_num,HU3,_,rfl⟩
      case measure => simp [intOf];omega
    ·obtain rfl : j = k := by omega
     have HU4 := Lib.hid (upto_succ HU.out (show jobGoodR l j = true by rw [HBk.out];exact HU2.out))
     go_wp2
     go_roundw
     case rel => exact ⟨j + 1,by omega,by go_num,HU4,_,rfl⟩
     case measure => simp [intOf];omega
  ·obtain rfl : k = l.length := by omega
   have HV2 : Hid (jobsR l = true) := by unfold Hid;rw [HV.out,HU.out]
   go_wp2
   go_ret
   exact ⟨ret_bool HV2.out.symm,_,rfl⟩
end Go.Proofs.YtfkikpbnigenhaaGreat
