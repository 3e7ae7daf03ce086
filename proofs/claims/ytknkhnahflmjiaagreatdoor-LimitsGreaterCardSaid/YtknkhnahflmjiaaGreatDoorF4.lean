/- Parts of the proof, laid into one text: BeamS, BatY, BatZ, BatL. -/
import Derived.BigQuiet
import Derived.Deep.AppendLies
import Derived.Deep.Draws
import Derived.Deep.LoopGhost
import Derived.Deep.QuietTactic
import Derived.Deep.RegionHeld3
import Derived.Deep.RegionLaw
import Derived.IntWalk
import Derived.Laws.Bits64b
import Derived.Lib.Hide
import Derived.LoopIn
import Derived.LoopNIn
import Derived.Maps.AppendAt
import Derived.Maps.Own
import Derived.Maps.OwnOps
import Derived.Maps.OwnSet
import Derived.Maps.Views
import Derived.Outline
import Derived.OwnWalkIn
import Derived.PlainAid
import Derived.RangeFuncBox
import Derived.RangeFuncLeaves
import Derived.Shelf.Abstract
import Derived.StillTail
import Derived.StillTailTactics
import Derived.TacticsInMore
import Derived.Test.YtknkhnahflmjiaaGreatDoorB1
import Derived.Test.YtknkhnahflmjiaaGreatDoorE1
import Derived.Test.YtknkhnahflmjiaaGreatDoorE2
import Derived.Test.YtknkhnahflmjiaaGreatDoorE3
import Derived.Test.YtknkhnahflmjiaaGreatDoorE4
import Derived.Test.YtknkhnahflmjiaaGreatDoorE5
import Derived.Test.YtknkhnahflmjiaaGreatDoorE6
import Derived.Test.YtknkhnahflmjiaaGreatDoorE7
import Derived.Test.YtknkhnahflmjiaaGreatDoorF1
import Derived.Test.YtknkhnahflmjiaaGreatDoorF2
import Derived.Test.YtknkhnahflmjiaaGreatDoorF3
import Derived.Test.YtknkhnahflmjiaaGreatDoorProg
import Derived.WalkKit
import Derived.WalkLawsBesides
import Derived.WalkSpells

namespace Go.Proofs.YtknkhnahflmjiaaGreatDoor
def midL (x : ItemT) : Int := x.pos + x.width / 2
def loadOf (x : ItemT) : LoadT := ⟨midL x,x.wt⟩
def beamS (s : SetT) : BeamT := ⟨s.name,s.len,s.lines,s.items.map loadOf,s.pipe⟩
theorem inc_le {l : List Int} (h : incTo l l.length = true) : ∀ d i,i + d < l.length → atL l i ≤ atL l (i + d)
 | 0,i,_ => Int.le_refl _
 | d + 1,i,hi => by
  have h1 := inc_le h d i (by omega)
  unfold incTo at h
  rw [decide_eq_true_iff] at h
  have h2 := h (i + d + 1) (by omega) (by omega)
  rw [show i + d + 1 - 1 = i + d by omega] at h2
  rw [show i + (d + 1) = i + d + 1 by omega]
  omega
theorem inside_ok {x : ItemT} {len : Int} (h : inside1 x len = true) : 0 ≤ x.pos ∧ 1 ≤ x.width ∧ x.width ≤ 1048576 ∧ x.pos ≤ len - x.width := by
 unfold inside1 at h
 simp only [Bool.and_eq_true,decide_eq_true_eq] at h
 have h1 := between_bd h.2.1
 exact ⟨h.1,h1.1,h1.2,h.2.2⟩
theorem beamS_ok {s : SetT} (h : setB s = true) : okBm (beamS s) = true := by
 have hn : nameB s.name = true := by
  unfold setB at h
  simp only [Bool.and_eq_true] at h
  exact h.1
 have hk := setB_ok h
 have hl := hk.lines
 unfold linesB at hl
 simp only [Bool.and_eq_true,Bool.not_eq_true',decide_eq_false_iff_not] at hl
 obtain ⟨l1,l2,l3,l4⟩ := hl
 have hb := between_bd l1
 have h40 := hk.wts.1
 have hlen := hk.len
 have hpipe := hk.pipe
 have hinc : ∀ i,i < s.lines.length → 0 ≤ atL s.lines i ∧ atL s.lines i ≤ s.len := fun i hi => by
  have e1 := inc_le l4 i 0 (by omega)
  have e2 := inc_le l4 (s.lines.length - 1 - i) i (by omega)
  rw [Nat.zero_add] at e1
  rw [show i + (s.lines.length - 1 - i) = s.lines.length - 1 by omega] at e2
  omega
 unfold okBm okHead supsGood
 simp only [Bool.and_eq_true,Bool.not_eq_true',decide_eq_false_iff_not,decide_eq_true_eq,List.all_eq_true]
 refine ⟨⟨⟨⟨⟨⟨⟨⟨⟨hn,?_⟩,?_⟩,?_⟩,?_⟩,?_⟩,?_⟩,?_⟩,fun i hi => ?_⟩,fun x hx => ?_⟩
 ·show ¬ s.len < 1;omega
 ·show ¬ 1048576 < s.len;omega
 ·show ¬ s.pipe < 0;omega
 ·show ¬ 1048576 < s.pipe;omega
 ·show ¬ (s.lines.length : Int) < 1;omega
 ·show ¬ 10 < (s.lines.length : Int);omega
 ·show ¬ 40 < ((s.items.map loadOf).length : Int);rw [List.length_map];omega
 ·have hi' : i < s.lines.length := hi
  have e1 := hinc i hi'
  unfold supGood
  have e0 : ∀ j,supAt (beamS s) j = atL s.lines j := fun j => rfl
  rw [e0,e0]
  simp only [Bool.and_eq_true,Bool.or_eq_true,Bool.not_eq_true',decide_eq_false_iff_not,decide_eq_true_eq]
  refine ⟨⟨by omega,show ¬ s.len < _ by omega⟩,?_⟩
  rcases Nat.eq_zero_or_pos i with h0 | h0
  ·exact .inl h0
  ·refine .inr ?_
   unfold incTo at l4
   rw [decide_eq_true_iff] at l4
   have := l4 i hi' h0
   omega
 ·have hx' : x ∈ s.items.map loadOf := hx
  rw [List.mem_map] at hx'
  obtain ⟨y,hy,rfl⟩ := hx'
  obtain ⟨h1,h2⟩ := hk.wts.2 y hy
  have h3 := inside_ok h2
  have h4 : 0 ≤ y.wt ∧ y.wt ≤ 1048576 := by
   unfold alone1 at h1
   simp only [Bool.and_eq_true] at h1
   exact between_bd h1.2.1
  unfold loadOk
  simp only [Bool.and_eq_true,Bool.not_eq_true',decide_eq_false_iff_not]
  show ((¬ y.pos + y.width / 2 < 0 ∧ ¬ s.len < y.pos + y.width / 2) ∧ ¬ y.wt < 0) ∧ ¬ 67108864 < y.wt
  omega
end Go.Proofs.YtknkhnahflmjiaaGreatDoor

namespace Go.Proofs.YtknkhnahflmjiaaGreatDoor
open Go.RowKit Go.Shelf
set_option maxHeartbeats 1000000 in
theorem batMiddle (x : ItemT) (w : World) (hx : 0 ≤ x.pos ∧ x.pos ≤ 1048576 ∧ 1 ≤ x.width ∧ x.width ≤ 1048576) :
  Calls Tryz.prog 147 #[x.val] w fun e w' => e = .returned (.int .i64 (midL x)) ∧ w.alloc (.cells #[.string x.name,.int .i64 x.pos,.int .i64 x.width,.int .i64 x.wt,.int .i64 x.hang,.int .i64 x.front,.int .i64 x.back] 125) = w' := by
 have HV : Hid (midL x = x.pos + x.width / 2) := rfl
 obtain ⟨h1,h2,h3,h4⟩ := hx
 have v1 : IntKind.i64.wrap (x.width / 2) = x.width / 2 := IntWalk.i64_in _ (by omega)
 have v2 : IntKind.i64.wrap (x.pos + x.width / 2) = x.pos + x.width / 2 := IntWalk.i64_in _ (by omega)
 have v3 : x.width.tdiv 2 = x.width / 2 := Int.tdiv_eq_ediv_of_nonneg (by omega)
 clear h1 h2 h3 h4
 go_enter Tryz.func147,Tryz.ntmps147
 go_wp2
 go_ret
 exact ⟨by rw [HV.out];rfl,rfl⟩
theorem ownsRow_of {w w' : World} {B e s n : Nat} {v : Value} {xs : List Value} (h : w.ownsRow B e s v n xs) (hb : Below w.heap.size w w') : w'.ownsRow B e s v n xs :=
 h.kept (grown_below (row := none) hb) (by
  by_cases e : v.ownBlock = none
  ·exact .inl e
  ·exact .inr e)
def gO (B : Nat) (l : List Int) : GPost := ⟨fun v => ∃ A c,v = .slice A l.length c,fun v w => w.ownsRow B 3 1 v l.length (l.map (Value.int .i64)),⟨_,none,0,rfl⟩,fun _ _ _ hb h => ownsRow_of h hb,false⟩
theorem own_formB {w : World} {B e s n : Nat} {v : Value} {L : List Value} (h : w.ownsRow B e s v n L) : ∃ A c,v = .slice A n c := by
 rcases h.2 with ⟨rfl,rfl⟩ | ⟨g,cap,cur,rfl,_⟩
 ·exact ⟨none,0,rfl⟩
 ·exact ⟨_,cap,rfl⟩
theorem clone_g {v : Value} {l : List Int} {w : World} {B : Nat} (hl : IntsAt w w.heap.size v l) (hlen : l.length ≤ 1000000) (hB : B ≤ w.heap.size) :
  Calls Tryz.prog 146 #[v] w fun e w' => ∃ u,e = .returned u ∧ Below w.heap.size w w' ∧ (gO B l).σ u ∧ (gO B l).φ u w' :=
 (cloneInt v l w hl hlen).mono fun _ _ ⟨u,he,hO,hb⟩ => ⟨u,he,hb,(by obtain ⟨A,c,h⟩ := own_formB hO;exact ⟨A,c,h⟩),own_mono hO hB⟩
def AtBeam (B : Nat) (v : Value) (w : World) : Prop := ∃ g,v = .pointer (some ⟨g,0,none⟩) ∧ B ≤ g ∧ Blk w g 117 #[.string ⟨#[]⟩,.int .i64 0,.slice none 0 0,.slice none 0 0,.int .i64 0]
def gBox (B : Nat) : GPost := ⟨fun v => ∃ g,v = .pointer (some ⟨g,0,none⟩),AtBeam B,⟨_,0,rfl⟩,fun _ _ _ hb h => by
 obtain ⟨g,h1,h2,h3⟩ := h
 exact ⟨g,h1,h2,h3.below hb h3.lt⟩,false⟩
theorem gBox_new {P : Program} {o : Oper} {a : Act} {w : World} {B : Nat} (hB : B ≤ w.heap.size) (h : (execOp a.eval o).run P w = .ok (.value (.pointer (some ⟨w.heap.size,0,none⟩))) (w.alloc (.cells #[.string ⟨#[]⟩,.int .i64 0,.slice none 0 0,.slice none 0 0,.int .i64 0] 117))) : newAt P o a (gBox B) w :=
 ⟨_,_,h,(Below.refl _ _).alloc (Nat.le_refl _) _,⟨_,rfl⟩,⟨_,rfl,hB,Blk.new _ _ _⟩,fun h => by cases h⟩
structure BoS (w W : World) (bx : Array Value) (s : SetT) (G : Nat) (v2 v3 : Value) (ys : List LoadT) : Prop where
 d0 : Blk W w.heap.size 37 bx
 d1 : Blk W (w.heap.size + 1) 117 #[.string ⟨#[]⟩,.int .i64 0,.slice none 0 0,.slice none 0 0,.int .i64 0]
 d2 : Blk W G 117 #[.string s.name,.int .i64 s.len,v2,v3,.int .i64 s.pipe]
 o2 : W.ownsRow w.heap.size 3 1 v2 s.lines.length (s.lines.map (Value.int .i64))
 o3 : W.ownsRow w.heap.size 115 2 v3 ys.length (ys.flatMap LoadT.cells)
 bel : Below w.heap.size w W
 far : w.heap.size + 1 < G
section
variable {w W W' : World} {bx : Array Value} {s : SetT} {G : Nat} {v2 v3 : Value} {ys : List LoadT}
theorem BoS.below (h : BoS w W bx s G v2 v3 ys) (hb : Below W.heap.size W W') : BoS w W' bx s G v2 v3 ys :=
 ⟨h.d0.below hb h.d0.lt,h.d1.below hb h.d1.lt,h.d2.below hb h.d2.lt,ownsRow_of h.o2 hb,ownsRow_of h.o3 hb,h.bel.trans (hb.mono h.bel.size),h.far⟩
theorem BoS.push (h : BoS w W bx s G v2 v3 ys) {v' : Value} {w1 : World} {y : LoadT} (hown : w1.ownsRow w.heap.size 115 2 v' (ys.length + 1) (ys.flatMap LoadT.cells ++ [.int .i64 y.pos,.int .i64 y.wt])) (hg : W.grownBy w1 v3.ownBlock) :
  Blk w1 G 117 #[.string s.name,.int .i64 s.len,v2,v3,.int .i64 s.pipe] ∧ BoS w (w1.setCell ⟨G,3,none⟩ v') bx s G v2 v' (ys ++ [y]) := by
 have hr := fun r (e : v3.ownBlock = some r) => own_at h.o3 e
 have k := fun {g : Nat} {t : TypeId} {c : Array Value} (hb : Blk W g t c) (ht : t ≠ 115) => hb.kept hg (fun e => by
  obtain ⟨c',hc⟩ := hr g e.symm
  unfold Blk at hb
  rw [hb] at hc
  injection hc with hc
  injection hc with _ hc _
  exact ht hc)
 have e0 := k h.d0 (by decide)
 have e1 := k h.d1 (by decide)
 have e2 := k h.d2 (by decide)
 have e4 : w1.ownsRow w.heap.size 3 1 v2 s.lines.length (s.lines.map (Value.int .i64)) := h.o2.kept hg (own_row_none h.o2 fun r e c f hh => by
  obtain ⟨c',hc⟩ := hr r e
  rw [hh] at hc
  injection hc with hc
  injection hc with _ hc _
  exact absurd hc (by decide))
 have hf := h.far
 have hb1 : Below w.heap.size w w1 := h.bel.grown hg h.bel.size (fun k e => (h.o3.lt k e).1)
 refine ⟨e2,e0.far (by show w.heap.size ≠ G;omega) _,e1.far (by show w.heap.size + 1 ≠ G;omega) _,e2.set_ 3 v',?_,?_,hb1.setCell (by show w.heap.size ≤ G;omega) _,hf⟩
 ·exact e4.kept (e2.setGrown 3 v') (own_row_none e4 fun r e c f hh => by
   obtain rfl : G = r := by simpa using e
   unfold Blk at e2
   rw [e2] at hh
   injection hh with hh
   injection hh with _ hh _
   exact absurd hh (by decide))
 ·have : (w1.setCell ⟨G,3,none⟩ v').ownsRow w.heap.size 115 2 v' (ys.length + 1) (ys.flatMap LoadT.cells ++ [.int .i64 y.pos,.int .i64 y.wt]) := hown.kept (e2.setGrown 3 v') (own_row_none hown fun r e c f hh => by
   obtain rfl : G = r := by simpa using e
   unfold Blk at e2
   rw [e2] at hh
   injection hh with hh
   injection hh with _ hh _
   exact absurd hh (by decide))
  rw [List.length_append,List.flatMap_append]
  exact this
end
theorem setG_grownB (w : World) (g i : Nat) (u : Value) : w.grownBy (w.setCell ⟨g,i,none⟩ u) (some g) := ⟨rfl,rfl,rfl,by simp [World.setCell],fun k _ hk => Below.heap_setCell w _ u k (fun e => hk (by rw [e]))⟩
theorem set5_grownB (w : World) (g : Nat) (u0 u1 u2 u3 u4 : Value) : w.grownBy (((((w.setCell ⟨g,0,none⟩ u0).setCell ⟨g,1,none⟩ u1).setCell ⟨g,2,none⟩ u2).setCell ⟨g,3,none⟩ u3).setCell ⟨g,4,none⟩ u4) (some g) :=
 grown_trans (grown_trans (grown_trans (grown_trans (setG_grownB w g 0 u0) (setG_grownB _ g 1 u1)) (setG_grownB _ g 2 u2)) (setG_grownB _ g 3 u3)) (setG_grownB _ g 4 u4)
theorem step_appL {ops : Array Oper} {o : Oper} {a : Act} {w : World} {K : Act → World → Prop} {Q : Exit → Act → World → Prop} {E : Prop} (hgd : o.guard = none) (s x : Operand)
  (ho : o.op = .call { callee := .builtin .append,args := #[s,x],argTypes := #[66,66] }) {B m : Nat} {v : Value} {xs : List Value} (T : w.ownsRow B 115 2 v m xs) (hB : B ≤ w.heap.size) {y : LoadT} {a1 : Nat} (N : Blk w a1 115 #[.int .i64 y.pos,.int .i64 y.wt])
  (hs : a.eval s = v) (hx : a.eval x = .slice (some ⟨a1,0,none⟩) 1 1) (hlen : m ≤ 1000)
  (h : ∀ g cap w',w'.ownsRow B 115 2 (.slice (some ⟨g,0,none⟩) (m + 1) cap) (m + 1) (xs ++ [.int .i64 y.pos,.int .i64 y.wt]) → w.grownBy w' v.ownBlock → K (a.put o.dst (.slice (some ⟨g,0,none⟩) (m + 1) cap)) w') :
  if Region.wanted o (yielded ops a.tmps) = true then Oper.wp Tryz.prog o a w K Q else E := by
 obtain ⟨i0,hi0,hz0,hz1,hz2⟩ := info_parts info_load3
 refine step_append_lies w hgd s x 66 ho B 115 i0 _ 2 16 Tryz.underlying66 hi0 hz0 hz1 hz2 rfl (by decide) v m xs hs T ⟨a1,0,none⟩ 1 1 [.int .i64 y.pos,.int .i64 y.wt] hx rfl
  (fun j u hu => by rw [Addr.add_lit,Nat.zero_add];exact (N.cell j).trans (by simpa using hu)) (fun u hu => by simp at hu;rcases hu with rfl | rfl <;> rfl) (by omega) (by unfold maxLen;omega) (by omega) hB _ rfl ?_
 intro g cap w' hown hgrow _ _
 exact h g cap w' hown hgrow
end Go.Proofs.YtknkhnahflmjiaaGreatDoor

namespace Go.Proofs.YtknkhnahflmjiaaGreatDoor
open Go.RowKit Go.Shelf
def BeamOfPost (s : SetT) (w : World) (e : Ending) (w' : World) : Prop := Below w.heap.size w w' ∧ ∃ v,e = .returned v ∧ BeamAt w' w'.heap.size v (beamS s)
set_option maxRecDepth 100000 in
set_option maxHeartbeats 4000000 in
theorem batBeamOf (v : Value) (s : SetT) (w : World) (hv : SetAt w w.heap.size v s) (hok : setB s = true) : Calls Tryz.prog 106 #[v] w (BeamOfPost s w) := by
  have hk := setB_ok hok
  have HX := Lib.hid fun x (hx : x ∈ s.items) => inside_ok (hk.wts.2 x hx).2
  have hlen := hk.len
  have h40 := hk.wts.1
  have h10 : s.lines.length ≤ 1000 := by
    have := (okBm_ok (beamS_ok hok)).sup1
    exact Nat.le_trans this.2 (by decide)
  clear hk hok
  obtain ⟨Al, cl, Ai, ci, Ab, cb, rfl, hL, hI, -⟩ := hv
  have HL := Lib.hid hL
  obtain ⟨_, _, e, hi1, hi2, hic⟩ := hI.open_
  injection e with e1 _ e2
  subst e1 e2
  have HI := Lib.hid hic
  unfold maxLen at hi2
  clear hL hI hic
  unfold setVal at *
  go_enter Tryz.func106, Tryz.ntmps106
  go_wp2_with (exact Go.WalkKit.wp_stop)
  have hd0 := (Blk.new w 37 #[.string s.name, .int .i64 s.depth, .int .i64 s.low, .int .i64 s.high, .int .i64 s.len, .slice Al s.lines.length cl, .int .i64 s.pipe, .int .i64 s.arbor, .int .i64 s.purch, .int .i64 s.most, .int .i64 s.brake, .slice Ai s.items.length ci, .slice Ab s.bricks.length cb]).alloc (.cells #[.string ⟨#[]⟩, .int .i64 0, .slice none 0 0, .slice none 0 0, .int .i64 0] 117)
  have hd1 := Blk.new (w.alloc (.cells #[.string s.name, .int .i64 s.depth, .int .i64 s.low, .int .i64 s.high, .int .i64 s.len, .slice Al s.lines.length cl, .int .i64 s.pipe, .int .i64 s.arbor, .int .i64 s.purch, .int .i64 s.most, .int .i64 s.brake, .slice Ai s.items.length ci, .slice Ab s.bricks.length cb] 37)) 117 #[.string ⟨#[]⟩, .int .i64 0, .slice none 0 0, .slice none 0 0, .int .i64 0]
  rw [World.size_alloc] at hd1
  have hB2 := ((Below.refl _ w).alloc (Nat.le_refl _) (.cells #[.string s.name, .int .i64 s.depth, .int .i64 s.low, .int .i64 s.high, .int .i64 s.len, .slice Al s.lines.length cl, .int .i64 s.pipe, .int .i64 s.arbor, .int .i64 s.purch, .int .i64 s.most, .int .i64 s.brake, .slice Ai s.items.length ci, .slice Ab s.bricks.length cb] 37)).alloc (by simp) (.cells #[.string ⟨#[]⟩, .int .i64 0, .slice none 0 0, .slice none 0 0, .int .i64 0] 117)
  have hs2 : ((w.alloc (.cells #[.string s.name, .int .i64 s.depth, .int .i64 s.low, .int .i64 s.high, .int .i64 s.len, .slice Al s.lines.length cl, .int .i64 s.pipe, .int .i64 s.arbor, .int .i64 s.purch, .int .i64 s.most, .int .i64 s.brake, .slice Ai s.items.length ci, .slice Ab s.bricks.length cb] 37)).alloc (.cells #[.string ⟨#[]⟩, .int .i64 0, .slice none 0 0, .slice none 0 0, .int .i64 0] 117)).heap.size = w.heap.size + 1 + 1 := by simp
  generalize (w.alloc (.cells #[.string s.name, .int .i64 s.depth, .int .i64 s.low, .int .i64 s.high, .int .i64 s.len, .slice Al s.lines.length cl, .int .i64 s.pipe, .int .i64 s.arbor, .int .i64 s.purch, .int .i64 s.most, .int .i64 s.brake, .slice Ai s.items.length ci, .slice Ab s.bricks.length cb] 37)).alloc (.cells #[.string ⟨#[]⟩, .int .i64 0, .slice none 0 0, .slice none 0 0, .int .i64 0] 117) = W2 at *
  have HD0 := Lib.hid hd0
  have HD1 := Lib.hid hd1
  have HB2 := Lib.hid hB2
  have HS2 := Lib.hid hs2
  clear hd0 hd1 hB2 hs2
  have y0 := HD0.out.cell 0
  have y4 := HD0.out.cell 4
  have y5 := HD0.out.cell 5
  have y6 := HD0.out.cell 6
  simp only [List.getElem?_toArray, List.getElem?_cons_succ, List.getElem?_cons_zero] at y0 y4 y5 y6
  have u0 := HeldB.cell y0
  have u4 := HeldB.cell y4
  have u5 := HeldB.cell y5
  have u6 := HeldB.cell y6
  clear y0 y4 y5 y6
  refine wp_region_grow 11 (fun jx => if jx = 6 then some (gO w.heap.size s.lines) else if jx = 10 then some (gBox W2.heap.size) else none) (by kernel_rfl) (by kernel_rfl) ?_
  simp only [List.take_succ_cons, List.take_zero, List.drop_succ_cons, List.drop_zero]
  refine wpG_quiet 6 (by kernel_rfl) (by rfl) (by decide) ?_
  simp only [List.take_succ_cons, List.take_zero, List.drop_succ_cons, List.drop_zero]
  repeat (go_big_quiet_step (fail))
  refine wpQuiet_nil ?_
  refine wpG_call rfl rfl ?_ ?_
  · intro w1 hb1 hk
    have hb := HB2.out.trans (hb1.mono HB2.out.size)
    have hC := clone_g (B := w.heap.size) (RowAt.mono (RowAt.below HL.out hb (Nat.le_refl _)) hb.size) (by omega) hb.size
    exact ⟨146, #[.slice Al s.lines.length cl], by go_simp, hC⟩
  rintro _ ⟨A2, c2, rfl⟩
  simp only [Act.put, List.setIfInBounds_toArray, List.set_cons_zero, List.set_cons_succ]
  refine wpG_quiet 3 (by kernel_rfl) (by rfl) (by decide) ?_
  simp only [List.take_succ_cons, List.take_zero, List.drop_succ_cons, List.drop_zero]
  repeat (go_big_quiet_step (fail))
  refine wpQuiet_nil ?_
  refine wpG_new rfl rfl (fun w1 hb1 _ => gBox_new hb1.size (by go_simp)) ?_
  rintro _ ⟨G, rfl⟩
  simp only [Act.put, List.setIfInBounds_toArray, List.set_cons_zero, List.set_cons_succ]
  refine wpG_nil ?_
  intro w8 hb8 hF
  have h12 : w8.ownsRow w.heap.size 3 1 (.slice A2 s.lines.length c2) s.lines.length (s.lines.map (Value.int .i64)) := hF 12
  have h3 : AtBeam W2.heap.size (.pointer (some ⟨G, 0, none⟩)) w8 := hF 3
  obtain ⟨_, e3, hfar, b3⟩ := h3
  injection e3 with e3
  injection e3 with e3
  injection e3 with e3 _ _
  subst e3
  rw [HS2.out] at hfar
  have HD08 := Lib.hid (HD0.out.below hb8 HD0.out.lt)
  have HD18 := Lib.hid (HD1.out.below hb8 HD1.out.lt)
  have HB8 := Lib.hid (HB2.out.trans (hb8.mono HB2.out.size))
  have f0 := b3.frozen 0
  have f1 := b3.frozen 1
  have f2 := b3.frozen 2
  have f3 := b3.frozen 3
  have f4 := b3.frozen 4
  have c0 := b3.cell 0
  have c1 := b3.cell 1
  have cc2 := b3.cell 2
  have c3 := b3.cell 3
  have c4 := b3.cell 4
  simp only [List.getElem?_toArray, List.getElem?_cons_succ, List.getElem?_cons_zero] at c0 c1 cc2 c3 c4
  have h5 := ((((b3.set_ 0 (.string s.name)).set_ 1 (.int .i64 s.len)).set_ 2 (.slice A2 s.lines.length c2)).set_ 3 (.slice none 0 0)).set_ 4 (.int .i64 s.pipe)
  have hGr := set5_grownB w8 G (.string s.name) (.int .i64 s.len) (.slice A2 s.lines.length c2) (.slice none 0 0) (.int .i64 s.pipe)
  have hBo : Hid (BoS w (((((w8.setCell ⟨G, 0, none⟩ (.string s.name)).setCell ⟨G, 1, none⟩ (.int .i64 s.len)).setCell ⟨G, 2, none⟩ (.slice A2 s.lines.length c2)).setCell ⟨G, 3, none⟩ (.slice none 0 0)).setCell ⟨G, 4, none⟩ (.int .i64 s.pipe)) #[.string s.name, .int .i64 s.depth, .int .i64 s.low, .int .i64 s.high, .int .i64 s.len, .slice Al s.lines.length cl, .int .i64 s.pipe, .int .i64 s.arbor, .int .i64 s.purch, .int .i64 s.most, .int .i64 s.brake, .slice Ai s.items.length ci, .slice Ab s.bricks.length cb] s G (.slice A2 s.lines.length c2) (.slice none 0 0) []) := by
    refine ⟨HD08.out.kept hGr (by simp; omega), HD18.out.kept hGr (by simp; omega), h5, h12.kept hGr (own_row_none h12 fun r e c f hh => ?_), World.ownsRow_nil _ _ _ _, HB8.out.grown hGr HB8.out.size (fun k e => by simp at e; omega), by omega⟩
    obtain rfl : G = r := by simpa using e
    have hb := b3
    unfold Blk at hb
    rw [hb] at hh
    injection hh with hh
    injection hh with _ hh _
    exact absurd hh (by decide)
  clear h12 h5 hGr b3 hfar HB8 HD08 HD18 hF hb8 u0 u4 u5 u6 HD0 HD1 HB2 HS2
  have z11 := hBo.out.d0.cell 11
  simp only [List.getElem?_toArray, List.getElem?_cons_succ, List.getElem?_cons_zero] at z11
  go_wp2_with (exact Go.WalkKit.wp_stop)
  clear f0 f1 f2 f3 f4 c0 c1 cc2 c3 c4
  generalize (((((w8.setCell ⟨G, 0, none⟩ (.string s.name)).setCell ⟨G, 1, none⟩ (.int .i64 s.len)).setCell ⟨G, 2, none⟩ (.slice A2 s.lines.length c2)).setCell ⟨G, 3, none⟩ (.slice none 0 0)).setCell ⟨G, 4, none⟩ (.int .i64 s.pipe)) = W9 at *
  have hmid := fun (x : ItemT) (h : 0 ≤ x.pos ∧ x.pos ≤ 1048576 ∧ 1 ≤ x.width ∧ x.width ≤ 1048576) W => batMiddle x W h
  have HMid := Lib.hid hmid
  clear hmid
  go_loopw [19] (fun ix wr => ∃ k : Nat, k ≤ s.items.length ∧ ix = .int .i64 k ∧ Hid (∃ v3, BoS w wr #[.string s.name, .int .i64 s.depth, .int .i64 s.low, .int .i64 s.high, .int .i64 s.len, .slice Al s.lines.length cl, .int .i64 s.pipe, .int .i64 s.arbor, .int .i64 s.purch, .int .i64 s.most, .int .i64 s.brake, .slice Ai s.items.length ci, .slice Ab s.bricks.length cb] s G (.slice A2 s.lines.length c2) v3 ((s.items.map loadOf).take k))) (fun ix _ => s.items.length - (intOf ix).toNat)
  case atStart => exact ⟨0, Nat.zero_le _, rfl, ⟨_, hBo.out⟩⟩
  case round =>
    clear hBo z11
    obtain ⟨k, hk, rfl, HTx⟩ := hrel
    obtain ⟨v3, hT⟩ := HTx.out
    have HT := Lib.hid hT
    clear hT HTx
    have k0 : (0 : Int) ≤ (k : Int) := Int.natCast_nonneg _
    by_cases hkl : k < s.items.length
    · have k1 : (k : Int) < (s.items.length : Int) := by omega
      obtain ⟨b1, off1, rfl, hb1, hc⟩ := HI.out k hkl
      have hbel := HT.out.bel
      have y0 := (hbel.cell (p := ⟨b1, off1 + k * 7, none⟩) hb1).trans (hc k hkl).1
      have y1 := (hbel.cell (p := ⟨b1, off1 + k * 7 + 1, none⟩) hb1).trans (hc k hkl).2.1
      have y2 := (hbel.cell (p := ⟨b1, off1 + k * 7 + 2, none⟩) hb1).trans (hc k hkl).2.2.1
      have y3 := (hbel.cell (p := ⟨b1, off1 + k * 7 + 3, none⟩) hb1).trans (hc k hkl).2.2.2.1
      have y4 := (hbel.cell (p := ⟨b1, off1 + k * 7 + 4, none⟩) hb1).trans (hc k hkl).2.2.2.2.1
      have y5 := (hbel.cell (p := ⟨b1, off1 + k * 7 + 5, none⟩) hb1).trans (hc k hkl).2.2.2.2.2.1
      have y6 := (hbel.cell (p := ⟨b1, off1 + k * 7 + 6, none⟩) hb1).trans (hc k hkl).2.2.2.2.2.2
      have hx := HX.out _ (List.getElem_mem hkl)
      have HY : Hid ((s.items.map loadOf).take (k + 1) = (s.items.map loadOf).take k ++ [loadOf s.items[k]]) := by
        unfold Hid
        rw [take_snoc _ k (by simpa using hkl)]
        simp
      have hyl : ((s.items.map loadOf).take k).length ≤ 1000 := by
        rw [List.length_take, List.length_map]
        omega
      have HLn : Hid (((s.items.map loadOf).take k).length = k) := by
        unfold Hid
        rw [List.length_take, List.length_map]
        omega
      have hmid := HMid.out s.items[k] (by omega)
      clear hc hbel hx
      generalize s.items[k] = x at *
      obtain ⟨nm, pos, width, wt, hang, front, back⟩ := x
      simp only at y0 y1 y2 y3 y4 y5 y6 hmid
      have hml : loadOf ⟨nm, pos, width, wt, hang, front, back⟩ = ⟨midL ⟨nm, pos, width, wt, hang, front, back⟩, wt⟩ := rfl
      rw [hml] at HY
      clear hml
      generalize midL ⟨nm, pos, width, wt, hang, front, back⟩ = mid at *
      go_wp2_with (exact Go.WalkKit.wp_stop)
      have hDi := Blk.new wr 125 #[.string nm, .int .i64 pos, .int .i64 width, .int .i64 wt, .int .i64 hang, .int .i64 front, .int .i64 back]
      have hT5 := HT.out.below ((Below.refl _ wr).alloc (Nat.le_refl _) (.cells #[.string nm, .int .i64 pos, .int .i64 width, .int .i64 wt, .int .i64 hang, .int .i64 front, .int .i64 back] 125))
      clear HT y0 y1 y2 y3 y4 y5 y6
      generalize wr.alloc (.cells #[.string nm, .int .i64 pos, .int .i64 width, .int .i64 wt, .int .i64 hang, .int .i64 front, .int .i64 back] 125) = w5 at *
      generalize wr.heap.size = D5 at *
      have HT := Lib.hid hT5
      have i0 := hDi.cell 0
      have i1 := hDi.cell 1
      have i2 := hDi.cell 2
      have i3 := hDi.cell 3
      have i4 := hDi.cell 4
      have i5 := hDi.cell 5
      have i6 := hDi.cell 6
      have j3 := fun o => (hDi.alloc o).cell 3
      have e3 := HT.out.d2.cell 3
      have e3' := fun o => (HT.out.d2.alloc o).cell 3
      have e3'' := fun o o' => ((HT.out.d2.alloc o).alloc o').cell 3
      simp only [List.getElem?_toArray, List.getElem?_cons_succ, List.getElem?_cons_zero] at i0 i1 i2 i3 i4 i5 i6 j3 e3 e3' e3''
      have hb3 : Below w5.heap.size w5 (((w5.alloc (.cells #[.string nm, .int .i64 pos, .int .i64 width, .int .i64 wt, .int .i64 hang, .int .i64 front, .int .i64 back] 125)).alloc (.cells #[.int .i64 mid, .int .i64 wt] 115)).drew) := (((Below.refl _ w5).alloc (Nat.le_refl _) _).alloc (by simp) _).drew
      have hT6 := HT.out.below hb3
      have hN : Blk (((w5.alloc (.cells #[.string nm, .int .i64 pos, .int .i64 width, .int .i64 wt, .int .i64 hang, .int .i64 front, .int .i64 back] 125)).alloc (.cells #[.int .i64 mid, .int .i64 wt] 115)).drew) (w5.heap.size + 1) 115 #[.int .i64 mid, .int .i64 wt] := by
        have h := Blk.new (w5.alloc (.cells #[.string nm, .int .i64 pos, .int .i64 width, .int .i64 wt, .int .i64 hang, .int .i64 front, .int .i64 back] 125)) 115 #[.int .i64 mid, .int .i64 wt]
        rw [World.size_alloc] at h
        exact h
      have HOw : Hid _ := And.intro hT6.o3 (And.intro hT6.bel.size hN)
      have HPush : Hid _ := fun wz v' (hown : _) (hg : _) => hT6.push (v' := v') (w1 := wz) (y := ⟨mid, wt⟩) hown hg
      have HSt : Hid _ := fun wz v' (hown : _) (hg : _) => (hT6.push (v' := v') (w1 := wz) (y := ⟨mid, wt⟩) hown hg).1
      clear hT5 hT6 hDi hN hb3
      go_region_law (first
        | (go_simp; go_at_call 147; refine (hmid _).mono ?_; rintro e wz ⟨rfl, rfl⟩)
        | (refine step_appL (y := ⟨mid, wt⟩) rfl (.tmp 24) (.tmp 30) rfl HOw.out.1 HOw.out.2.1 HOw.out.2.2 (by go_simp) (by go_simp) hyl ?_; intro g3 cap3 wz hoz hgz; have HPu := Lib.hid (HPush.out wz _ hoz hgz); have fz := HPu.out.1.frozen 3; have cz := HPu.out.1.cell 3; simp only [List.getElem?_toArray, List.getElem?_cons_succ, List.getElem?_cons_zero] at cz; clear hoz hgz))
      all_goals
        clear i0 i1 i2 i3 i4 i5 i6 j3 e3 e3' e3'' fz cz HPush HOw HSt
        go_simp
        go_wp2_with fail
        go_roundw
        case rel => exact ⟨k + 1, by omega, by go_num, ⟨_, by have h := HPu.out.2; rw [HLn.out] at h; rw [HY.out]; exact h⟩⟩
        case measure => simp [intOf]; omega
    · obtain rfl : k = s.items.length := by omega
      have hT := HT.out
      rw [List.take_of_length_le (by simp)] at hT
      obtain ⟨A3, c3, rfl⟩ := own_formB hT.o3
      have y0 := hT.d2.cell 0
      have y1 := hT.d2.cell 1
      have y2 := hT.d2.cell 2
      have y3 := hT.d2.cell 3
      have y4 := hT.d2.cell 4
      have z0 := hT.d1.cell 0
      have z1 := hT.d1.cell 1
      have z2 := hT.d1.cell 2
      have z3 := hT.d1.cell 3
      have z4 := hT.d1.cell 4
      have f0 := hT.d1.frozen 0
      have f1 := hT.d1.frozen 1
      have f2 := hT.d1.frozen 2
      have f3 := hT.d1.frozen 3
      have f4 := hT.d1.frozen 4
      simp only [List.getElem?_toArray, List.getElem?_cons_succ, List.getElem?_cons_zero] at y0 y1 y2 y3 y4 z0 z1 z2 z3 z4
      have HT := Lib.hid hT
      clear hT
      have hD9 : Blk (((((wr.setCell ⟨w.heap.size + 1, 0, none⟩ (.string s.name)).setCell ⟨w.heap.size + 1, 1, none⟩ (.int .i64 s.len)).setCell ⟨w.heap.size + 1, 2, none⟩ (.slice A2 s.lines.length c2)).setCell ⟨w.heap.size + 1, 3, none⟩ (.slice A3 (s.items.map loadOf).length c3)).setCell ⟨w.heap.size + 1, 4, none⟩ (.int .i64 s.pipe)) (w.heap.size + 1) 117 #[.string s.name, .int .i64 s.len, .slice A2 s.lines.length c2, .slice A3 (s.items.map loadOf).length c3, .int .i64 s.pipe] := ((((HT.out.d1.set_ 0 (.string s.name)).set_ 1 (.int .i64 s.len)).set_ 2 (.slice A2 s.lines.length c2)).set_ 3 (.slice A3 (s.items.map loadOf).length c3)).set_ 4 (.int .i64 s.pipe)
      have hG9 := set5_grownB wr (w.heap.size + 1) (.string s.name) (.int .i64 s.len) (.slice A2 s.lines.length c2) (.slice A3 (s.items.map loadOf).length c3) (.int .i64 s.pipe)
      have hB9 := HT.out.bel.grown hG9 HT.out.bel.size (fun k e => by obtain rfl : w.heap.size + 1 = k := by simpa using e
                                                                      omega)
      have ho2 := HT.out.o2.kept hG9 (own_row_none HT.out.o2 fun r e c f hh => by
        obtain rfl : w.heap.size + 1 = r := by simpa using e
        have h := HT.out.d1
        unfold Blk at h
        rw [h] at hh
        injection hh with hh
        injection hh with _ hh _
        exact absurd hh (by decide))
      have ho3 := HT.out.o3.kept hG9 (own_row_none HT.out.o3 fun r e c f hh => by
        obtain rfl : w.heap.size + 1 = r := by simpa using e
        have h := HT.out.d1
        unfold Blk at h
        rw [h] at hh
        injection hh with hh
        injection hh with _ hh _
        exact absurd hh (by decide))
      have HO2 := Lib.hid ho2
      have HO3 := Lib.hid ho3
      have HB9 := Lib.hid hB9
      have HD9 := Lib.hid hD9
      clear ho2 ho3 hB9 hD9 hG9
      have p0 := HD9.out.cell 0
      have p1 := HD9.out.cell 1
      have p2 := HD9.out.cell 2
      have p3 := HD9.out.cell 3
      have p4 := HD9.out.cell 4
      simp only [List.getElem?_toArray, List.getElem?_cons_succ, List.getElem?_cons_zero] at p0 p1 p2 p3 p4
      rw [List.length_map] at *
      go_wp2_with fail
      refine bodyPost_ret (v := .agg #[.string s.name, .int .i64 s.len, .slice A2 s.lines.length c2, .slice A3 s.items.length c3, .int .i64 s.pipe]) (by simp [results, Tryz.results106, go_sem, p0, p1, p2, p3, p4]) rfl ?_
      exact ⟨HB9.out, _, rfl, A2, c2, A3, c3, by simp [beamS], RowAt.of_own HO2.out, by
        have h := Flat.of_own HO3.out
        unfold LoadsAt
        simpa [beamS] using h⟩
end Go.Proofs.YtknkhnahflmjiaaGreatDoor

namespace Go.Proofs.YtknkhnahflmjiaaGreatDoor
open Go.RowKit Go.Shelf
def linesL (s : SetT) : List FrT := (reactL (beamS s)).map frOf
def linesErr (s : SetT) : Int := if setB s then (if allOk (reactL (beamS s)) then 0 else 5) else 1
def LinesPost (s : SetT) (w : World) (e : Ending) (w' : World) : Prop :=
 Below w.heap.size w w' ∧ ((linesErr s = 0 ∧ ∃ v,e = .returned (.tuple #[v,.int .i64 0]) ∧ FrsAt w' w'.heap.size v (linesL s)) ∨ (linesErr s ≠ 0 ∧ e = .returned (.tuple #[.slice none 0 0,.int .i64 (linesErr s)])))
theorem tilt_two {b : BeamT} (h : 2 ≤ b.sup.length) : tiltOk b = true := by unfold tiltOk;rw [if_neg (by omega)]
theorem set_two {s : SetT} (h : setB s = true) : 2 ≤ s.lines.length ∧ s.lines.length ≤ 10 := by
 have h1 := (setB_ok h).lines
 unfold linesB at h1
 simp only [Bool.and_eq_true] at h1
 have := between_bd h1.1
 omega
theorem beamErr_set {s : SetT} (h : setB s = true) : beamErr (beamS s) = 0 := by
 unfold beamErr
 rw [beamS_ok h,tilt_two (set_two h).1]
 rfl
theorem lines_call {v : Value} {s : SetT} {w : World} (hv : BeamAt w w.heap.size v (beamS s)) (hn : s.name.size ≤ maxLen) (hok : setB s = true) :
  Calls Tryz.prog 105 #[v] w (LinesPost s w) := by
 refine (bmReactions v (beamS s) w hv hn).mono ?_
 rintro e w' ⟨hb,⟨-,-,h3,v',rfl,h4⟩ | ⟨k,hk,h,rfl,h5⟩⟩
 ·exact ⟨hb,.inl ⟨by unfold linesErr;rw [hok,h3];rfl,v',rfl,h4⟩⟩
 ·obtain rfl := h5 (beamErr_set hok)
  have h3 : allOk (reactL (beamS s)) = false := by
   rcases h with h | h
   ·exact absurd (beamErr_set hok) h
   ·exact h
  have hE : linesErr s = 5 := by unfold linesErr;rw [hok,h3];rfl
  exact ⟨hb,.inr ⟨by rw [hE];decide,by rw [hE]⟩⟩
set_option maxRecDepth 100000 in
set_option maxHeartbeats 2000000 in
theorem batLinesT (v : Value) (s : SetT) (w : World) (hv : SetAt w w.heap.size v s) (hn : SetNames s) : Calls Tryz.prog 66 #[v] w (LinesPost s w) := by
 have HVa := fun W (hb : Below w.heap.size w W) => batValid v s W ((hv.below hb (Nat.le_refl _)).mono hb.size) hn
 have HBo := Lib.hid fun (hok : setB s = true) W (hb : Below w.heap.size w W) => batBeamOf v s W ((hv.below hb (Nat.le_refl _)).mono hb.size) hok
 have HLi := Lib.hid fun (hok : setB s = true) v W (h : BeamAt W W.heap.size v (beamS s)) => lines_call h hn.name hok
 obtain ⟨Al,cl,Ai,ci,Ab,cb,rfl,-,-,-⟩ := hv
 have HD := Lib.hid (Blk.new w 37 #[.string s.name,.int .i64 s.depth,.int .i64 s.low,.int .i64 s.high,.int .i64 s.len,.slice Al s.lines.length cl,.int .i64 s.pipe,.int .i64 s.arbor,.int .i64 s.purch,.int .i64 s.most,.int .i64 s.brake,.slice Ai s.items.length ci,.slice Ab s.bricks.length cb])
 have HB1 := Lib.hid ((Below.refl _ w).alloc (Nat.le_refl _) (.cells #[.string s.name,.int .i64 s.depth,.int .i64 s.low,.int .i64 s.high,.int .i64 s.len,.slice Al s.lines.length cl,.int .i64 s.pipe,.int .i64 s.arbor,.int .i64 s.purch,.int .i64 s.most,.int .i64 s.brake,.slice Ai s.items.length ci,.slice Ab s.bricks.length cb] 37))
 clear hn
 have hva := HVa _ HB1.out
 clear HVa
 unfold setVal at *
 rcases Bool.eq_false_or_eq_true (setB s) with hok | hok
 ·have hbo := HBo.out hok
  have hli := HLi.out hok
  rw [hok] at hva
  clear hok HBo HLi
  go_enter Tryz.func66,Tryz.ntmps66
  go_wp2_with (first | (go_at_call 87;refine hva.mono ?_;rintro e w2 ⟨rfl,hb2⟩;have hbx := HB1.out.trans (hb2.mono HB1.out.size);have HD2 := Lib.hid (HD.out.below hb2 HD.out.lt);have z0 := HD2.out.cell 0;have z1 := HD2.out.cell 1;have z2 := HD2.out.cell 2;have z3 := HD2.out.cell 3;have z4 := HD2.out.cell 4;have z5 := HD2.out.cell 5;have z6 := HD2.out.cell 6;have z7 := HD2.out.cell 7;have z8 := HD2.out.cell 8;have z9 := HD2.out.cell 9;have z10 := HD2.out.cell 10;have z11 := HD2.out.cell 11;have z12 := HD2.out.cell 12;simp only [List.getElem?_toArray,List.getElem?_cons_succ,List.getElem?_cons_zero] at z0 z1 z2 z3 z4 z5 z6 z7 z8 z9 z10 z11 z12) | (go_at_call 106;refine (hbo _ hbx).mono ?_;rintro e w3 ⟨hb3,v3,rfl,hB3⟩;have HB3 := Lib.hid (hbx.trans (hb3.mono hbx.size));have hli3 := hli v3 w3 hB3) | (go_at_call 105;refine hli3.mono ?_;rintro e w4 ⟨hb4,⟨hE,v4,rfl,h4⟩ | ⟨hE,rfl⟩⟩))
  ·go_ret2
   exact ⟨HB3.out.trans (hb4.mono HB3.out.size),.inl ⟨hE,v4,rfl,h4⟩⟩
  ·go_ret2
   exact ⟨HB3.out.trans (hb4.mono HB3.out.size),.inr ⟨hE,rfl⟩⟩
 ·have HE : Hid (linesErr s = 1) := by unfold Hid linesErr;rw [hok];rfl
  rw [hok] at hva
  clear hok HBo HLi
  go_enter Tryz.func66,Tryz.ntmps66
  go_wp2_with (go_at_call 87;refine hva.mono ?_;rintro e w2 ⟨rfl,hb2⟩)
  go_ret2
  exact ⟨HB1.out.trans (hb2.mono HB1.out.size),.inr ⟨by rw [HE.out];decide,by rw [HE.out];rfl⟩⟩
end Go.Proofs.YtknkhnahflmjiaaGreatDoor
