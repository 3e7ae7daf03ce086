/- Parts of the proof, laid into one text: Itoa, LsF. -/
import Derived.BigQuiet
import Derived.Deep.AppendLies
import Derived.Deep.Draws
import Derived.Deep.LoopGhost
import Derived.Deep.QuietTactic
import Derived.Deep.RegionHeld3
import Derived.Deep.RegionLaw
import Derived.IntWalk
import Derived.Laws.Bits64b
import Derived.Laws.Concat
import Derived.Lib.Hide
import Derived.LoopIn
import Derived.LoopNIn
import Derived.Maps.AppendAt
import Derived.Maps.Own
import Derived.Maps.OwnOps
import Derived.Maps.OwnSet
import Derived.Maps.Views
import Derived.Outline
import Derived.OwnWalkIn
import Derived.PlainAid
import Derived.RangeFuncBox
import Derived.RangeFuncLeaves
import Derived.Shelf.Abstract
import Derived.Shelf.Bits.Mul64
import Derived.Shelf.Strconv.Itoa3
import Derived.StillTail
import Derived.StillTailTactics
import Derived.TacticsInMore
import Derived.Test.YtbhmkcjddpniiaaGreatDoorC1
import Derived.Test.YtbhmkcjddpniiaaGreatDoorC2
import Derived.Test.YtbhmkcjddpniiaaGreatDoorC3
import Derived.Test.YtbhmkcjddpniiaaGreatDoorC4
import Derived.Test.YtbhmkcjddpniiaaGreatDoorC5
import Derived.Test.YtbhmkcjddpniiaaGreatDoorC6
import Derived.Test.YtbhmkcjddpniiaaGreatDoorC7
import Derived.Test.YtbhmkcjddpniiaaGreatDoorD1
import Derived.Test.YtbhmkcjddpniiaaGreatDoorD2
import Derived.Test.YtbhmkcjddpniiaaGreatDoorD3
import Derived.Test.YtbhmkcjddpniiaaGreatDoorD4
import Derived.Test.YtbhmkcjddpniiaaGreatDoorG1
import Derived.Test.YtbhmkcjddpniiaaGreatDoorProg
import Derived.WalkKit
import Derived.WalkLawsBesides
import Derived.WalkSpells

namespace Go.Proofs.YtbhmkcjddpniiaaGreatDoor
open Go.RowKit Go.Shelf
def itoaRen : Ren := ⟨fun | 129 => 226 | 171 => 57 | 243 => 107 | 246 => 155 | 283 => 192 | 284 => 193 | 285 => 194 | 286 => 195 | 317 => 225 | 318 => 227 | 319 => 228 | 320 => 229 | 337 => 248 | 338 => 249 | n => n,fun | 0 => 0 | 2 => 2 | 3 => 3 | 4 => 4 | 5 => 5 | 9 => 9 | 20 => 20 | 37 => 221 | 46 => 202 | 51 => 248 | 53 => 145 | 171 => 231 | 173 => 234 | 212 => 261 | 213 => 262 | 232 => 278 | 233 => 279 | n => n,fun | 17 => 1 | 18 => 2 | 19 => 3 | n => n⟩
theorem itoaLays : Lays.n171 Tryz.prog itoaRen := {
 mixed := by kernel_rfl
 f129 := Tryz.func226.trans (congrArg some (by kernel_rfl))
 f171 := Tryz.func57.trans (congrArg some (by kernel_rfl))
 f243 := Tryz.func107.trans (congrArg some (by kernel_rfl))
 f246 := Tryz.func155.trans (congrArg some (by kernel_rfl))
 f283 := Tryz.func192.trans (congrArg some (by kernel_rfl))
 f284 := Tryz.func193.trans (congrArg some (by kernel_rfl))
 f285 := Tryz.func194.trans (congrArg some (by kernel_rfl))
 f286 := Tryz.func195.trans (congrArg some (by kernel_rfl))
 f317 := Tryz.func225.trans (congrArg some (by kernel_rfl))
 f318 := Tryz.func227.trans (congrArg some (by kernel_rfl))
 f319 := Tryz.func228.trans (congrArg some (by kernel_rfl))
 f320 := Tryz.func229.trans (congrArg some (by kernel_rfl))
 f337 := Tryz.func248.trans (congrArg some (by kernel_rfl))
 f338 := Tryz.func249.trans (congrArg some (by kernel_rfl))
 t0 := Tryz.underlying0
 a0 := Tryz.isAgg0
 z0 := Tryz.sizeOf0
 v0 := Tryz.zeroValue0
 t2 := Tryz.underlying2
 a2 := Tryz.isAgg2
 z2 := Tryz.sizeOf2
 v2 := Tryz.zeroValue2
 t3 := Tryz.underlying3
 a3 := Tryz.isAgg3
 z3 := Tryz.sizeOf3
 v3 := Tryz.zeroValue3
 t4 := Tryz.underlying4
 a4 := Tryz.isAgg4
 z4 := Tryz.sizeOf4
 v4 := Tryz.zeroValue4
 t5 := Tryz.underlying5
 a5 := Tryz.isAgg5
 z5 := Tryz.sizeOf5
 v5 := Tryz.zeroValue5
 t9 := Tryz.underlying9
 a9 := Tryz.isAgg9
 z9 := Tryz.sizeOf9
 v9 := Tryz.zeroValue9
 t20 := Tryz.underlying20
 a20 := Tryz.isAgg20
 z20 := Tryz.sizeOf20
 v20 := Tryz.zeroValue20
 t37 := Tryz.underlying221
 a37 := Tryz.isAgg221
 z37 := Tryz.sizeOf221
 v37 := Tryz.zeroValue221
 t46 := Tryz.underlying202
 a46 := Tryz.isAgg202
 z46 := Tryz.sizeOf202
 v46 := Tryz.zeroValue202
 t51 := Tryz.underlying248
 a51 := Tryz.isAgg248
 z51 := Tryz.sizeOf248
 v51 := Tryz.zeroValue248
 t53 := Tryz.underlying145
 a53 := Tryz.isAgg145
 z53 := Tryz.sizeOf145
 v53 := Tryz.zeroValue145
 t171 := Tryz.underlying231
 a171 := Tryz.isAgg231
 z171 := Tryz.sizeOf231
 v171 := Tryz.zeroValue231
 t173 := Tryz.underlying234
 a173 := Tryz.isAgg234
 z173 := Tryz.sizeOf234
 v173 := Tryz.zeroValue234
 t212 := Tryz.underlying261
 a212 := Tryz.isAgg261
 z212 := Tryz.sizeOf261
 v212 := Tryz.zeroValue261
 t213 := Tryz.underlying262
 a213 := Tryz.isAgg262
 z213 := Tryz.sizeOf262
 t232 := Tryz.underlying278
 a232 := Tryz.isAgg278
 z232 := Tryz.sizeOf278
 v232 := Tryz.zeroValue278
 t233 := Tryz.underlying279
 a233 := Tryz.isAgg279
 z233 := Tryz.sizeOf279
 v233 := Tryz.zeroValue279
 g17 := by kernel_rfl
 g18 := by kernel_rfl
 g19 := by kernel_rfl }
end Go.Proofs.YtbhmkcjddpniiaaGreatDoor

namespace Go.Proofs.YtbhmkcjddpniiaaGreatDoor
open Go.RowKit Go.Shelf
structure FindT where
 kind : Int
 name : ByteArray
deriving DecidableEq
def FindT.cells (x : FindT) : List Value := [.int .i64 x.kind,.string x.name]
def FindsAt (w : World) (B : Nat) (v : Value) (l : List FindT) : Prop := Flat w B v l.length (l.flatMap FindT.cells)
structure FdS (W0 W : World) (ov : Value) (fs : List FindT) : Prop where
 bel : Below W0.heap.size W0 W
 box : Blk W W0.heap.size 29 #[ov]
 own : W.ownsRow W0.heap.size 39 2 ov fs.length (fs.flatMap FindT.cells)
section
variable {W0 W W' : World} {ov : Value} {fs : List FindT}
theorem FdS.below (h : FdS W0 W ov fs) (hb : Below W.heap.size W W') : FdS W0 W' ov fs :=
 ⟨h.bel.trans (hb.mono h.bel.size),h.box.below hb h.box.lt,ownsRow_of h.own hb⟩
theorem FdS.push (h : FdS W0 W ov fs) {v' : Value} {w1 : World} {y : FindT} (hown : w1.ownsRow W0.heap.size 39 2 v' (fs.length + 1) (fs.flatMap FindT.cells ++ [.int .i64 y.kind,.string y.name])) (hg : W.grownBy w1 ov.ownBlock) :
  Blk w1 W0.heap.size 29 #[ov] ∧ FdS W0 (w1.setCell ⟨W0.heap.size,0,none⟩ v') v' (fs ++ [y]) := by
 have hr := fun r (e : ov.ownBlock = some r) => own_at h.own e
 have e1 : Blk w1 W0.heap.size 29 #[ov] := h.box.kept hg (fun e => by
  obtain ⟨c',hc⟩ := hr _ e.symm
  have hb := h.box
  unfold Blk at hb
  rw [hb] at hc
  injection hc with hc
  injection hc with _ hc _
  exact absurd hc (by decide))
 have hb1 : Below W0.heap.size W0 w1 := h.bel.grown hg h.bel.size (fun k e => (h.own.lt k e).1)
 refine ⟨e1,hb1.setCell (Nat.le_refl _) _,e1.set_ 0 v',?_⟩
 have : (w1.setCell ⟨W0.heap.size,0,none⟩ v').ownsRow W0.heap.size 39 2 v' (fs.length + 1) (fs.flatMap FindT.cells ++ [.int .i64 y.kind,.string y.name]) := hown.kept (e1.setGrown 0 v') (own_row_none hown fun r e c f hh => by
  obtain rfl : W0.heap.size = r := by simpa using e
  unfold Blk at e1
  rw [e1] at hh
  injection hh with hh
  injection hh with _ hh _
  exact absurd hh (by decide))
 rw [List.length_append,List.flatMap_append]
 exact this
end
end Go.Proofs.YtbhmkcjddpniiaaGreatDoor
