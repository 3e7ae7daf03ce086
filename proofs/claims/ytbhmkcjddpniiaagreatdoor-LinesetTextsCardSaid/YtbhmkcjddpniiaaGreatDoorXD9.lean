/- Parts of the proof, laid into one text: Copy. -/
import Derived.BigQuiet
import Derived.Deep.AppendLies
import Derived.Deep.Cut
import Derived.Deep.Draws
import Derived.Deep.LoopGhost
import Derived.Deep.MidRow
import Derived.Deep.QuietTactic
import Derived.IntWalk
import Derived.Laws.Bits64b
import Derived.Lib.Hide
import Derived.LoopIn
import Derived.LoopNIn
import Derived.Maps.AppendAt
import Derived.Maps.Own
import Derived.Maps.OwnOps
import Derived.Maps.OwnSet
import Derived.Maps.Views
import Derived.Outline
import Derived.OwnWalkIn
import Derived.PlainAid
import Derived.RangeFuncBox
import Derived.RangeFuncLeaves
import Derived.Shelf.Abstract
import Derived.StillTail
import Derived.StillTailTactics
import Derived.TacticsInMore
import Derived.Test.YtbhmkcjddpniiaaGreatDoorProg
import Derived.Test.YtbhmkcjddpniiaaGreatDoorXC1
import Derived.Test.YtbhmkcjddpniiaaGreatDoorXC2
import Derived.Test.YtbhmkcjddpniiaaGreatDoorXC3
import Derived.Test.YtbhmkcjddpniiaaGreatDoorXC4
import Derived.Test.YtbhmkcjddpniiaaGreatDoorXC6
import Derived.Test.YtbhmkcjddpniiaaGreatDoorXC7
import Derived.Test.YtbhmkcjddpniiaaGreatDoorXD1
import Derived.Test.YtbhmkcjddpniiaaGreatDoorXD2
import Derived.Test.YtbhmkcjddpniiaaGreatDoorXD3
import Derived.Test.YtbhmkcjddpniiaaGreatDoorXD4
import Derived.Test.YtbhmkcjddpniiaaGreatDoorXG1
import Derived.WalkKit
import Derived.WalkLawsBesides
import Derived.WalkSpells

namespace Go.Proofs.YtbhmkcjddpniiaaGreatDoor
open Go.RowKit Go.Shelf
theorem flatLen {α : Type} (f : α → List Value) (k : Nat) (hf : ∀ x,(f x).length = k) (l : List α) : (l.flatMap f).length = l.length * k := by
 induction l with
 | nil => simp
 | cons t l ih => rw [List.flatMap_cons,List.length_append,ih,hf,List.length_cons,Nat.succ_mul];omega
theorem flatOneItem (l : List ItemT) : ∀ u ∈ l.flatMap ItemT.cells,u.oneCell' = true := fun u hu => by
 obtain ⟨x,_,hx⟩ := List.mem_flatMap.1 hu
 simp only [ItemT.cells,List.mem_cons,List.not_mem_nil,or_false] at hx
 rcases hx with rfl | rfl | rfl | rfl | rfl | rfl | rfl <;> rfl
theorem flatOneBrick (l : List BrickT) : ∀ u ∈ l.flatMap BrickT.cells,u.oneCell' = true := fun u hu => by
 obtain ⟨x,_,hx⟩ := List.mem_flatMap.1 hu
 simp only [BrickT.cells,List.mem_cons,List.not_mem_nil,or_false] at hx
 rcases hx with rfl | rfl | rfl <;> rfl
theorem info_item : (Tryz.prog.info? 47).map (fun i => (i.zero,i.size,i.bytes)) = some (some (.agg #[.string ⟨#[]⟩,.int .i64 0,.int .i64 0,.int .i64 0,.int .i64 0,.int .i64 0,.int .i64 0]),7,64) := by kernel_rfl
theorem info_brick : (Tryz.prog.info? 49).map (fun i => (i.zero,i.size,i.bytes)) = some (some (.agg #[.string ⟨#[]⟩,.int .i64 0,.int .i64 0]),3,32) := by kernel_rfl
theorem grown_setCells (g : Nat) : ∀ (vs : List Value) (o : Nat) (w : World),w.grownBy (w.setCells g o vs) (some g)
 | [],_,w => World.grownBy.refl w _
 | v :: vs,o,w => grown_trans (setG_grownB w g o v) (grown_setCells g vs (o + 1) _)
theorem blk_range {w : World} {g : Nat} {t : TypeId} {cs : List Value} (h : Blk w g t cs.toArray) : w.rangeAt g 0 cs := fun j v hv => by
 rw [Nat.zero_add,h.cell,List.getElem?_toArray]
 exact hv
theorem blk_there {w : World} {g n : Nat} {t : TypeId} {cs : Array Value} (h : Blk w g t cs) (hn : cs.size = n) : w.there g 0 n := fun j hj => by
 rw [Nat.zero_add]
 refine ⟨?_,h.frozen j⟩
 rw [h.cell,Array.getElem?_eq_getElem (by omega)]
 rfl
def CopyPost (s : SetT) (w : World) (e : Ending) (w' : World) : Prop :=
 Below w.heap.size w w' ∧ ∃ Al cl Ai ci Ab cb,e = .returned (setVal s Al cl Ai ci Ab cb) ∧ w'.ownsRow w.heap.size 3 1 (.slice Al s.lines.length cl) s.lines.length (s.lines.map (Value.int .i64)) ∧
  w'.ownsRow w.heap.size 47 7 (.slice Ai s.items.length ci) s.items.length (s.items.flatMap ItemT.cells) ∧ w'.ownsRow w.heap.size 49 3 (.slice Ab s.bricks.length cb) s.bricks.length (s.bricks.flatMap BrickT.cells)
theorem own_not {w : World} {B e s n g : Nat} {v : Value} {L : List Value} {t : TypeId} {cs : Array Value} (h : w.ownsRow B e s v n L) (hb : Blk w g t cs) (ht : t ≠ e) : v.ownBlock = none ∨ v.ownBlock ≠ some g := by
 rcases h.2 with ⟨rfl,_⟩ | ⟨g',cap,cur,rfl,_,hg,_⟩
 ·exact .inl rfl
 ·refine .inr fun e' => ?_
  obtain rfl : g' = g := by simpa [Value.ownBlock] using e'
  unfold Blk at hb
  rw [hg] at hb
  injection hb with hb
  injection hb with _ hb _
  exact ht hb.symm
end Go.Proofs.YtbhmkcjddpniiaaGreatDoor
