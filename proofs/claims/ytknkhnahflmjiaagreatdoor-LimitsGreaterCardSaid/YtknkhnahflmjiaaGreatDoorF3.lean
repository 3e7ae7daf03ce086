/- Parts of the proof, laid into one text: SetF. -/
import Derived.BigQuiet
import Derived.Deep.AppendLies
import Derived.Deep.Draws
import Derived.Deep.LoopGhost
import Derived.Deep.QuietTactic
import Derived.IntWalk
import Derived.Lib.Hide
import Derived.Maps.AppendAt
import Derived.Maps.Own
import Derived.Maps.OwnOps
import Derived.Maps.OwnSet
import Derived.Maps.Views
import Derived.PlainAid
import Derived.Shelf.Abstract
import Derived.StillTailTactics
import Derived.Test.YtknkhnahflmjiaaGreatDoorB1
import Derived.Test.YtknkhnahflmjiaaGreatDoorF1
import Derived.Test.YtknkhnahflmjiaaGreatDoorF2
import Derived.Test.YtknkhnahflmjiaaGreatDoorProg
import Derived.WalkKit
import Derived.WalkLawsBesides
import Derived.WalkSpells

namespace Go.Proofs.YtknkhnahflmjiaaGreatDoor
structure SetOk (s : SetT) : Prop where
 len : 1000 ≤ s.len ∧ s.len ≤ 1048576
 pipe : 0 ≤ s.pipe ∧ s.pipe ≤ 1048576
 arbor : 0 ≤ s.arbor ∧ s.arbor ≤ 1048576
 purch : 1 ≤ s.purch ∧ s.purch ≤ 2
 most : 1 ≤ s.most ∧ s.most ≤ 67108864
 brake : 0 ≤ s.brake ∧ s.brake ≤ 67108864
 depth : 0 ≤ s.depth ∧ s.depth ≤ 1048576
 low : 0 ≤ s.low ∧ s.low ≤ s.high ∧ s.high ≤ 1048576
 lines : linesB s.lines s.len = true
 items : itemsB s.items s.len = true
 bricks : bricksB s.bricks = true
theorem setB_ok {s : SetT} (h : setB s = true) : SetOk s := by
 unfold setB at h
 simp only [Bool.and_eq_true,decide_eq_true_eq] at h
 obtain ⟨-,h1,h2,h3,h4,h5,-,h7,h8,h9,h10,h11,h12,h13,h14⟩ := h
 exact ⟨between_bd h5,between_bd h8,between_bd h9,between_bd h10,between_bd h11,between_bd h12,between_bd h1,⟨h2,h3,h4⟩,h7,h13,h14⟩
theorem SetOk.wts {s : SetT} (h : SetOk s) : s.items.length ≤ 40 ∧ ∀ x ∈ s.items,alone1 x = true ∧ inside1 x s.len = true := by
 have h1 := h.items
 unfold itemsB at h1
 simp only [Bool.and_eq_true,decide_eq_true_eq] at h1
 refine ⟨h1.1,fun x hx => ?_⟩
 obtain ⟨i,hi,rfl⟩ := List.getElem_of_mem hx
 have h2 := h1.2.2
 unfold itTo at h2
 rw [decide_eq_true_iff] at h2
 have h3 := h2 i hi
 rw [itGood_eq hi] at h3
 simp only [Bool.and_eq_true] at h3
 exact ⟨h3.1,h3.2.1⟩
end Go.Proofs.YtknkhnahflmjiaaGreatDoor
