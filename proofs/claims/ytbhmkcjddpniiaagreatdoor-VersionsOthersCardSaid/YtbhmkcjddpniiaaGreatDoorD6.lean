/- Parts of the proof, laid into one text: Ex29. -/
import Derived.BigQuiet
import Derived.Deep.AppendLies
import Derived.Deep.Draws
import Derived.Deep.LoopGhost
import Derived.Deep.QuietTactic
import Derived.Deep.RegionHeld3
import Derived.Deep.RegionLaw
import Derived.IntWalk
import Derived.Laws.Bits64b
import Derived.Laws.Concat
import Derived.Lib.Hide
import Derived.LoopIn
import Derived.LoopNIn
import Derived.Maps.AppendAt
import Derived.Maps.Own
import Derived.Maps.OwnOps
import Derived.Maps.OwnSet
import Derived.Maps.Views
import Derived.Outline
import Derived.OwnWalkIn
import Derived.PlainAid
import Derived.RangeFuncBox
import Derived.RangeFuncLeaves
import Derived.Shelf.Abstract
import Derived.Shelf.Bits.Mul64
import Derived.Shelf.Strconv.Itoa3
import Derived.StillTail
import Derived.StillTailTactics
import Derived.TacticsInMore
import Derived.Test.YtbhmkcjddpniiaaGreatDoorC1
import Derived.Test.YtbhmkcjddpniiaaGreatDoorC2
import Derived.Test.YtbhmkcjddpniiaaGreatDoorC3
import Derived.Test.YtbhmkcjddpniiaaGreatDoorC4
import Derived.Test.YtbhmkcjddpniiaaGreatDoorC5
import Derived.Test.YtbhmkcjddpniiaaGreatDoorC6
import Derived.Test.YtbhmkcjddpniiaaGreatDoorC7
import Derived.Test.YtbhmkcjddpniiaaGreatDoorD1
import Derived.Test.YtbhmkcjddpniiaaGreatDoorD2
import Derived.Test.YtbhmkcjddpniiaaGreatDoorD3
import Derived.Test.YtbhmkcjddpniiaaGreatDoorD4
import Derived.Test.YtbhmkcjddpniiaaGreatDoorD5
import Derived.Test.YtbhmkcjddpniiaaGreatDoorG1
import Derived.Test.YtbhmkcjddpniiaaGreatDoorProg
import Derived.WalkKit
import Derived.WalkLawsBesides
import Derived.WalkSpells

namespace Go.Proofs.YtbhmkcjddpniiaaGreatDoor
open Go.RowKit Go.Shelf
theorem find_get (l : List FindT) (j i : Nat) (hj : j < l.length) (hi : i < 2) : (l.flatMap FindT.cells)[j * 2 + i]? = l[j].cells[i]? := flatGet FindT.cells 2 (fun _ => rfl) l j i hj hi
theorem FindsAt.open_ {w : World} {B : Nat} {v : Value} {l : List FindT} (h : FindsAt w B v l) :
  ∃ A c,v = .slice A l.length c ∧ l.length ≤ c ∧ c ≤ maxLen ∧ ∀ k (_ : k < l.length),∃ b off,A = some ⟨b,off,none⟩ ∧ b < B ∧ ∀ j (hj : j < l.length),w.cell? ⟨b,off + j * 2,none⟩ = some (.int .i64 l[j].kind) ∧ w.cell? ⟨b,off + j * 2 + 1,none⟩ = some (.string l[j].name) := by
 obtain ⟨A,c,h1,h2,h3,h4⟩ := h
 refine ⟨A,c,h1,h2,h3,fun k hk => ?_⟩
 obtain ⟨b,off,e,hlt,hc⟩ := h4 (by omega)
 refine ⟨b,off,e,hlt,fun j hj => ?_⟩
 have f := fun (i : Nat) (hi : i < 2) u (hu : l[j].cells[i]? = some u) => hc (j * 2 + i) u ((find_get l j i hj hi).trans hu)
 have g := fun (i : Nat) (hi : i < 2) u (hu : l[j].cells[i]? = some u) => (congrArg (fun o => w.cell? ⟨b,o,none⟩) (Nat.add_assoc off (j * 2) i)).trans (f i hi u hu)
 exact ⟨g 0 (by omega) _ rfl,g 1 (by omega) _ rfl⟩
theorem FindsAt.below {w w' : World} {B B' : Nat} {v : Value} {l : List FindT} (h : FindsAt w B v l) (hb : Below B' w w') (hB : B ≤ B') : FindsAt w' B v l := Flat.below h hb hB
theorem FindsAt.mono {w : World} {B B' : Nat} {v : Value} {l : List FindT} (h : FindsAt w B v l) (hB : B ≤ B') : FindsAt w B' v l := Flat.mono h hB
end Go.Proofs.YtbhmkcjddpniiaaGreatDoor
