/- A region that draws its order, reads, and calls functions that make memory: walked once, in the text's order, whatever order is drawn; behind it all that lay below the old end is as it was. -/
import Derived.Test.YtcjejcbikgcnbaaBase
namespace Go.Proofs.Ytcjejcbikgcnbaa
open Go.RowKit Go.Shelf

/-- A world that has grown out of W. -/
structure HeldB (W : World) where
  w : World
  h : Below W.heap.size W w
instance (W : World) : Nonempty (HeldB W) := ⟨⟨W, Below.refl _ _⟩⟩
theorem HeldB.cell {W : World} {b o : Nat} {v : Value} (hc : W.cell? ⟨b, o, none⟩ = some v) (x : HeldB W) : x.w.cell? ⟨b, o, none⟩ = some v :=
  (x.h.cell (p := ⟨b, o, none⟩) (World.block_lt_of_cell? _ _ hc)).trans hc
theorem HeldB.call {W : World} {P : Program} {f : FuncId} {args : Array Value} {v : Value} (h : ∀ w', Below W.heap.size W w' → Calls P f args w' fun e w'' => e = .returned v ∧ Below w'.heap.size w' w'') (x : HeldB W) :
    Calls P f args x.w fun e w'' => e = .returned v ∧ ∃ y : HeldB W, w'' = y.w :=
  (h x.w x.h).mono fun _ w'' ⟨he, hb⟩ => ⟨he, ⟨w'', x.h.trans (hb.mono x.h.size)⟩, rfl⟩
theorem HeldB.callq {W : World} {P : Program} {f : FuncId} {args : Array Value} {v : Value} (h : ∀ w', Below W.heap.size W w' → Calls P f args w' fun e w'' => e = .returned v ∧ ∃ q, w'.drewN q = w'') (x : HeldB W) :
    Calls P f args x.w fun e w'' => e = .returned v ∧ ∃ y : HeldB W, w'' = y.w :=
  (h x.w x.h).mono fun _ w'' ⟨he, q, hq⟩ => ⟨he, ⟨w'', by rw [← hq]; exact below_drewN x.h q⟩, rfl⟩
theorem wp_region_heldb {P : Program} {id : Nat} {Q : Exit → Act → World → Prop} {a : Act} {w : World} {l : List Oper} (hm : P.follows .mixedOrders = true) (hB : Region.lexB .any l.toArray = true)
    (h : wpQuiet P l.toArray (fun w' => ∃ x : HeldB w, w' = x.w) (fun a' => ∀ w', (∃ x : HeldB w, w' = x.w) → Q .normal a' w') l a) : (Code.region id l.toArray true).wp P Q a w :=
  wp_region_quiet (C := fun w' => ∃ x : HeldB w, w' = x.w) hm hB ⟨⟨w.drew, (Below.refl _ _).drew⟩, rfl⟩ (by simpa using h)

end Go.Proofs.Ytcjejcbikgcnbaa
