/- Parts of the proof, laid into one text: Copy. -/
import Derived.BigQuiet
import Derived.Deep.AppendLies
import Derived.Deep.Cut
import Derived.Deep.Draws
import Derived.Deep.LoopGhost
import Derived.Deep.MidRow
import Derived.Deep.QuietTactic
import Derived.IntWalk
import Derived.Laws.Bits64b
import Derived.Lib.Hide
import Derived.LoopIn
import Derived.LoopNIn
import Derived.Maps.AppendAt
import Derived.Maps.Own
import Derived.Maps.OwnOps
import Derived.Maps.OwnSet
import Derived.Maps.Views
import Derived.Outline
import Derived.OwnWalkIn
import Derived.PlainAid
import Derived.RangeFuncBox
import Derived.RangeFuncLeaves
import Derived.Shelf.Abstract
import Derived.StillTail
import Derived.StillTailTactics
import Derived.TacticsInMore
import Derived.Test.YtbhmkcjddpniiaaGreatDoorC1
import Derived.Test.YtbhmkcjddpniiaaGreatDoorC2
import Derived.Test.YtbhmkcjddpniiaaGreatDoorC3
import Derived.Test.YtbhmkcjddpniiaaGreatDoorC4
import Derived.Test.YtbhmkcjddpniiaaGreatDoorC6
import Derived.Test.YtbhmkcjddpniiaaGreatDoorC7
import Derived.Test.YtbhmkcjddpniiaaGreatDoorD1
import Derived.Test.YtbhmkcjddpniiaaGreatDoorD2
import Derived.Test.YtbhmkcjddpniiaaGreatDoorD3
import Derived.Test.YtbhmkcjddpniiaaGreatDoorD4
import Derived.Test.YtbhmkcjddpniiaaGreatDoorG1
import Derived.Test.YtbhmkcjddpniiaaGreatDoorProg
import Derived.WalkKit
import Derived.WalkLawsBesides
import Derived.WalkSpells

namespace Go.Proofs.YtbhmkcjddpniiaaGreatDoor
open Go.RowKit Go.Shelf
theorem flatLen {α : Type} (f : α → List Value) (k : Nat) (hf : ∀ x,(f x).length = k) (l : List α) : (l.flatMap f).length = l.length * k := by
 induction l with
 | nil => simp
 | cons t l ih => rw [List.flatMap_cons,List.length_append,ih,hf,List.length_cons,Nat.succ_mul];omega
theorem flatOneItem (l : List ItemT) : ∀ u ∈ l.flatMap ItemT.cells,u.oneCell' = true := fun u hu => by
 obtain ⟨x,_,hx⟩ := List.mem_flatMap.1 hu
 simp only [ItemT.cells,List.mem_cons,List.not_mem_nil,or_false] at hx
 rcases hx with rfl | rfl | rfl | rfl | rfl | rfl | rfl <;> rfl
theorem flatOneBrick (l : List BrickT) : ∀ u ∈ l.flatMap BrickT.cells,u.oneCell' = true := fun u hu => by
 obtain ⟨x,_,hx⟩ := List.mem_flatMap.1 hu
 simp only [BrickT.cells,List.mem_cons,List.not_mem_nil,or_false] at hx
 rcases hx with rfl | rfl | rfl <;> rfl
theorem info_item : (Tryz.prog.info? 47).map (fun i => (i.zero,i.size,i.bytes)) = some (some (.agg #[.string ⟨#[]⟩,.int .i64 0,.int .i64 0,.int .i64 0,.int .i64 0,.int .i64 0,.int .i64 0]),7,64) := by kernel_rfl
theorem info_brick : (Tryz.prog.info? 49).map (fun i => (i.zero,i.size,i.bytes)) = some (some (.agg #[.string ⟨#[]⟩,.int .i64 0,.int .i64 0]),3,32) := by kernel_rfl
set_option maxHeartbeats 1000000 in
theorem cloneItem (v : Value) (l : List ItemT) (w : World) (hl : ItemsAt w w.heap.size v l) (hlen : l.length ≤ 1000000) :
  Calls Tryz.prog 141 #[v] w fun e w' => ∃ v',e = .returned v' ∧ w'.ownsRow w.heap.size 47 7 v' l.length (l.flatMap ItemT.cells) ∧ Below w.heap.size w w' := by
 have HL := Lib.hid hl
 obtain ⟨A,c,rfl,hc1,hc2,hcell⟩ := hl.open_
 clear hl
 cases A with
 | none =>
  have hl0 : l = [] := by
   cases l with
   | nil => rfl
   | cons x r => obtain ⟨b,off,e,_⟩ := hcell 0 (by simp);cases e
  subst hl0
  have heq := fun W => Lib.run_eql_slice_nil (P := Tryz.prog) W 23 47 none 0 c 0 0 Tryz.underlying23
  clear hcell
  go_enter Tryz.func141,Tryz.ntmps141
  go_wp2
  go_ret
  exact ⟨_,rfl,World.ownsRow_nil _ _ _ _,Below.refl _ _⟩
 | some ad =>
  have heq := fun W => Lib.run_eql_slice_nil (P := Tryz.prog) W 23 47 (some ad) l.length c 0 0 Tryz.underlying23
  clear hcell
  go_enter Tryz.func141,Tryz.ntmps141
  go_wp2_with (at_builtin;refine wpList_appendAll _ rfl (.tmp 5) (.tmp 6) 23 rfl w.heap.size 47 info_item Tryz.underlying23 rfl (by decide) (.slice (some ⟨w.heap.size,0,none⟩) 0 0) 0 [] rfl (World.ownsRow_made w #[] 0 (Nat.le_refl _) (Nat.zero_le _) rfl) w.heap.size l.length (.slice (some ad) l.length c) (l.flatMap ItemT.cells) rfl (ItemsAt.below HL.out ((Below.refl _ _).alloc (Nat.le_refl _) _) (Nat.le_refl _)) (flatLen ItemT.cells 7 (fun _ => rfl) l) (flatOneItem l) (by unfold maxLen;omega) (by omega) (by simp) ?_;intro v1 w1 hown1 hg1 hat1)
  go_ret
  refine ⟨_,rfl,by simpa using hown1,?_⟩
  exact ((Below.refl w.heap.size w).alloc (Nat.le_refl _) _).grown hg1 (by simp) (fun k hk => by simp [Value.ownBlock] at hk;omega)
set_option maxHeartbeats 1000000 in
theorem cloneBrick (v : Value) (l : List BrickT) (w : World) (hl : BricksAt w w.heap.size v l) (hlen : l.length ≤ 1000000) :
  Calls Tryz.prog 142 #[v] w fun e w' => ∃ v',e = .returned v' ∧ w'.ownsRow w.heap.size 49 3 v' l.length (l.flatMap BrickT.cells) ∧ Below w.heap.size w w' := by
 have HL := Lib.hid hl
 obtain ⟨A,c,rfl,hc1,hc2,hcell⟩ := hl.open_
 clear hl
 cases A with
 | none =>
  have hl0 : l = [] := by
   cases l with
   | nil => rfl
   | cons x r => obtain ⟨b,off,e,_⟩ := hcell 0 (by simp);cases e
  subst hl0
  have heq := fun W => Lib.run_eql_slice_nil (P := Tryz.prog) W 24 49 none 0 c 0 0 Tryz.underlying24
  clear hcell
  go_enter Tryz.func142,Tryz.ntmps142
  go_wp2
  go_ret
  exact ⟨_,rfl,World.ownsRow_nil _ _ _ _,Below.refl _ _⟩
 | some ad =>
  have heq := fun W => Lib.run_eql_slice_nil (P := Tryz.prog) W 24 49 (some ad) l.length c 0 0 Tryz.underlying24
  clear hcell
  go_enter Tryz.func142,Tryz.ntmps142
  go_wp2_with (at_builtin;refine wpList_appendAll _ rfl (.tmp 5) (.tmp 6) 24 rfl w.heap.size 49 info_brick Tryz.underlying24 rfl (by decide) (.slice (some ⟨w.heap.size,0,none⟩) 0 0) 0 [] rfl (World.ownsRow_made w #[] 0 (Nat.le_refl _) (Nat.zero_le _) rfl) w.heap.size l.length (.slice (some ad) l.length c) (l.flatMap BrickT.cells) rfl (BricksAt.below HL.out ((Below.refl _ _).alloc (Nat.le_refl _) _) (Nat.le_refl _)) (flatLen BrickT.cells 3 (fun _ => rfl) l) (flatOneBrick l) (by unfold maxLen;omega) (by omega) (by simp) ?_;intro v1 w1 hown1 hg1 hat1)
  go_ret
  refine ⟨_,rfl,by simpa using hown1,?_⟩
  exact ((Below.refl w.heap.size w).alloc (Nat.le_refl _) _).grown hg1 (by simp) (fun k hk => by simp [Value.ownBlock] at hk;omega)
def gRow (B : Nat) (t : TypeId) (k n : Nat) (xs : List Value) : GPost := ⟨fun v => ∃ A c,v = .slice A n c,fun v w => w.ownsRow B t k v n xs,⟨_,none,0,rfl⟩,fun _ _ _ hb h => ownsRow_of h hb,false⟩
theorem row_g {f : FuncId} {args : Array Value} {w : World} {t : TypeId} {k n B : Nat} {xs : List Value} (h : Calls Tryz.prog f args w fun e w' => ∃ v',e = .returned v' ∧ w'.ownsRow w.heap.size t k v' n xs ∧ Below w.heap.size w w') (hB : B ≤ w.heap.size) :
  Calls Tryz.prog f args w fun e w' => ∃ u,e = .returned u ∧ Below w.heap.size w w' ∧ (gRow B t k n xs).σ u ∧ (gRow B t k n xs).φ u w' :=
 h.mono fun _ _ ⟨u,he,hO,hb⟩ => ⟨u,he,hb,(by obtain ⟨A,c,h⟩ := own_formB hO;exact ⟨A,c,h⟩),own_mono hO hB⟩
theorem grown_setCells (g : Nat) : ∀ (vs : List Value) (o : Nat) (w : World),w.grownBy (w.setCells g o vs) (some g)
 | [],_,w => World.grownBy.refl w _
 | v :: vs,o,w => grown_trans (setG_grownB w g o v) (grown_setCells g vs (o + 1) _)
theorem blk_range {w : World} {g : Nat} {t : TypeId} {cs : List Value} (h : Blk w g t cs.toArray) : w.rangeAt g 0 cs := fun j v hv => by
 rw [Nat.zero_add,h.cell,List.getElem?_toArray]
 exact hv
theorem blk_there {w : World} {g n : Nat} {t : TypeId} {cs : Array Value} (h : Blk w g t cs) (hn : cs.size = n) : w.there g 0 n := fun j hj => by
 rw [Nat.zero_add]
 refine ⟨?_,h.frozen j⟩
 rw [h.cell,Array.getElem?_eq_getElem (by omega)]
 rfl
def CopyPost (s : SetT) (w : World) (e : Ending) (w' : World) : Prop :=
 Below w.heap.size w w' ∧ ∃ Al cl Ai ci Ab cb,e = .returned (setVal s Al cl Ai ci Ab cb) ∧ w'.ownsRow w.heap.size 3 1 (.slice Al s.lines.length cl) s.lines.length (s.lines.map (Value.int .i64)) ∧
  w'.ownsRow w.heap.size 47 7 (.slice Ai s.items.length ci) s.items.length (s.items.flatMap ItemT.cells) ∧ w'.ownsRow w.heap.size 49 3 (.slice Ab s.bricks.length cb) s.bricks.length (s.bricks.flatMap BrickT.cells)
theorem own_not {w : World} {B e s n g : Nat} {v : Value} {L : List Value} {t : TypeId} {cs : Array Value} (h : w.ownsRow B e s v n L) (hb : Blk w g t cs) (ht : t ≠ e) : v.ownBlock = none ∨ v.ownBlock ≠ some g := by
 rcases h.2 with ⟨rfl,_⟩ | ⟨g',cap,cur,rfl,_,hg,_⟩
 ·exact .inl rfl
 ·refine .inr fun e' => ?_
  obtain rfl : g' = g := by simpa [Value.ownBlock] using e'
  unfold Blk at hb
  rw [hg] at hb
  injection hb with hb
  injection hb with _ hb _
  exact ht hb.symm
end Go.Proofs.YtbhmkcjddpniiaaGreatDoor
