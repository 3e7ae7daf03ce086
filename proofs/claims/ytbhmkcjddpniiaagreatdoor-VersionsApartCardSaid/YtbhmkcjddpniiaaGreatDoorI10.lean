/- Parts of the proof, laid into one text: LawFollow, OpenAct. -/
import Derived.Below
import Derived.BigQuiet
import Derived.ChangeSame
import Derived.Deep.AppendLies
import Derived.Deep.Cut
import Derived.Deep.Draws
import Derived.Deep.Fields
import Derived.Deep.LoopGhost
import Derived.Deep.MidRow
import Derived.Deep.QuietTactic
import Derived.Deep.RegionHeld3
import Derived.Deep.RegionLaw
import Derived.Deep.Slices
import Derived.IntWalk
import Derived.Laws.Bits64b
import Derived.Laws.Concat
import Derived.Laws.EntriesVeiled
import Derived.Lib.AppendIntMem
import Derived.Lib.Hide
import Derived.Lib.ItoaLen
import Derived.Lib.ItoaMem
import Derived.Lib.Join
import Derived.Lib.SliceRun
import Derived.Lib.SmallJoins
import Derived.LoopIn
import Derived.LoopNIn
import Derived.Maps.AppendAt
import Derived.Maps.Own
import Derived.Maps.OwnOps
import Derived.Maps.OwnSet
import Derived.Maps.Views
import Derived.Outline
import Derived.OwnWalkIn
import Derived.PlainAid
import Derived.RangeFuncBox
import Derived.RangeFuncLeaves
import Derived.Shelf.Abstract
import Derived.Shelf.Bits.Mul64
import Derived.Shelf.Strconv.Itoa3
import Derived.Shelf.Strings.Count
import Derived.Shelf.Strings.OnBuilder
import Derived.Shelf.Strings.Prefix
import Derived.SliceStrings
import Derived.StillTail
import Derived.StillTailTactics
import Derived.TacticsInMore
import Derived.Test.YtbhmkcjddpniiaaGreatDoorC1
import Derived.Test.YtbhmkcjddpniiaaGreatDoorC2
import Derived.Test.YtbhmkcjddpniiaaGreatDoorC3
import Derived.Test.YtbhmkcjddpniiaaGreatDoorC4
import Derived.Test.YtbhmkcjddpniiaaGreatDoorC5
import Derived.Test.YtbhmkcjddpniiaaGreatDoorC6
import Derived.Test.YtbhmkcjddpniiaaGreatDoorC7
import Derived.Test.YtbhmkcjddpniiaaGreatDoorD1
import Derived.Test.YtbhmkcjddpniiaaGreatDoorD2
import Derived.Test.YtbhmkcjddpniiaaGreatDoorD3
import Derived.Test.YtbhmkcjddpniiaaGreatDoorD4
import Derived.Test.YtbhmkcjddpniiaaGreatDoorD5
import Derived.Test.YtbhmkcjddpniiaaGreatDoorD6
import Derived.Test.YtbhmkcjddpniiaaGreatDoorD9
import Derived.Test.YtbhmkcjddpniiaaGreatDoorG1
import Derived.Test.YtbhmkcjddpniiaaGreatDoorI1
import Derived.Test.YtbhmkcjddpniiaaGreatDoorI2
import Derived.Test.YtbhmkcjddpniiaaGreatDoorI3
import Derived.Test.YtbhmkcjddpniiaaGreatDoorI5
import Derived.Test.YtbhmkcjddpniiaaGreatDoorI6
import Derived.Test.YtbhmkcjddpniiaaGreatDoorI7
import Derived.Test.YtbhmkcjddpniiaaGreatDoorI8
import Derived.Test.YtbhmkcjddpniiaaGreatDoorI9
import Derived.Test.YtbhmkcjddpniiaaGreatDoorProg
import Derived.WalkKit
import Derived.WalkLawsBesides
import Derived.WalkSpells

namespace Go.Proofs.YtbhmkcjddpniiaaGreatDoor
open Go.RowKit Go.Shelf
theorem get_at {st : St} {nm : ByteArray} {x : SetT} {w w' : World} {e : Ending} (hp : GetPost st nm w e w') (h1 : getS st nm = (x,0)) : Below w.heap.size w w' ∧ ∃ c : SetC,e = .returned (.tuple #[c.val,.int .i64 0]) ∧ c.s = x ∧ OwnC w' w.heap.size c := by
 obtain ⟨hb,c,he,hs,ho⟩ := hp
 rw [h1] at he hs
 exact ⟨hb,c,he,hs,ho⟩
theorem names_cell {w : World} {B n c : Nat} {A : Option Addr} {S : List SetT} (h : w.ownsRow B 9 1 (.slice A n c) n ((S.map SetT.name).map Value.string)) (hn : n = S.length) {j : Nat} (hj : j < S.length) : ∃ b off,A = some ⟨b,off,none⟩ ∧ w.cell? ⟨b,off + j,none⟩ = some (.string S[j].name) := by
 obtain ⟨A',c',e,-,-,h4⟩ := Flat.of_own h
 injection e with e1 _ _
 subst e1
 obtain ⟨b,off,e,-,hc⟩ := h4 (by omega)
 exact ⟨b,off,e,hc j _ (by simp [hj])⟩
theorem OwnC.chg {w w' : World} {B B' : Nat} {c : SetC} (h : OwnC w B c) (hc : ChgS B' w w') : OwnC w' B c := ⟨own_chg h.1 hc (by decide) (by decide),own_chg h.2.1 hc (by decide) (by decide),own_chg h.2.2 hc (by decide) (by decide)⟩
theorem Blk.chg {w w' : World} {g B : Nat} {t : TypeId} {cs : Array Value} (h : Blk w g t cs) (hc : ChgS B w w') (h1 : t ≠ 76) (h2 : t ≠ 66) : Blk w' g t cs := (hc.same g cs t (0,0) h h1 h2).trans h
end Go.Proofs.YtbhmkcjddpniiaaGreatDoor

namespace Go.Proofs.YtbhmkcjddpniiaaGreatDoor
open Go.RowKit Go.Shelf Go.ChangeShapes Go.WideShapes Go.Deep
theorem list2 {α : Type} : ∀ {cs : List α},cs.length = 2 → ∃ a b,cs = [a,b]
 | [a,b],_ => ⟨a,b,rfl⟩
theorem list14 {α : Type} : ∀ {cs : List α},cs.length = 14 → ∃ a t,cs = a :: t ∧ t.length = 13
 | a :: t,h => ⟨a,t,rfl,by simpa using h⟩
instance : Inhabited ActC := ⟨⟨0,⟨⟨⟨#[]⟩,0,0,0,0,[],0,0,0,0,0,[],[]⟩,none,0,none,0,none,0⟩⟩⟩
section
variable {H : Type} {enc : TypeId × Value → H} {w : World} {base : Nat} {spare : Nat → Bool} {held : Bool}
theorem acts_of_trod {fuel : Nat} {v : Value} {x : DataW H × List MemPlace} (h : DataW.trod enc Tryz.prog w base spare held fuel 63 [v] = some x) :
  ∃ L : List ActC,ActsAt w w.heap.size v L := by
 rcases open_slice Tryz.underlying63 h with ⟨hcs,-⟩ | ⟨a,len,cap,m,n,D,Pl,hcs,_,hl,hm,hmm,-,hi⟩
 ·obtain rfl : v = .slice none 0 0 := by simpa using hcs
  exact ⟨[],⟨none,0,rfl,Nat.le_refl _,Nat.zero_le _,fun h => absurd h (by simp)⟩,by simp⟩
 ·obtain rfl : v = .slice (some a) len cap := by simpa using hcs
  have hle : len ≤ m := by rw [hmm];split <;> omega
  have hC : Tryz.prog.cellsOf 71 = 14 := by kernel_rfl
  rw [hC] at hi
  have each : ∀ i,i < len → ∃ t : ActC,(∀ k u,t.cells[k]? = some u → w.cell? (a.add (i * 14 + k)) = some u) ∧ SetAt w w.heap.size t.c.val t.c.s ∧ SetNames t.c.s := fun i hil => by
   obtain ⟨cs,hc,ht⟩ := hi i (by omega)
   obtain ⟨ys,n',hn',hy,hlen,hyl,hf⟩ := DataW.trod_struct Tryz.underlying71 ht
   obtain ⟨_,hcl,hat⟩ := World.cells?_some hc
   obtain ⟨c0,cr,rfl,hcr⟩ := list14 hcl
   obtain ⟨y0,y1,rfl⟩ := list2 hyl
   have g0 : DataW.trod enc Tryz.prog w base spare held n' 3 (List.take (Tryz.prog.cellsOf 3) (List.drop 0 (c0 :: cr))) = some y0 := hf 0 _ rfl
   have g1 : DataW.trod enc Tryz.prog w base spare held n' 26 (List.take (Tryz.prog.cellsOf 26) (List.drop 1 (c0 :: cr))) = some y1 := hf 1 _ rfl
   rw [show Tryz.prog.cellsOf 3 = 1 from by kernel_rfl] at g0
   rw [show Tryz.prog.cellsOf 26 = 13 from by kernel_rfl] at g1
   obtain ⟨f0,rfl,-⟩ := int_of_trod (v := c0) g0
   have e1 : List.take 13 (List.drop 1 (Value.int .i64 f0 :: cr)) = cr := by
    rw [List.drop_one,List.tail_cons,← hcr,List.take_length]
   rw [e1] at g1
   obtain ⟨s,hs,hnm⟩ := set_of_trod hcr g1
   have hs' := hs
   obtain ⟨al,cl,ai,ci,ab,cb,e,_⟩ := hs
   have ecr : cr = (SetC.mk s al cl ai ci ab cb).cells := by
    have e2 : cr.toArray = (SetC.mk s al cl ai ci ab cb).cells.toArray := Value.agg.inj e
    simpa using congrArg Array.toList e2
   have hsv : SetAt w w.heap.size (setVal s al cl ai ci ab cb) s := e ▸ hs'
   refine ⟨⟨f0,s,al,cl,ai,ci,ab,cb⟩,fun k u hk => ?_,hsv,hnm⟩
   have hk5 : k < 14 := (List.getElem?_eq_some_iff.1 hk).1
   rw [← add_add,hat k hk5,ecr]
   exact hk
  obtain ⟨T,hT⟩ := choose_lt each
  have hL : ((List.range len).map T).length = len := by simp
  refine ⟨(List.range len).map T,⟨some a,cap,by rw [hL],by rw [hL];exact hl,hm,fun hn => ?_⟩,fun t ht => ?_⟩
  ·rw [hL] at hn
   obtain ⟨b,off,sp⟩ := a
   have h0 := (hT 0 hn).1 0 _ rfl
   obtain rfl := spot_none h0
   have hlt : b < w.heap.size := by simpa [add_none] using cell_lt h0
   refine ⟨b,off,rfl,hlt,fun j u hu => ?_⟩
   obtain ⟨hj,hu'⟩ := flatAtK ActC.cells 14 (by decide) (fun _ => rfl) _ _ _ hu
   rw [hL] at hj
   have := (hT _ hj).1 (j % 14) u (by simpa using hu')
   rw [add_none,Nat.div_add_mod' j 14] at this
   exact this
  ·simp only [List.mem_map,List.mem_range] at ht
   obtain ⟨i,hi,rfl⟩ := ht
   exact (hT i hi).2
end
end Go.Proofs.YtbhmkcjddpniiaaGreatDoor
