/- Parts of the proof, laid into one text: Awake49, AwakeW49, ActP, ActW. -/
import Derived.BigQuiet
import Derived.Deep.AppendLies
import Derived.Deep.Cut
import Derived.Deep.Draws
import Derived.Deep.LoopGhost
import Derived.Deep.MidRow
import Derived.Deep.QuietTactic
import Derived.Deep.RegionHeld3
import Derived.Deep.RegionLaw
import Derived.IntWalk
import Derived.Laws.Bits64b
import Derived.Laws.Concat
import Derived.Laws.EntriesVeiled
import Derived.Lib.AppendIntMem
import Derived.Lib.Hide
import Derived.Lib.ItoaLen
import Derived.Lib.ItoaMem
import Derived.Lib.Join
import Derived.Lib.SliceRun
import Derived.Lib.SmallJoins
import Derived.LoopIn
import Derived.LoopNIn
import Derived.Maps.AppendAt
import Derived.Maps.Own
import Derived.Maps.OwnOps
import Derived.Maps.OwnSet
import Derived.Maps.Views
import Derived.Outline
import Derived.OwnWalkIn
import Derived.PlainAid
import Derived.RangeFuncBox
import Derived.RangeFuncLeaves
import Derived.Shelf.Abstract
import Derived.Shelf.Bits.Mul64
import Derived.Shelf.Strconv.Itoa3
import Derived.Shelf.Strings.Count
import Derived.Shelf.Strings.OnBuilder
import Derived.Shelf.Strings.Prefix
import Derived.StillTail
import Derived.StillTailTactics
import Derived.TacticsInMore
import Derived.Test.YtbhmkcjddpniiaaGreatDoorC1
import Derived.Test.YtbhmkcjddpniiaaGreatDoorC2
import Derived.Test.YtbhmkcjddpniiaaGreatDoorC3
import Derived.Test.YtbhmkcjddpniiaaGreatDoorC4
import Derived.Test.YtbhmkcjddpniiaaGreatDoorC5
import Derived.Test.YtbhmkcjddpniiaaGreatDoorC6
import Derived.Test.YtbhmkcjddpniiaaGreatDoorC7
import Derived.Test.YtbhmkcjddpniiaaGreatDoorD1
import Derived.Test.YtbhmkcjddpniiaaGreatDoorD2
import Derived.Test.YtbhmkcjddpniiaaGreatDoorD3
import Derived.Test.YtbhmkcjddpniiaaGreatDoorD4
import Derived.Test.YtbhmkcjddpniiaaGreatDoorD5
import Derived.Test.YtbhmkcjddpniiaaGreatDoorD6
import Derived.Test.YtbhmkcjddpniiaaGreatDoorD9
import Derived.Test.YtbhmkcjddpniiaaGreatDoorG1
import Derived.Test.YtbhmkcjddpniiaaGreatDoorI1
import Derived.Test.YtbhmkcjddpniiaaGreatDoorI2
import Derived.Test.YtbhmkcjddpniiaaGreatDoorI3
import Derived.Test.YtbhmkcjddpniiaaGreatDoorI6
import Derived.Test.YtbhmkcjddpniiaaGreatDoorI7
import Derived.Test.YtbhmkcjddpniiaaGreatDoorI8
import Derived.Test.YtbhmkcjddpniiaaGreatDoorProg
import Derived.WalkKit
import Derived.WalkLawsBesides
import Derived.WalkSpells

namespace Go.Proofs.YtbhmkcjddpniiaaGreatDoor
open Go.RowKit Go.Shelf
def ex49 (p : Int) : SetT := ⟨⟨#[97]⟩,0,0,9000,4000,[0,4000],p,0,1,1,0,[],[]⟩
set_option maxRecDepth 100000 in
set_option maxHeartbeats 2000000 in
theorem lawExample49 (p : Int) (w : World) : Calls Tryz.prog 39 #[.int .i64 p] w fun e w' => ∃ v,e = .returned v ∧ SetAt w' w'.heap.size v (ex49 p) ∧ Below w.heap.size w w' := by
 go_enter Tryz.func39,Tryz.ntmps39
 go_wp2_with fail
 have h1 := ints_new (w.alloc (.cells #[.string ⟨#[97]⟩,.int .i64 0,.int .i64 0,.int .i64 9000,.int .i64 4000,.slice (some ⟨w.heap.size + 1,0,none⟩) 2 2,.int .i64 p,.int .i64 0,.int .i64 1,.int .i64 1,.int .i64 0,.slice none 0 0,.slice none 0 0] 26)) 3 [0,4000] (by decide)
 have hb1 : Below w.heap.size w (w.alloc (.cells #[.string ⟨#[97]⟩,.int .i64 0,.int .i64 0,.int .i64 9000,.int .i64 4000,.slice (some ⟨w.heap.size + 1,0,none⟩) 2 2,.int .i64 p,.int .i64 0,.int .i64 1,.int .i64 1,.int .i64 0,.slice none 0 0,.slice none 0 0] 26)) := (Below.refl _ _).alloc (Nat.le_refl _) _
 have hd := Blk.new w 26 #[.string ⟨#[97]⟩,.int .i64 0,.int .i64 0,.int .i64 9000,.int .i64 4000,.slice (some ⟨w.heap.size + 1,0,none⟩) 2 2,.int .i64 p,.int .i64 0,.int .i64 1,.int .i64 1,.int .i64 0,.slice none 0 0,.slice none 0 0]
 have hs : (w.alloc (.cells #[.string ⟨#[97]⟩,.int .i64 0,.int .i64 0,.int .i64 9000,.int .i64 4000,.slice (some ⟨w.heap.size + 1,0,none⟩) 2 2,.int .i64 p,.int .i64 0,.int .i64 1,.int .i64 1,.int .i64 0,.slice none 0 0,.slice none 0 0] 26)).heap.size = w.heap.size + 1 := by simp
 generalize w.alloc (.cells #[.string ⟨#[97]⟩,.int .i64 0,.int .i64 0,.int .i64 9000,.int .i64 4000,.slice (some ⟨w.heap.size + 1,0,none⟩) 2 2,.int .i64 p,.int .i64 0,.int .i64 1,.int .i64 1,.int .i64 0,.slice none 0 0,.slice none 0 0] 26) = W1 at *
 rw [hs] at h1
 have h1 : IntsAt (W1.alloc (.cells #[.int .i64 0,.int .i64 4000] 3)) (W1.alloc (.cells #[.int .i64 0,.int .i64 4000] 3)).heap.size (.slice (some ⟨w.heap.size + 1,0,none⟩) 2 2) [0,4000] := h1
 have hd3 := hd.alloc (.cells #[.int .i64 0,.int .i64 4000] 3)
 have hb2 : Below W1.heap.size W1 (W1.alloc (.cells #[.int .i64 0,.int .i64 4000] 3)) := (Below.refl _ _).alloc (Nat.le_refl _) _
 have HB := Lib.hid (hb1.trans (hb2.mono hb1.size))
 generalize W1.alloc (.cells #[.int .i64 0,.int .i64 4000] 3) = W4 at *
 have z0 := hd3.cell 0
 have z1 := hd3.cell 1
 have z2 := hd3.cell 2
 have z3 := hd3.cell 3
 have z4 := hd3.cell 4
 have z5 := hd3.cell 5
 have z6 := hd3.cell 6
 have z7 := hd3.cell 7
 have z8 := hd3.cell 8
 have z9 := hd3.cell 9
 have z10 := hd3.cell 10
 have z11 := hd3.cell 11
 have z12 := hd3.cell 12
 simp only [List.getElem?_toArray,List.getElem?_cons_succ,List.getElem?_cons_zero] at z0 z1 z2 z3 z4 z5 z6 z7 z8 z9 z10 z11 z12
 refine bodyPost_ret (v := .agg #[.string ⟨#[97]⟩,.int .i64 0,.int .i64 0,.int .i64 9000,.int .i64 4000,.slice (some ⟨w.heap.size + 1,0,none⟩) 2 2,.int .i64 p,.int .i64 0,.int .i64 1,.int .i64 1,.int .i64 0,.slice none 0 0,.slice none 0 0]) (by simp [results,Tryz.results39,go_sem,z0,z1,z2,z3,z4,z5,z6,z7,z8,z9,z10,z11,z12]) rfl ?_
 exact ⟨_,rfl,⟨_,_,_,_,_,_,rfl,h1,⟨none,0,rfl,Nat.le_refl _,Nat.zero_le _,fun h => absurd h (Nat.lt_irrefl 0)⟩,⟨none,0,rfl,Nat.le_refl _,Nat.zero_le _,fun h => absurd h (Nat.lt_irrefl 0)⟩⟩,HB.out⟩
theorem ex49_names (p : Int) : SetNames (ex49 p) := ⟨(show 1 ≤ maxLen by unfold maxLen;decide),(fun x hx => absurd hx List.not_mem_nil),(fun x hx => absurd hx List.not_mem_nil)⟩
def nA : ByteArray := ⟨#[97]⟩
def w1 : St := ⟨[ex49 500],[[]],[],0⟩
def w2 : St := ⟨[ex49 500],[[]],[ex49 500],1⟩
def w3 : St := ⟨[ex49 700],[[],[ex49 500]],[ex49 500],1⟩
def w4 : St := ⟨[ex49 700],[[],[ex49 500]],[ex49 500,ex49 700],2⟩
def w5 : St := ⟨[ex49 500],[[]],[ex49 500,ex49 700],2⟩
theorem e5_ok : setB (ex49 500) = true := by decide +kernel
theorem e7_ok : setB (ex49 700) = true := by decide +kernel
theorem t1 : putV st0 (ex49 500) = (0,w1) := by kernel_rfl
theorem t2 : linesSt w1 nA = w2 := by kernel_rfl
theorem t3 : putV w2 (ex49 700) = (0,w3) := by kernel_rfl
theorem t4 : linesSt w3 nA = w4 := by kernel_rfl
theorem t5 : undoSt w4 = (0,w5) := by kernel_rfl
theorem t6 : linesSt w5 nA = w5 := by kernel_rfl
theorem l1 : lnS w1 nA = ([⟨1000,1⟩,⟨1000,1⟩],0) := by decide +kernel
theorem l3 : lnS w3 nA = ([⟨1400,1⟩,⟨1400,1⟩],0) := by decide +kernel
theorem l5 : lnS w5 nA = ([⟨1000,1⟩,⟨1000,1⟩],0) := by decide +kernel
theorem own_chg {B b t s n : Nat} {v : Value} {xs : List Value} {w w' : World} (h : w.ownsRow b t s v n xs) (hc : ChgS B w w') (h1 : t ≠ 76) (h2 : t ≠ 66) : w'.ownsRow b t s v n xs :=
 own_same h fun g e => let ⟨cs,hg⟩ := own_type h e;hc.same g cs t (0,0) hg h1 h2
end Go.Proofs.YtbhmkcjddpniiaaGreatDoor

namespace Go.Proofs.YtbhmkcjddpniiaaGreatDoor
open Go.RowKit Go.Shelf
theorem ln_at {B D : Nat} {M : Nat → Prop} {st st' : St} {nm : ByteArray} {w w' : World} {e : Ending} {l : List FrT} {er : Int} (hp : StLinesPost B D M st nm w e w') (h1 : lnS st nm = (l,er)) (h2 : linesSt st nm = st') :
  ChgS B w w' ∧ ∃ M' r' A c,StoreAt w' B D M' st' r' ∧ e = .returned (.tuple #[.slice A l.length c,.int .i64 er]) ∧ w'.ownsRow w.heap.size 57 2 (.slice A l.length c) l.length (l.flatMap FrT.cells) := by
 obtain ⟨hc,M',r',v,hS,-,he,ho,-⟩ := hp
 rw [h2] at hS
 rw [h1] at he ho
 obtain ⟨A,c,rfl⟩ := own_formB ho
 exact ⟨hc,M',r',A,c,hS,he,ho⟩
theorem put_at {B D : Nat} {M : Nat → Prop} {o o' : Int × St} {w w' : World} {e : Ending} (hp : PutPost B D M o w e w') (h1 : o = o') : e = .returned (.int .i64 o'.1) ∧ ChgS B w w' ∧ ∃ M' r',StoreAt w' B D M' o'.2 r' := by
 subst h1
 obtain ⟨he,hc,M',r',hS,-⟩ := hp
 exact ⟨he,hc,M',r',hS⟩
theorem undo_at {B D : Nat} {M : Nat → Prop} {st : St} {o' : Int × St} {w w' : World} {e : Ending} (hp : UndoPost B D M st w e w') (h1 : undoSt st = o') : e = .returned (.int .i64 o'.1) ∧ ChgS B w w' ∧ ∃ r',StoreAt w' B D M o'.2 r' := by
 obtain ⟨he,hc,r',hS⟩ := hp
 rw [h1] at he hS
 exact ⟨he,hc,r',hS⟩
theorem ok_w1 : StOk w1 := by
 have h := StOk.put (st := st0) stOk_new e5_ok
 rw [show putSt st0 (ex49 500) = (0,w1) from (by kernel_rfl)] at h
 exact h
theorem ok_w2 : StOk w2 := by have := ok_w1.lines nA;rw [t2] at this;exact this
theorem ok_w3 : StOk w3 := by have := ok_w2.put e7_ok;rw [show putSt w2 (ex49 700) = (0,w3) from (by kernel_rfl)] at this;exact this
theorem ok_w4 : StOk w4 := by have := ok_w3.lines nA;rw [t4] at this;exact this
theorem ok_w5 : StOk w5 := by have := ok_w4.undo;rw [t5] at this;exact this
theorem own_two {w : World} {B c : Nat} {A : Option Addr} {x y : FrT} (h : w.ownsRow B 57 2 (.slice A 2 c) 2 ([x,y].flatMap FrT.cells)) : ∃ g,A = some ⟨g,0,none⟩ ∧ w.cell? ⟨g,0,none⟩ = some (.int .i64 x.num) ∧ w.cell? ⟨g,1,none⟩ = some (.int .i64 x.den) := by
 obtain ⟨g,cap,e⟩ := ownsRow_succ h
 injection e with e1 _ _
 subst e1
 have h0 := h.cells (g := g) (by simp [Value.ownBlock]) 0 _ rfl
 have h1 := h.cells (g := g) (by simp [Value.ownBlock]) 1 _ rfl
 rw [Addr.add_lit] at h0 h1
 exact ⟨g,rfl,h0,h1⟩
set_option maxRecDepth 100000 in
set_option maxHeartbeats 8000000 in
theorem lawAwake49 (w : World) (ht : Tab w) : Calls Tryz.prog 22 #[] w fun e w' => e = .returned (.bool true) ∧ Below w.heap.size w w' := by
 have HT := Lib.hid ht
 clear ht
 go_enter Tryz.func22,Tryz.ntmps22
 go_wp2_with fail
 refine (stNew w.heap.size w (Nat.le_refl _)).mono ?_
 rintro e W1 ⟨D,rfl,hb1,hS1⟩
 have HB1 := Lib.hid hb1
 have HS1 := Lib.hid hS1
 clear hb1 hS1
 go_wp2_with fail
 refine (lawExample49 500 W1).mono ?_
 rintro e W2 ⟨v2,rfl,hv2,hb2⟩
 have HS2 := Lib.hid (HS1.out.below hb2)
 have HB2 := Lib.hid (HB1.out.trans (hb2.mono HB1.out.size))
 have HP2 := (stPut w.heap.size D _ st0 r0 v2 (ex49 500) W2 HS2.out stOk_new hv2 (ex49_names 500) (by decide)).mono fun _ _ hp => put_at hp t1
 clear hb2 hv2 HS1 HB1
 go_wp2_with fail
 refine HP2.mono ?_
 rintro e W3 ⟨rfl,hc3,M3,r3,hS3⟩
 try dsimp only at hS3 ⊢
 have HS3 := Lib.hid hS3
 have HB3 := Lib.hid (HB2.out.trans hc3.bel)
 have HP3 := (stLines w.heap.size D M3 w1 r3 ⟨#[97]⟩ W3 hS3 ok_w1 (HT.out.below HB3.out) (by decide) (by decide)).mono fun _ _ hp => ln_at hp l1 t2
 clear hc3 hS3 HP2 HS2 HB2
 go_wp2_with fail
 refine HP3.mono ?_
 rintro e W4 ⟨hc4,M4,r4,Aa,ca,hS4,rfl,hoa⟩
 try dsimp only [List.length] at hoa ⊢
 have HS4 := Lib.hid hS4
 have HB4 := Lib.hid (HB3.out.trans hc4.bel)
 have HOa := Lib.hid hoa
 have hW4 := stWork w.heap.size D M4 w2 r4 W4 hS4
 rw [show ((w2.work : Nat) : Int) = 1 from rfl] at hW4
 clear hc4 hS4 HP3 HS3 HB3 hoa
 go_wp2_with fail
 refine hW4.mono ?_
 rintro e W4' ⟨rfl,rfl⟩
 go_wp2_with fail
 refine (lawExample49 700 W4).mono ?_
 rintro e W5 ⟨v5,rfl,hv5,hb5⟩
 have HS5 := Lib.hid (HS4.out.below hb5)
 have HB5 := Lib.hid (HB4.out.trans (hb5.mono HB4.out.size))
 have HO5 := Lib.hid (own_belowL HOa.out hb5)
 have HP5 := (stPut w.heap.size D _ w2 r4 v5 (ex49 700) W5 HS5.out ok_w2 hv5 (ex49_names 700) (by decide)).mono fun _ _ hp => put_at hp t3
 clear hb5 hv5 HS4 HB4 HOa hW4
 go_wp2_with fail
 refine HP5.mono ?_
 rintro e W6 ⟨rfl,hc6,M6,r6,hS6⟩
 try dsimp only at hS6 ⊢
 have HS6 := Lib.hid hS6
 have HB6 := Lib.hid (HB5.out.trans hc6.bel)
 have HO6 := Lib.hid (own_chg HO5.out hc6 (by decide) (by decide))
 have HP6 := (stLines w.heap.size D M6 w3 r6 ⟨#[97]⟩ W6 hS6 ok_w3 (HT.out.below HB6.out) (by decide) (by decide)).mono fun _ _ hp => ln_at hp l3 t4
 clear hc6 hS6 HP5 HS5 HB5 HO5
 go_wp2_with fail
 refine HP6.mono ?_
 rintro e W7 ⟨hc7,M7,r7,Ab,cb,hS7,rfl,hob⟩
 try dsimp only [List.length] at hob ⊢
 have HS7 := Lib.hid hS7
 have HB7 := Lib.hid (HB6.out.trans hc7.bel)
 have HO7 := Lib.hid (own_chg HO6.out hc7 (by decide) (by decide))
 have HOb := Lib.hid hob
 have hW7 := stWork w.heap.size D M7 w4 r7 W7 hS7
 rw [show ((w4.work : Nat) : Int) = 2 from rfl] at hW7
 have HP7 := (stUndo w.heap.size D M7 w4 r7 W7 hS7 (by decide)).mono fun _ _ (hp : UndoPost _ _ _ _ _ _ _) => undo_at hp t5
 clear hc7 hS7 HP6 HS6 HB6 hob HO6
 go_wp2_with fail
 refine hW7.mono ?_
 rintro e W7' ⟨rfl,rfl⟩
 go_wp2_with fail
 refine HP7.mono ?_
 rintro e W8 ⟨rfl,hc8,r8,hS8⟩
 try dsimp only at hS8 ⊢
 have HS8 := Lib.hid hS8
 have HB8 := Lib.hid (HB7.out.trans hc8.bel)
 have HO8 := Lib.hid (own_chg HO7.out hc8 (by decide) (by decide))
 have HOb8 := Lib.hid (own_chg HOb.out hc8 (by decide) (by decide))
 have HP8 := (stLines w.heap.size D M7 w5 r8 ⟨#[97]⟩ W8 hS8 ok_w5 (HT.out.below HB8.out) (by decide) (by decide)).mono fun _ _ hp => ln_at hp l5 t6
 clear hc8 hS8 HP7 HS7 HB7 HO7 HOb hW7
 go_wp2_with fail
 refine HP8.mono ?_
 rintro e W9 ⟨hc9,M9,r9,Ac,cc,hS9,rfl,hoc⟩
 try dsimp only [List.length] at hoc ⊢
 have HB9 := Lib.hid (HB8.out.trans hc9.bel)
 have HO9 := Lib.hid (own_chg HO8.out hc9 (by decide) (by decide))
 have HOb9 := Lib.hid (own_chg HOb8.out hc9 (by decide) (by decide))
 have hW9 := stWork w.heap.size D M9 w5 r9 W9 hS9
 rw [show ((w5.work : Nat) : Int) = 2 from rfl] at hW9
 have hEq := equalFrac _ _ [⟨1000,1⟩,⟨1000,1⟩] [⟨1000,1⟩,⟨1000,1⟩] W9.heap.size W9 (Flat.of_own HO9.out) (Flat.of_own hoc)
 rw [show decide (([⟨1000,1⟩,⟨1000,1⟩] : List FrT) = [⟨1000,1⟩,⟨1000,1⟩]) = true by simp] at hEq
 try dsimp only [List.length] at hEq
 obtain ⟨ga,rfl,ya0,ya1⟩ := own_two HO9.out
 obtain ⟨gb,rfl,yb0,yb1⟩ := own_two HOb9.out
 simp only at ya0 ya1 yb0 yb1
 clear hc9 hS9 HP8 HS8 HB8 HO8 HOb8 hoc HO9 HOb9
 go_wp2_with fail
 refine hW9.mono ?_
 rintro e W9' ⟨rfl,rfl⟩
 go_wp2_with fail
 refine hEq.mono ?_
 rintro e W10 ⟨rfl,nq,rfl⟩
 have HBz := Lib.hid (below_drewN HB9.out nq)
 clear HB9 hW9 hEq
 go_wp2_with fail
 go_ret
 exact ⟨rfl,HBz.out⟩
end Go.Proofs.YtbhmkcjddpniiaaGreatDoor

namespace Go.Proofs.YtbhmkcjddpniiaaGreatDoor
open Go.RowKit Go.Shelf
structure ActC where
 kind : Int
 c : SetC
def ActC.cells (a : ActC) : List Value := .int .i64 a.kind :: a.c.cells
def ActC.val (a : ActC) : Value := .agg a.cells.toArray
def ActsAt (w : World) (B : Nat) (v : Value) (L : List ActC) : Prop := Flat w B v L.length (L.flatMap ActC.cells) ∧ ∀ a ∈ L,SetAt w B a.c.val a.c.s ∧ SetNames a.c.s
theorem ActsAt.below {w w' : World} {B B' : Nat} {v : Value} {L : List ActC} (h : ActsAt w B v L) (hb : Below B' w w') (hB : B ≤ B') : ActsAt w' B v L := ⟨Flat.below h.1 hb hB,fun a ha => ⟨(h.2 a ha).1.below hb hB,(h.2 a ha).2⟩⟩
theorem ActsAt.mono {w : World} {B B' : Nat} {v : Value} {L : List ActC} (h : ActsAt w B v L) (hB : B ≤ B') : ActsAt w B' v L := ⟨Flat.mono h.1 hB,fun a ha => ⟨(h.2 a ha).1.mono hB,(h.2 a ha).2⟩⟩
def ActCells (w : World) (b off : Nat) (a : ActC) : Prop := ∀ (i : Nat) u,a.cells[i]? = some u → w.cell? ⟨b,off + i,none⟩ = some u
theorem ActsAt.open_ {w : World} {B : Nat} {v : Value} {L : List ActC} (h : ActsAt w B v L) : ∃ A c,v = .slice A L.length c ∧ L.length ≤ c ∧ c ≤ maxLen ∧ ∀ k (_ : k < L.length),∃ b off,A = some ⟨b,off,none⟩ ∧ b < B ∧ ∀ j (hj : j < L.length),ActCells w b (off + j * 14) L[j] := by
 obtain ⟨⟨A,c,h1,h2,h3,h4⟩,_⟩ := h
 refine ⟨A,c,h1,h2,h3,fun k hk => ?_⟩
 obtain ⟨b,off,e,hl,hc⟩ := h4 (by omega)
 refine ⟨b,off,e,hl,fun j hj i u hu => ?_⟩
 have hi : i < 14 := by
  have := (List.getElem?_eq_some_iff.1 hu).1
  simpa [ActC.cells,SetC.cells] using this
 rw [Nat.add_assoc]
 exact hc (j * 14 + i) u ((flatGet ActC.cells 14 (fun _ => rfl) L j i hj hi).trans hu)
def actS (st : St) (kind : Int) (x : SetT) : St :=
 if kind = 0 then (putV st x).2 else if kind = 1 then (dropSt st x.name).2 else if kind = 2 then (undoSt st).2 else if kind = 3 then linesSt st x.name else st
theorem StOk.putV {st : St} (h : StOk st) (x : SetT) : StOk (putV st x).2 := by
 unfold Go.Proofs.YtbhmkcjddpniiaaGreatDoor.putV
 split
 ·rename_i hx
  exact h.put hx
 ·exact h
theorem StOk.act {st : St} (h : StOk st) (kind : Int) (x : SetT) : StOk (actS st kind x) := by
 unfold actS
 split
 ·exact h.putV x
 ·split
  ·exact h.drop _
  ·split
   ·exact h.undo
   ·split
    ·exact h.lines _
    ·exact h
structure StSmall (st : St) (n : Nat) : Prop where
 past : st.past.length ≤ n
 known : st.known.length ≤ n
 work : st.work ≤ n
theorem StSmall.mono {st : St} {n m : Nat} (h : StSmall st n) (hm : n ≤ m) : StSmall st m := ⟨Nat.le_trans h.past hm,Nat.le_trans h.known hm,Nat.le_trans h.work hm⟩
theorem StSmall.put {st : St} {n : Nat} (h : StSmall st n) (x : SetT) : StSmall (putSt st x).2 (n + 1) := by
 unfold putSt
 cases idxS st.sets x.name with
 | some k =>
  dsimp only
  split
  ·exact h.mono (Nat.le_succ n)
  ·exact ⟨by rw [List.length_append];exact Nat.succ_le_succ h.past,Nat.le_succ_of_le h.known,Nat.le_succ_of_le h.work⟩
 | none =>
  dsimp only
  split
  ·exact h.mono (Nat.le_succ n)
  ·exact ⟨by rw [List.length_append];exact Nat.succ_le_succ h.past,Nat.le_succ_of_le h.known,Nat.le_succ_of_le h.work⟩
theorem StSmall.lines {st : St} {n : Nat} (h : StSmall st n) (nm : ByteArray) : StSmall (linesSt st nm) (n + 1) := by
 unfold linesSt
 cases idxS st.sets nm with
 | none => exact h.mono (Nat.le_succ n)
 | some k =>
  cases hk : st.sets[k]? with
  | none => simpa [hk] using h.mono (Nat.le_succ n)
  | some x =>
   simp only [hk]
   split
   ·exact h.mono (Nat.le_succ n)
   ·exact ⟨Nat.le_succ_of_le h.past,by rw [List.length_append];exact Nat.succ_le_succ h.known,Nat.succ_le_succ h.work⟩
theorem StSmall.act {st : St} {n : Nat} (h : StSmall st n) (kind : Int) (x : SetT) : StSmall (actS st kind x) (n + 1) := by
 unfold actS
 split
 ·unfold putV
  split
  ·exact h.put x
  ·exact h.mono (Nat.le_succ n)
 ·split
  ·unfold dropSt
   cases idxS st.sets x.name with
   | none => exact h.mono (Nat.le_succ n)
   | some k => exact ⟨by rw [List.length_append];exact Nat.succ_le_succ h.past,Nat.le_succ_of_le h.known,Nat.le_succ_of_le h.work⟩
  ·split
   ·unfold undoSt
    split
    ·exact h.mono (Nat.le_succ n)
    ·exact ⟨by rw [List.length_dropLast];exact Nat.le_trans (Nat.sub_le _ _) (Nat.le_succ_of_le h.past),Nat.le_succ_of_le h.known,Nat.le_succ_of_le h.work⟩
   ·split
    ·exact h.lines _
    ·exact h.mono (Nat.le_succ n)
def actsTo (L : List ActC) (k : Nat) : St := (L.take k).foldl (fun st a => actS st a.kind a.c.s) st0
theorem actsTo_succ {L : List ActC} {k : Nat} (hk : k < L.length) : actsTo L (k + 1) = actS (actsTo L k) L[k].kind L[k].c.s := by
 unfold actsTo
 rw [take_snoc L k hk,List.foldl_append]
 rfl
structure StLen (st : St) (n : Nat) : Prop where
 sets : st.sets.length ≤ n
 past : ∀ l ∈ st.past,l.length ≤ n
theorem StLen.mono {st : St} {n m : Nat} (h : StLen st n) (hm : n ≤ m) : StLen st m := ⟨Nat.le_trans h.sets hm,fun l hl => Nat.le_trans (h.past l hl) hm⟩
theorem StLen.step {st : St} {n : Nat} (h : StLen st n) {l : List SetT} (hl : l.length ≤ n + 1) (g : St) (e1 : g.sets = l) (e2 : g.past = st.past ++ [st.sets]) : StLen g (n + 1) := by
 refine ⟨by rw [e1];exact hl,fun l' hl' => ?_⟩
 rw [e2] at hl'
 rcases List.mem_append.1 hl' with h1 | h1
 ·exact Nat.le_succ_of_le (h.past l' h1)
 ·rw [List.mem_singleton.1 h1];exact Nat.le_succ_of_le h.sets
theorem StLen.put {st : St} {n : Nat} (h : StLen st n) (x : SetT) : StLen (putSt st x).2 (n + 1) := by
 unfold putSt
 cases idxS st.sets x.name with
 | some k =>
  dsimp only
  split
  ·exact h.mono (Nat.le_succ n)
  ·exact h.step (l := st.sets.set k x) (by rw [List.length_set];exact Nat.le_succ_of_le h.sets) _ rfl rfl
 | none =>
  dsimp only
  split
  ·exact h.mono (Nat.le_succ n)
  ·exact h.step (l := st.sets ++ [x]) (by rw [List.length_append];exact Nat.succ_le_succ h.sets) _ rfl rfl
theorem StLen.lines {st : St} {n : Nat} (h : StLen st n) (nm : ByteArray) : StLen (linesSt st nm) (n + 1) := by
 unfold linesSt
 cases idxS st.sets nm with
 | none => exact h.mono (Nat.le_succ n)
 | some k =>
  cases hk : st.sets[k]? with
  | none => simpa [hk] using h.mono (Nat.le_succ n)
  | some x =>
   simp only [hk]
   split
   ·exact h.mono (Nat.le_succ n)
   ·exact ⟨Nat.le_succ_of_le h.sets,fun l hl => Nat.le_succ_of_le (h.past l hl)⟩
theorem StLen.act {st : St} {n : Nat} (h : StLen st n) (kind : Int) (x : SetT) : StLen (actS st kind x) (n + 1) := by
 unfold actS
 split
 ·unfold putV
  split
  ·exact h.put x
  ·exact h.mono (Nat.le_succ n)
 ·split
  ·unfold dropSt
   cases idxS st.sets x.name with
   | none => exact h.mono (Nat.le_succ n)
   | some k => exact h.step (l := st.sets.eraseIdx k) (Nat.le_trans (List.length_eraseIdx_le ..) (Nat.le_succ_of_le h.sets)) _ rfl rfl
  ·split
   ·unfold undoSt
    split
    ·exact h.mono (Nat.le_succ n)
    ·rename_i hp
     refine ⟨?_,fun l hl => Nat.le_succ_of_le (h.past l (List.dropLast_subset _ hl))⟩
     have e : st.past.getLastD [] = st.past.getLast hp := by
      rw [List.getLastD_eq_getLast?,List.getLast?_eq_some_getLast hp]
      rfl
     show (st.past.getLastD []).length ≤ n + 1
     rw [e]
     exact Nat.le_succ_of_le (h.past _ (List.getLast_mem hp))
   ·split
    ·exact h.lines _
    ·exact h.mono (Nat.le_succ n)
theorem actsTo_ok (L : List ActC) : ∀ k,k ≤ L.length → StOk (actsTo L k) ∧ StSmall (actsTo L k) k ∧ StLen (actsTo L k) k
 | 0,_ => by
  have e : actsTo L 0 = st0 := by unfold actsTo;rw [List.take_zero];rfl
  rw [e]
  exact ⟨stOk_new,⟨Nat.le_refl _,Nat.le_refl _,Nat.le_refl _⟩,⟨Nat.le_refl _,fun l hl => nomatch hl⟩⟩
 | k + 1,hk => by
  obtain ⟨h1,h2,h3⟩ := actsTo_ok L k (by omega)
  rw [actsTo_succ (by omega : k < L.length)]
  exact ⟨h1.act _ _,h2.act _ _,h3.act _ _⟩
end Go.Proofs.YtbhmkcjddpniiaaGreatDoor

namespace Go.Proofs.YtbhmkcjddpniiaaGreatDoor
open Go.RowKit Go.Shelf
set_option maxRecDepth 100000 in
set_option maxHeartbeats 2000000 in
theorem indexFuncAct (v : Value) (l : List ActC) (K : Nat) (C : Array Value) (eg : ∀ args w,(callFunc K args).run Tryz.prog w = .ok (.enter K args) w) (w : World) (hl : ActsAt w w.heap.size v l)
  (hf : ∀ t ∈ l,∀ w',Below w.heap.size w w' → Calls Tryz.prog K (#[t.val] ++ C) w' (AnsB w')) :
  Calls Tryz.prog 147 #[v,.func (.func K) #[] C] w fun e w' => (∃ z : Int,e = .returned (.int .i64 z)) ∧ Below w.heap.size w w' := by
 obtain ⟨A,c,rfl,hc1,hc2,hcell⟩ := hl.open_
 unfold maxLen at hc2
 have HF := Lib.hid hf
 have HC := Lib.hid hcell
 clear hf hcell
 go_enter Tryz.func147,Tryz.ntmps147
 go_wp2
 go_loopw [8] (fun x wr => ∃ j : Nat,j ≤ l.length ∧ x = .int .i64 j ∧ Below w.heap.size w wr) (fun x _ => l.length - (intOf x).toNat)
 case atStart => exact ⟨0,Nat.zero_le _,rfl,Below.refl _ _⟩
 case round =>
  obtain ⟨j,hj,rfl,hbel⟩ := hrel
  by_cases hlt : j < l.length
  ·obtain ⟨b,off,rfl,hb,hcell⟩ := HC.out j hlt
   have h0 := (hbel.cell (p := ⟨b,off + j * 14,none⟩) hb).trans (hcell j hlt 0 _ rfl)
   have h1 := (hbel.cell (p := ⟨b,off + j * 14 + 1,none⟩) hb).trans (hcell j hlt 1 _ rfl)
   have h2 := (hbel.cell (p := ⟨b,off + j * 14 + 2,none⟩) hb).trans (hcell j hlt 2 _ rfl)
   have h3 := (hbel.cell (p := ⟨b,off + j * 14 + 3,none⟩) hb).trans (hcell j hlt 3 _ rfl)
   have h4 := (hbel.cell (p := ⟨b,off + j * 14 + 4,none⟩) hb).trans (hcell j hlt 4 _ rfl)
   have h5 := (hbel.cell (p := ⟨b,off + j * 14 + 5,none⟩) hb).trans (hcell j hlt 5 _ rfl)
   have h6 := (hbel.cell (p := ⟨b,off + j * 14 + 6,none⟩) hb).trans (hcell j hlt 6 _ rfl)
   have h7 := (hbel.cell (p := ⟨b,off + j * 14 + 7,none⟩) hb).trans (hcell j hlt 7 _ rfl)
   have h8 := (hbel.cell (p := ⟨b,off + j * 14 + 8,none⟩) hb).trans (hcell j hlt 8 _ rfl)
   have h9 := (hbel.cell (p := ⟨b,off + j * 14 + 9,none⟩) hb).trans (hcell j hlt 9 _ rfl)
   have h10 := (hbel.cell (p := ⟨b,off + j * 14 + 10,none⟩) hb).trans (hcell j hlt 10 _ rfl)
   have h11 := (hbel.cell (p := ⟨b,off + j * 14 + 11,none⟩) hb).trans (hcell j hlt 11 _ rfl)
   have h12 := (hbel.cell (p := ⟨b,off + j * 14 + 12,none⟩) hb).trans (hcell j hlt 12 _ rfl)
   have h13 := (hbel.cell (p := ⟨b,off + j * 14 + 13,none⟩) hb).trans (hcell j hlt 13 _ rfl)
   clear hcell
   have hcall := HF.out l[j] (List.getElem_mem hlt)
   generalize l[j] = t at *
   go_wp2_with (go_at_fn K;refine (hcall _ hbel).mono ?_;rintro e w' ⟨q,rfl,hb'⟩)
   ·go_ret
    exact ⟨⟨_,rfl⟩,hbel.trans (hb'.mono hbel.size)⟩
   ·go_roundw
    case rel => exact ⟨j + 1,by omega,by go_num,hbel.trans (hb'.mono hbel.size)⟩
    case measure => simp [intOf];omega
  ·have hje : j = l.length := by omega
   subst hje
   go_wp2
   go_ret
   exact ⟨⟨_,rfl⟩,hbel⟩
set_option maxRecDepth 100000 in
set_option maxHeartbeats 1000000 in
theorem containsFuncAct (v : Value) (l : List ActC) (K : Nat) (C : Array Value) (eg : ∀ args w,(callFunc K args).run Tryz.prog w = .ok (.enter K args) w) (w : World) (hl : ActsAt w w.heap.size v l)
  (hf : ∀ t ∈ l,∀ w',Below w.heap.size w w' → Calls Tryz.prog K (#[t.val] ++ C) w' (AnsB w')) :
  Calls Tryz.prog 87 #[v,.func (.func K) #[] C] w (AnsB w) := by
 have hI := indexFuncAct v l K C eg w hl hf
 obtain ⟨A,c,rfl,-⟩ := hl.open_
 clear hl hf
 go_enter Tryz.func87,Tryz.ntmps87
 go_wp2_with fail
 refine hI.mono ?_
 rintro e w2 ⟨⟨z,rfl⟩,hb2⟩
 go_wp2_with fail
 go_ret
 exact ⟨_,rfl,hb2⟩
theorem entersLarge1 : ∀ args w,(callFunc 88 args).run Tryz.prog w = .ok (.enter 88 args) w := enters_of Tryz.func88 (by kernel_rfl) rfl
set_option maxRecDepth 100000 in
set_option maxHeartbeats 1000000 in
theorem large1_49 (a : ActC) (w : World) (hs : SetAt w w.heap.size a.c.val a.c.s) (hn : SetNames a.c.s) : Calls Tryz.prog 88 (#[a.val] ++ #[]) w (AnsB w) := by
 obtain ⟨k,s,al,cl,ai,ci,ab,cb⟩ := a
 show Calls Tryz.prog 88 #[.agg #[.int .i64 k,.string s.name,.int .i64 s.depth,.int .i64 s.low,.int .i64 s.high,.int .i64 s.len,.slice al s.lines.length cl,.int .i64 s.pipe,.int .i64 s.arbor,.int .i64 s.purch,.int .i64 s.most,.int .i64 s.brake,.slice ai s.items.length ci,.slice ab s.bricks.length cb]] w (AnsB w)
 have HB := Lib.hid ((Below.refl _ w).alloc (Nat.le_refl _) (.cells #[.int .i64 k,.string s.name,.int .i64 s.depth,.int .i64 s.low,.int .i64 s.high,.int .i64 s.len,.slice al s.lines.length cl,.int .i64 s.pipe,.int .i64 s.arbor,.int .i64 s.purch,.int .i64 s.most,.int .i64 s.brake,.slice ai s.items.length ci,.slice ab s.bricks.length cb] 71))
 have hS := refSmall (setVal s al cl ai ci ab cb) s 6 _ ((hs.below HB.out (Nat.le_refl _)).mono HB.out.size) hn.name hn.items hn.bricks
 clear hs hn
 go_enter Tryz.func88,Tryz.ntmps88
 go_wp2_with fail
 refine hS.mono ?_
 rintro e w2 ⟨q,rfl,hb2⟩
 have hb := HB.out.trans (hb2.mono HB.out.size)
 go_wp2_with fail
 go_ret
 exact ⟨_,rfl,hb⟩
set_option maxRecDepth 100000 in
set_option maxHeartbeats 1000000 in
theorem large49 (v : Value) (l : List ActC) (w : World) (hl : ActsAt w w.heap.size v l) : Calls Tryz.prog 35 #[v] w fun e w' => ∃ q : Bool,e = .returned (.bool q) ∧ Below w.heap.size w w' ∧ (q = false → l.length ≤ 12) := by
 have hC := containsFuncAct v l 88 #[] entersLarge1 w hl fun t ht w' hb => large1_49 t w' (((hl.2 t ht).1.below hb (Nat.le_refl _)).mono hb.size) (hl.2 t ht).2
 obtain ⟨A,c,rfl,-⟩ := hl.open_
 clear hl
 by_cases h12 : 12 < (l.length : Int)
 ·have d : decide (12 < (l.length : Int)) = true := decide_eq_true h12
  go_enter Tryz.func35,Tryz.ntmps35
  go_wp2_with fail
  go_ret
  exact ⟨true,rfl,Below.refl _ _,fun h => nomatch h⟩
 ·have d : decide (12 < (l.length : Int)) = false := decide_eq_false h12
  have HL : Hid (l.length ≤ 12) := Lib.hid (by omega)
  go_enter Tryz.func35,Tryz.ntmps35
  go_wp2_with fail
  refine hC.mono ?_
  rintro e w2 ⟨q,rfl,hb2⟩
  go_wp2_with fail
  go_ret
  exact ⟨q,rfl,hb2,fun _ => HL.out⟩
def ActPost (B D : Nat) (M : Nat → Prop) (st : St) (w : World) (w' : World) : Prop :=
 ChgS B w w' ∧ ∃ M' r',StoreAt w' B D M' st r' ∧ ∀ g,M' g → M g ∨ w.heap.size ≤ g
theorem kinds (k : Int) : (k = 0 ∨ k ≠ 0 ∧ k = 1) ∨ (k ≠ 0 ∧ k ≠ 1 ∧ k = 2) ∨ (k ≠ 0 ∧ k ≠ 1 ∧ k ≠ 2 ∧ k = 3) ∨ (k ≠ 0 ∧ k ≠ 1 ∧ k ≠ 2 ∧ k ≠ 3) := by omega
theorem act0 {st : St} {k : Int} {x : SetT} (h : k = 0) : actS st k x = (putV st x).2 := by unfold actS;rw [if_pos h]
theorem act1 {st : St} {k : Int} {x : SetT} (h : k = 1) : actS st k x = (dropSt st x.name).2 := by subst h;rfl
theorem act2 {st : St} {k : Int} {x : SetT} (h : k = 2) : actS st k x = (undoSt st).2 := by subst h;rfl
theorem act3 {st : St} {k : Int} {x : SetT} (h : k = 3) : actS st k x = linesSt st x.name := by subst h;rfl
theorem act4 {st : St} {k : Int} {x : SetT} (h0 : k ≠ 0) (h1 : k ≠ 1) (h2 : k ≠ 2) (h3 : k ≠ 3) : actS st k x = st := by unfold actS;rw [if_neg h0,if_neg h1,if_neg h2,if_neg h3]
theorem act_after {B D : Nat} {M : Nat → Prop} {st : St} {w W w' : World} (hb : Below w.heap.size w W) (hB : B ≤ w.heap.size) (h : ActPost B D M st W w') : ActPost B D M st w w' := by
 obtain ⟨hc,M',r',hS,hM⟩ := h
 exact ⟨(ChgS.of_below hb hB).trans hc,M',r',hS,fun g hg => (hM g hg).imp id (Nat.le_trans hb.size)⟩
theorem act_put {B D : Nat} {M : Nat → Prop} {o : Int × St} {w w' : World} {e : Ending} (h : PutPost B D M o w e w') : e = .returned (.int .i64 o.1) ∧ ActPost B D M o.2 w w' := ⟨h.1,h.2.1,h.2.2⟩
theorem act_undo {B D : Nat} {M : Nat → Prop} {st : St} {w w' : World} {e : Ending} (h : UndoPost B D M st w e w') : e = .returned (.int .i64 (undoSt st).1) ∧ ActPost B D M (undoSt st).2 w w' := by
 obtain ⟨h1,h2,r',h3⟩ := h
 exact ⟨h1,h2,M,r',h3,fun _ hg => .inl hg⟩
theorem act_lines {B D : Nat} {M : Nat → Prop} {st : St} {nm : ByteArray} {w w' : World} {e : Ending} (h : StLinesPost B D M st nm w e w') : (∃ v,e = .returned (.tuple #[v,.int .i64 (lnS st nm).2])) ∧ ActPost B D M (linesSt st nm) w w' := by
 obtain ⟨h1,M',r',v,h2,h3,h4,-⟩ := h
 exact ⟨⟨v,h4⟩,h1,M',r',h2,h3⟩
theorem act_stay {B D : Nat} {M : Nat → Prop} {st : St} {r : StR} {w : World} (h : StoreAt w B D M st r) : ActPost B D M st w w := ⟨ChgS.refl _ _,M,r,h,fun _ hg => .inl hg⟩
set_option maxRecDepth 100000 in
set_option maxHeartbeats 2000000 in
theorem plain49 (B D : Nat) (M : Nat → Prop) (st : St) (r : StR) (a : ActC) (w : World) (h : StoreAt w B D M st r) (hok : StOk st) (ht : Tab w) (hs : SetAt w w.heap.size a.c.val a.c.s) (hn : SetNames a.c.s) (hsm : StSmall st 1000) :
  Calls Tryz.prog 43 #[.pointer (some ⟨D,0,none⟩),a.val] w fun e w' => e = .returned (.tuple #[]) ∧ ActPost B D M (actS st a.kind a.c.s) w w' := by
 obtain ⟨k,s,al,cl,ai,ci,ab,cb⟩ := a
 show Calls Tryz.prog 43 #[.pointer (some ⟨D,0,none⟩),.agg #[.int .i64 k,.string s.name,.int .i64 s.depth,.int .i64 s.low,.int .i64 s.high,.int .i64 s.len,.slice al s.lines.length cl,.int .i64 s.pipe,.int .i64 s.arbor,.int .i64 s.purch,.int .i64 s.most,.int .i64 s.brake,.slice ai s.items.length ci,.slice ab s.bricks.length cb]] w fun e w' => e = .returned (.tuple #[]) ∧ ActPost B D M (actS st k s) w w'
 have HB := Lib.hid ((Below.refl _ w).alloc (Nat.le_refl _) (.cells #[.int .i64 k,.string s.name,.int .i64 s.depth,.int .i64 s.low,.int .i64 s.high,.int .i64 s.len,.slice al s.lines.length cl,.int .i64 s.pipe,.int .i64 s.arbor,.int .i64 s.purch,.int .i64 s.most,.int .i64 s.brake,.slice ai s.items.length ci,.slice ab s.bricks.length cb] 71))
 have HBB := Lib.hid (Nat.le_trans h.base (Nat.le_of_lt h.blk.lt))
 have HS := Lib.hid (h.below HB.out)
 have hp1 : st.past.length ≤ 1000 := hsm.past
 have HP := Lib.hid ((stPut B D M st r (setVal s al cl ai ci ab cb) s _ HS.out hok ((hs.below HB.out (Nat.le_refl _)).mono HB.out.size) hn hp1).mono fun _ _ hp => act_put hp)
 have HD := Lib.hid ((stDrop B D M st r s.name _ HS.out hok hp1).mono fun _ _ hp => act_put hp)
 have HU := Lib.hid ((stUndo B D M st r _ HS.out hp1).mono fun _ _ hp => act_undo hp)
 have HL := Lib.hid ((stLines B D M st r s.name _ HS.out hok (ht.below HB.out) (Nat.le_trans hsm.work (by decide)) (Nat.le_trans hsm.known (by decide))).mono fun _ _ hp => act_lines hp)
 clear h hok ht hs hn hsm hp1
 rcases kinds k with (hk | ⟨h0,hk⟩) | ⟨h0,h1,hk⟩ | ⟨h0,h1,h2,hk⟩ | ⟨h0,h1,h2,h3⟩
 ·rw [act0 hk]
  subst hk
  have hP := HP.out
  clear HP HD HU HL
  go_enter Tryz.func43,Tryz.ntmps43
  go_wp2_with fail
  refine hP.mono ?_
  rintro e w2 ⟨rfl,hq⟩
  go_wp2_with fail
  refine bodyPost_end (results_none rfl _ _ _) rfl ?_
  exact ⟨rfl,act_after HB.out HBB.out hq⟩
 ·rw [act1 hk]
  subst hk
  have hP := HD.out
  clear HP HD HU HL
  go_enter Tryz.func43,Tryz.ntmps43
  go_wp2_with fail
  refine hP.mono ?_
  rintro e w2 ⟨rfl,hq⟩
  go_wp2_with fail
  refine bodyPost_end (results_none rfl _ _ _) rfl ?_
  exact ⟨rfl,act_after HB.out HBB.out hq⟩
 ·rw [act2 hk]
  subst hk
  have hP := HU.out
  clear HP HD HU HL
  go_enter Tryz.func43,Tryz.ntmps43
  go_wp2_with fail
  refine hP.mono ?_
  rintro e w2 ⟨rfl,hq⟩
  go_wp2_with fail
  refine bodyPost_end (results_none rfl _ _ _) rfl ?_
  exact ⟨rfl,act_after HB.out HBB.out hq⟩
 ·rw [act3 hk]
  subst hk
  have hP := HL.out
  clear HP HD HU HL
  go_enter Tryz.func43,Tryz.ntmps43
  go_wp2_with fail
  refine hP.mono ?_
  rintro e w2 ⟨⟨v,rfl⟩,hq⟩
  go_wp2_with fail
  refine bodyPost_end (results_none rfl _ _ _) rfl ?_
  exact ⟨rfl,act_after HB.out HBB.out hq⟩
 ·rw [act4 h0 h1 h2 h3]
  have b0 : (k == 0) = false := by simpa using h0
  have b1 : (k == 1) = false := by simpa using h1
  have b2 : (k == 2) = false := by simpa using h2
  have b3 : (k == 3) = false := by simpa using h3
  clear HP HD HU HL h0 h1 h2 h3
  go_enter Tryz.func43,Tryz.ntmps43
  go_wp2_with fail
  refine bodyPost_end (results_none rfl _ _ _) rfl ?_
  exact ⟨rfl,act_after HB.out HBB.out (act_stay HS.out)⟩
end Go.Proofs.YtbhmkcjddpniiaaGreatDoor
