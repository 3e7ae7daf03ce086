/- Parts of the proof, laid into one text: UndoneP, Saved, RefSame21. -/
import Derived.BigQuiet
import Derived.Deep.AppendLies
import Derived.Deep.Cut
import Derived.Deep.Draws
import Derived.Deep.LoopGhost
import Derived.Deep.MidRow
import Derived.Deep.QuietTactic
import Derived.Deep.RegionHeld3
import Derived.Deep.RegionLaw
import Derived.IntWalk
import Derived.Laws.Bits64b
import Derived.Laws.Concat
import Derived.Laws.EntriesVeiled
import Derived.Lib.AppendIntMem
import Derived.Lib.Hide
import Derived.Lib.ItoaLen
import Derived.Lib.ItoaMem
import Derived.Lib.Join
import Derived.Lib.SliceRun
import Derived.Lib.SmallJoins
import Derived.LoopIn
import Derived.LoopNIn
import Derived.Maps.AppendAt
import Derived.Maps.Own
import Derived.Maps.OwnOps
import Derived.Maps.OwnSet
import Derived.Maps.Views
import Derived.Outline
import Derived.OwnWalkIn
import Derived.PlainAid
import Derived.RangeFuncBox
import Derived.RangeFuncLeaves
import Derived.Shelf.Abstract
import Derived.Shelf.Bits.Mul64
import Derived.Shelf.Strconv.Itoa3
import Derived.Shelf.Strings.Count
import Derived.Shelf.Strings.OnBuilder
import Derived.Shelf.Strings.Prefix
import Derived.StillTail
import Derived.StillTailTactics
import Derived.TacticsInMore
import Derived.Test.YtbhmkcjddpniiaaGreatDoorC1
import Derived.Test.YtbhmkcjddpniiaaGreatDoorC2
import Derived.Test.YtbhmkcjddpniiaaGreatDoorC3
import Derived.Test.YtbhmkcjddpniiaaGreatDoorC4
import Derived.Test.YtbhmkcjddpniiaaGreatDoorC5
import Derived.Test.YtbhmkcjddpniiaaGreatDoorC6
import Derived.Test.YtbhmkcjddpniiaaGreatDoorC7
import Derived.Test.YtbhmkcjddpniiaaGreatDoorD1
import Derived.Test.YtbhmkcjddpniiaaGreatDoorD2
import Derived.Test.YtbhmkcjddpniiaaGreatDoorD3
import Derived.Test.YtbhmkcjddpniiaaGreatDoorD4
import Derived.Test.YtbhmkcjddpniiaaGreatDoorD5
import Derived.Test.YtbhmkcjddpniiaaGreatDoorD6
import Derived.Test.YtbhmkcjddpniiaaGreatDoorD9
import Derived.Test.YtbhmkcjddpniiaaGreatDoorG1
import Derived.Test.YtbhmkcjddpniiaaGreatDoorI1
import Derived.Test.YtbhmkcjddpniiaaGreatDoorI10
import Derived.Test.YtbhmkcjddpniiaaGreatDoorI2
import Derived.Test.YtbhmkcjddpniiaaGreatDoorI3
import Derived.Test.YtbhmkcjddpniiaaGreatDoorI6
import Derived.Test.YtbhmkcjddpniiaaGreatDoorI7
import Derived.Test.YtbhmkcjddpniiaaGreatDoorI8
import Derived.Test.YtbhmkcjddpniiaaGreatDoorI9
import Derived.Test.YtbhmkcjddpniiaaGreatDoorProg
import Derived.WalkKit
import Derived.WalkLawsBesides
import Derived.WalkSpells

namespace Go.Proofs.YtbhmkcjddpniiaaGreatDoor
open Go.RowKit Go.Shelf
def Und (S : List SetT) (P : List (List SetT)) (st : St) (k : Nat) : Prop := ∃ E,E.length = k ∧ st.past = P ++ E ∧ (E ++ [st.sets]).head? = some S
theorem Und.same {S : List SetT} {P : List (List SetT)} {st st' : St} {k : Nat} (h : Und S P st k) (h1 : st'.sets = st.sets) (h2 : st'.past = st.past) : Und S P st' k := by
 obtain ⟨E,e1,e2,e3⟩ := h
 exact ⟨E,e1,by rw [h2];exact e2,by rw [h1];exact e3⟩
theorem Und.step {S : List SetT} {P : List (List SetT)} {st st' : St} {k : Nat} (h : Und S P st k) (h2 : st'.past = st.past ++ [st.sets]) : Und S P st' (k + 1) := by
 obtain ⟨E,e1,e2,e3⟩ := h
 refine ⟨E ++ [st.sets],by rw [List.length_append,e1];rfl,by rw [h2,e2,List.append_assoc],?_⟩
 rw [List.head?_append,e3]
 rfl
theorem Und.undo {S : List SetT} {P : List (List SetT)} {st : St} {k : Nat} (h : Und S P st (k + 1)) : (undoSt st).1 = 0 ∧ Und S P (undoSt st).2 k ∧ (undoSt st).2.known = st.known := by
 obtain ⟨E,e1,e2,e3⟩ := h
 rcases List.eq_nil_or_concat E with h0 | ⟨E',s',hE⟩
 ·rw [h0] at e1;exact absurd e1 (by simp)
 ·rw [List.concat_eq_append] at hE
  subst hE
  have hp : st.past ≠ [] := by rw [e2];simp
  unfold undoSt
  rw [if_neg hp]
  refine ⟨rfl,⟨E',by simpa using e1,?_,?_⟩,rfl⟩
  ·show st.past.dropLast = _
   rw [e2,← List.append_assoc,List.dropLast_concat]
  ·show (E' ++ [st.past.getLastD []]).head? = some S
   rw [e2,← List.append_assoc,List.getLastD_eq_getLast?,List.getLast?_concat]
   rw [List.head?_append] at e3
   have hne : (E' ++ [s']).head? ≠ none := by simp
   cases hq : (E' ++ [s']).head? with
   | none => exact absurd hq hne
   | some y => rw [hq] at e3;simpa [hq] using e3
theorem idxS_self {l : List SetT} (h : (l.map SetT.name).Nodup) {j : Nat} (hj : j < l.length) : idxS l l[j].name = some j := by
 cases hi : idxS l l[j].name with
 | none => exact absurd rfl (idxS_none hi _ (List.getElem_mem hj))
 | some k =>
  obtain ⟨hk,hn,_⟩ := idxS_some hi
  have e : k = j := by
   have hk' : k < (l.map SetT.name).length := by simpa using hk
   have hj' : j < (l.map SetT.name).length := by simpa using hj
   have hp := List.pairwise_iff_getElem.1 h
   rcases Nat.lt_trichotomy k j with hlt | he | hlt
   ·exact absurd (by simpa using hn) (hp k j hk' hj' hlt)
   ·exact he
   ·exact absurd (by simpa using hn.symm) (hp j k hj' hk' hlt)
  rw [e]
theorem getS_self {st : St} (h : StOk st) {j : Nat} (hj : j < st.sets.length) : getS st st.sets[j].name = (st.sets[j],0) := by
 unfold getS
 rw [idxS_self h.nodup hj]
 simp [List.getD_eq_getElem?_getD,List.getElem?_eq_getElem hj]
end Go.Proofs.YtbhmkcjddpniiaaGreatDoor

namespace Go.Proofs.YtbhmkcjddpniiaaGreatDoor
open Go.RowKit Go.Shelf
structure SavedAt (w : World) (B : Nat) (M : Nat → Prop) (sv : Value) (LS : List SetC) : Prop where
 own : w.ownsRow B 26 13 sv LS.length (LS.flatMap SetC.cells)
 sets : ∀ c ∈ LS,OwnC w B c
 out : ∀ g,sv.ownBlock = some g → ¬ M g
section
variable {w w' : World} {B B' D : Nat} {M M' : Nat → Prop} {sv : Value} {LS : List SetC} {st : St} {r : StR}
theorem SavedAt.nil : SavedAt w B M (.slice none 0 0) [] := ⟨World.ownsRow_nil _ _ _ _,(fun _ h => nomatch h),fun _ e => by simp [Value.ownBlock] at e⟩
theorem SavedAt.chg (h : SavedAt w B M sv LS) (hc : ChgS B' w w') (hM : ∀ g,M' g → M g ∨ w.heap.size ≤ g) : SavedAt w' B M' sv LS :=
 ⟨own_chg h.own hc (by decide) (by decide),fun c hcm => (h.sets c hcm).chg hc,fun g e hg => (hM g hg).elim (h.out g e) fun hg => absurd (h.own.lt g e).2 (by omega)⟩
theorem SavedAt.below (h : SavedAt w B M sv LS) (hb : Below w.heap.size w w') (hB : B ≤ w.heap.size) : SavedAt w' B M sv LS := h.chg (ChgS.of_below hb hB) fun _ hg => .inl hg
theorem set_row {v u : Value} {t s n m b : Nat} {xs ys : List Value} (h : w.ownsRow B 26 13 v n xs) (hg : w.grownBy w' v.ownBlock) (hk : w.ownsRow b t s u m ys) (ht : t ≠ 26) : w'.ownsRow b t s u m ys := by
 refine hk.kept hg ?_
 rcases Classical.em (v.ownBlock = none) with e | e
 ·rw [e]
  exact Classical.em _
 ·obtain ⟨g,eg⟩ := Option.ne_none_iff_exists'.1 e
  obtain ⟨cs',hcs⟩ := own_type h eg
  rw [eg]
  exact own_not hk (cs := cs') hcs (Ne.symm ht)
theorem SavedAt.push {g n cap H : Nat} {c : SetC} (h : SavedAt w B M sv LS) (hc : OwnC w B c) (hn : n = LS.length) (hlt : ∀ g,M g → g < H) (hH : H ≤ w.heap.size) (ho : w'.ownsRow B 26 13 (.slice (some ⟨g,0,none⟩) (n + 1) cap) (n + 1) (LS.flatMap SetC.cells ++ c.cells)) (hg : w.grownBy w' sv.ownBlock) (hgg : sv.ownBlock = some g ∨ g = w.heap.size) :
  SavedAt w' B M (.slice (some ⟨g,0,none⟩) (n + 1) cap) (LS ++ [c]) := by
 subst hn
 refine ⟨?_,fun x hx => ?_,fun g' e hM => ?_⟩
 ·rw [List.length_append,List.flatMap_append,List.flatMap_cons,List.flatMap_nil,List.append_nil]
  exact ho
 ·have h1 : OwnC w B x := by
   rcases List.mem_append.1 hx with hx | hx
   ·exact h.sets x hx
   ·rw [List.mem_singleton] at hx
    subst hx
    exact hc
  exact ⟨set_row h.own hg h1.1 (by decide),set_row h.own hg h1.2.1 (by decide),set_row h.own hg h1.2.2 (by decide)⟩
 ·obtain rfl : g = g' := by simpa [Value.ownBlock] using e
  rcases hgg with hgg | hgg
  ·exact h.out g hgg hM
  ·have := hlt g hM
   omega
theorem SavedAt.open_ (h : SavedAt w B M sv LS) : ∃ A cap,sv = .slice A LS.length cap ∧ ∀ j (hj : j < LS.length),∃ b off,A = some ⟨b,off,none⟩ ∧ b < w.heap.size ∧ SetCells w b (off + j * 13) LS[j] := by
 obtain ⟨A,c,e,h1,h2,h3⟩ := Flat.of_own h.own
 refine ⟨A,c,e,fun j hj => ?_⟩
 obtain ⟨b,off,e,hl,hcl⟩ := h3 (by omega)
 refine ⟨b,off,e,hl,fun i u hu => ?_⟩
 have hi : i < 13 := by
  have := (List.getElem?_eq_some_iff.1 hu).1
  simpa [SetC.cells] using this
 rw [Nat.add_assoc]
 exact hcl (j * 13 + i) u ((flatGet SetC.cells 13 (fun _ => rfl) LS j i hj hi).trans hu)
end
section
variable {w w' : World} {B b D : Nat} {M : Nat → Prop} {e : TypeId} {k n : Nat} {v : Value} {xs : List Value} {st : St} {r : StR} {sv : Value} {LS : List SetC} {c : SetC}
theorem row_row {t : TypeId} {s m : Nat} {u : Value} {ys : List Value} (h : w.ownsRow B e k v n xs) (hg : w.grownBy w' v.ownBlock) (hk : w.ownsRow b t s u m ys) (ht : t ≠ e) : w'.ownsRow b t s u m ys := by
 refine hk.kept hg ?_
 rcases Classical.em (v.ownBlock = none) with e0 | e0
 ·rw [e0]
  exact Classical.em _
 ·obtain ⟨g,eg⟩ := Option.ne_none_iff_exists'.1 e0
  obtain ⟨cs',hcs⟩ := own_type h eg
  rw [eg]
  exact own_not hk (cs := cs') hcs (Ne.symm ht)
theorem blk_row {t : TypeId} {g : Nat} {cs : Array Value} (h : w.ownsRow B e k v n xs) (hg : w.grownBy w' v.ownBlock) (hb : Blk w g t cs) (ht : t ≠ e) : Blk w' g t cs := hb.kept hg (hb.ne_own h (Ne.symm ht))
theorem store_rowE (hS : StoreAt w B D M st r) (h : w.ownsRow b e k v n xs) (h1 : e ≠ 76) (h2 : e ≠ 66) (hM : ∀ g,v.ownBlock = some g → ¬ M g) (hg : w.grownBy w' v.ownBlock) : StoreAt w' B D M st r := by
 refine hS.kept hg.size fun g hf => hg.block g (hS.footLt hf) fun e0 => ?_
 obtain ⟨cs,hcs⟩ := own_type h e0.symm
 rcases hf with hf | rfl | hf | hf
 ·exact hM g e0.symm hf
 ·have := hS.blk
  unfold Blk at this
  rw [hcs] at this
  injection this with e1
  injection e1 with _ e2
  exact h1 e2
 ·obtain ⟨cs2,h3⟩ := own_type hS.own hf
  rw [hcs] at h3
  injection h3 with e1
  injection e1 with _ e2
  exact h2 e2
 ·rcases hS.known with ⟨h1,_⟩ | ⟨b,F,h1,_,_,h4,_⟩
  ·rw [h1] at hf;cases hf
  ·rw [h1] at hf
   obtain rfl : b = g := by simpa using hf
   obtain ⟨Dm,⟨es,clock,h0,_⟩,_⟩ := h4
   rw [hcs] at h0
   cases h0
theorem OwnC.row (h : w.ownsRow B e k v n xs) (hg : w.grownBy w' v.ownBlock) (hc : OwnC w b c) (h1 : 3 ≠ e) (h2 : 47 ≠ e) (h3 : 49 ≠ e) : OwnC w' b c :=
 ⟨row_row h hg hc.1 h1,row_row h hg hc.2.1 h2,row_row h hg hc.2.2 h3⟩
theorem SavedAt.row (h : w.ownsRow B e k v n xs) (hg : w.grownBy w' v.ownBlock) (hs : SavedAt w b M sv LS) (h0 : 26 ≠ e) (h1 : 3 ≠ e) (h2 : 47 ≠ e) (h3 : 49 ≠ e) : SavedAt w' b M sv LS :=
 ⟨row_row h hg hs.own h0,fun c hc => OwnC.row h hg (hs.sets c hc) h1 h2 h3,hs.out⟩
end
structure Und49 (w wq : World) (D : Nat) (nv sv : Value) (M : Nat → Prop) (st : St) (r : StR) (S : List SetT) (LS : List SetC) (n : Nat) : Prop where
 bel : Below w.heap.size w wq
 store : StoreAt wq w.heap.size D M st r
 ok : StOk st
 small : StSmall st n
 names : wq.ownsRow w.heap.size 9 1 nv S.length ((S.map SetT.name).map Value.string)
 saved : SavedAt wq w.heap.size M sv LS
section
variable {w wq w' : World} {D n n' : Nat} {nv sv : Value} {M M' : Nat → Prop} {st st' : St} {r r' : StR} {S : List SetT} {LS : List SetC}
theorem Und49.chg (h : Und49 w wq D nv sv M st r S LS n) (hc : ChgS w.heap.size wq w') (hS : StoreAt w' w.heap.size D M' st' r') (hM : ∀ g,M' g → M g ∨ wq.heap.size ≤ g) (hok : StOk st') (hsm : StSmall st' n') : Und49 w w' D nv sv M' st' r' S LS n' :=
 ⟨h.bel.trans hc.bel,hS,hok,hsm,own_chg h.names hc (by decide) (by decide),h.saved.chg hc hM⟩
theorem Und49.below (h : Und49 w wq D nv sv M st r S LS n) (hb : Below wq.heap.size wq w') : Und49 w w' D nv sv M st r S LS n :=
 h.chg (ChgS.of_below hb h.bel.size) (h.store.below hb) (fun _ hg => .inl hg) h.ok h.small
theorem Und49.act (h : Und49 w wq D nv sv M st r S LS n) (ha : ActPost w.heap.size D M st' wq w') (hok : StOk st') (hsm : StSmall st' n') : ∃ M' r',Und49 w w' D nv sv M' st' r' S LS n' := by
 obtain ⟨hc,M',r',hS,hM⟩ := ha
 exact ⟨M',r',h.chg hc hS hM hok hsm⟩
end
end Go.Proofs.YtbhmkcjddpniiaaGreatDoor

namespace Go.Proofs.YtbhmkcjddpniiaaGreatDoor
open Go.RowKit Go.Shelf
theorem lines_open {w : World} {B : Nat} {A : Option Addr} {c : Nat} {l : List Int} (h : IntsAt w B (.slice A l.length c) l) : l.length ≤ c ∧ c ≤ maxLen ∧ ∀ k (_ : k < l.length),∃ b off,A = some ⟨b,off,none⟩ ∧ b < B ∧ ∀ j (hj : j < l.length),w.cell? ⟨b,off + j,none⟩ = some (.int .i64 l[j]) := by
 obtain ⟨A',c',e,h2,h3,h4⟩ := h
 injection e with e1 _ e2
 subst e1 e2
 refine ⟨h2,h3,fun k hk => ?_⟩
 obtain ⟨b,off,e,hl,hc⟩ := h4 (by omega)
 exact ⟨b,off,e,hl,fun j hj => hc j _ (by simp [hj])⟩
set_option maxRecDepth 100000 in
set_option maxHeartbeats 8000000 in
theorem refSame21 (v1 v2 : Value) (s t : SetT) (w : World) (h1 : SetAt w w.heap.size v1 s) (h2 : SetAt w w.heap.size v2 t) :
  Calls Tryz.prog 29 #[v1,v2] w fun e w' => e = .returned (.bool (decide (s = t))) ∧ Below w.heap.size w w' := by
 obtain ⟨Al1,cl1,Ai1,ci1,Ab1,cb1,rfl,hL1,hI1,hB1⟩ := h1
 obtain ⟨Al2,cl2,Ai2,ci2,Ab2,cb2,rfl,hL2,hI2,hB2⟩ := h2
 have HD1 := Lib.hid ((Blk.new w 26 #[.string s.name,.int .i64 s.depth,.int .i64 s.low,.int .i64 s.high,.int .i64 s.len,.slice Al1 s.lines.length cl1,.int .i64 s.pipe,.int .i64 s.arbor,.int .i64 s.purch,.int .i64 s.most,.int .i64 s.brake,.slice Ai1 s.items.length ci1,.slice Ab1 s.bricks.length cb1]).alloc (.cells #[.string t.name,.int .i64 t.depth,.int .i64 t.low,.int .i64 t.high,.int .i64 t.len,.slice Al2 t.lines.length cl2,.int .i64 t.pipe,.int .i64 t.arbor,.int .i64 t.purch,.int .i64 t.most,.int .i64 t.brake,.slice Ai2 t.items.length ci2,.slice Ab2 t.bricks.length cb2] 26))
 have hd2 := Blk.new (w.alloc (.cells #[.string s.name,.int .i64 s.depth,.int .i64 s.low,.int .i64 s.high,.int .i64 s.len,.slice Al1 s.lines.length cl1,.int .i64 s.pipe,.int .i64 s.arbor,.int .i64 s.purch,.int .i64 s.most,.int .i64 s.brake,.slice Ai1 s.items.length ci1,.slice Ab1 s.bricks.length cb1] 26)) 26 #[.string t.name,.int .i64 t.depth,.int .i64 t.low,.int .i64 t.high,.int .i64 t.len,.slice Al2 t.lines.length cl2,.int .i64 t.pipe,.int .i64 t.arbor,.int .i64 t.purch,.int .i64 t.most,.int .i64 t.brake,.slice Ai2 t.items.length ci2,.slice Ab2 t.bricks.length cb2]
 rw [World.size_alloc] at hd2
 have HD2 := Lib.hid hd2
 have hb := ((Below.refl _ w).alloc (Nat.le_refl _) (.cells #[.string s.name,.int .i64 s.depth,.int .i64 s.low,.int .i64 s.high,.int .i64 s.len,.slice Al1 s.lines.length cl1,.int .i64 s.pipe,.int .i64 s.arbor,.int .i64 s.purch,.int .i64 s.most,.int .i64 s.brake,.slice Ai1 s.items.length ci1,.slice Ab1 s.bricks.length cb1] 26)).alloc (by simp) (.cells #[.string t.name,.int .i64 t.depth,.int .i64 t.low,.int .i64 t.high,.int .i64 t.len,.slice Al2 t.lines.length cl2,.int .i64 t.pipe,.int .i64 t.arbor,.int .i64 t.purch,.int .i64 t.most,.int .i64 t.brake,.slice Ai2 t.items.length ci2,.slice Ab2 t.bricks.length cb2] 26)
 have HB := Lib.hid hb
 have hL1 := RowAt.below hL1 hb (Nat.le_refl _)
 have hL2 := RowAt.below hL2 hb (Nat.le_refl _)
 have hI1 := hI1.below hb (Nat.le_refl _)
 have hI2 := hI2.below hb (Nat.le_refl _)
 have hB1 := hB1.below hb (Nat.le_refl _)
 have hB2 := hB2.below hb (Nat.le_refl _)
 obtain ⟨ll1,lm1,hl1⟩ := lines_open hL1
 obtain ⟨ll2,lm2,hl2⟩ := lines_open hL2
 obtain ⟨_,_,e,li1,im1,hi1⟩ := hI1.open_
 injection e with e1 _ e2
 subst e1 e2
 obtain ⟨_,_,e,lb1,bm1,hbr1⟩ := hB1.open_
 injection e with e1 _ e2
 subst e1 e2
 obtain ⟨_,_,e,li2,im2,hi2⟩ := hI2.open_
 injection e with e1 _ e2
 subst e1 e2
 obtain ⟨_,_,e,lb2,bm2,hbr2⟩ := hB2.open_
 injection e with e1 _ e2
 subst e1 e2
 have HLL1 := Lib.hid hl1
 have HLL2 := Lib.hid hl2
 have HII1 := Lib.hid hi1
 have HII2 := Lib.hid hi2
 have HBB1 := Lib.hid hbr1
 have HBB2 := Lib.hid hbr2
 unfold maxLen at lm1 lm2 im1 im2 bm1 bm2
 have HNE : Hid (s ≠ t → decide (s = t) = false) := fun h => decide_eq_false h
 have HEQ : Hid (s.name = t.name ∧ s.depth = t.depth ∧ s.low = t.low ∧ s.high = t.high ∧ s.len = t.len ∧ s.pipe = t.pipe ∧ s.arbor = t.arbor ∧ s.purch = t.purch ∧ s.most = t.most ∧ s.brake = t.brake ∧ s.lines = t.lines ∧ s.items = t.items ∧ s.bricks = t.bricks → decide (s = t) = true) := by
  rintro ⟨e0,e1,e2,e3,e4,e5,e6,e7,e8,e9,e10,e11,e12⟩
  rw [decide_eq_true_iff]
  cases s;cases t
  simp only at e0 e1 e2 e3 e4 e5 e6 e7 e8 e9 e10 e11 e12
  subst e0 e1 e2 e3 e4 e5 e6 e7 e8 e9 e10 e11 e12
  rfl
 clear hL1 hL2 hI1 hI2 hB1 hB2 hd2 hb hl1 hl2 hi1 hi2 hbr1 hbr2
 unfold setVal at *
 go_enter Tryz.func29,Tryz.ntmps29
 go_upto_region 1 with fail
 generalize (Value.agg #[.string s.name,.int .i64 s.depth,.int .i64 s.low,.int .i64 s.high,.int .i64 s.len,.slice Al1 s.lines.length cl1,.int .i64 s.pipe,.int .i64 s.arbor,.int .i64 s.purch,.int .i64 s.most,.int .i64 s.brake,.slice Ai1 s.items.length ci1,.slice Ab1 s.bricks.length cb1]) = V1
 generalize (Value.agg #[.string t.name,.int .i64 t.depth,.int .i64 t.low,.int .i64 t.high,.int .i64 t.len,.slice Al2 t.lines.length cl2,.int .i64 t.pipe,.int .i64 t.arbor,.int .i64 t.purch,.int .i64 t.most,.int .i64 t.brake,.slice Ai2 t.items.length ci2,.slice Ab2 t.bricks.length cb2]) = V2
 generalize ((w.alloc (.cells #[.string s.name,.int .i64 s.depth,.int .i64 s.low,.int .i64 s.high,.int .i64 s.len,.slice Al1 s.lines.length cl1,.int .i64 s.pipe,.int .i64 s.arbor,.int .i64 s.purch,.int .i64 s.most,.int .i64 s.brake,.slice Ai1 s.items.length ci1,.slice Ab1 s.bricks.length cb1] 26)).alloc (.cells #[.string t.name,.int .i64 t.depth,.int .i64 t.low,.int .i64 t.high,.int .i64 t.len,.slice Al2 t.lines.length cl2,.int .i64 t.pipe,.int .i64 t.arbor,.int .i64 t.purch,.int .i64 t.most,.int .i64 t.brake,.slice Ai2 t.items.length ci2,.slice Ab2 t.bricks.length cb2] 26)) = W1 at *
 have x0 := HD1.out.cell 0;have x1 := HD1.out.cell 1;have x2 := HD1.out.cell 2;have x3 := HD1.out.cell 3;have x4 := HD1.out.cell 4;have x5 := HD1.out.cell 5;have x6 := HD1.out.cell 6;have x7 := HD1.out.cell 7;have x8 := HD1.out.cell 8;have x9 := HD1.out.cell 9;have x10 := HD1.out.cell 10;have x11 := HD1.out.cell 11;have x12 := HD1.out.cell 12;simp only [List.getElem?_toArray,List.getElem?_cons_succ,List.getElem?_cons_zero] at x0 x1 x2 x3 x4 x5 x6 x7 x8 x9 x10 x11 x12
 have y0 := HD2.out.cell 0;have y1 := HD2.out.cell 1;have y2 := HD2.out.cell 2;have y3 := HD2.out.cell 3;have y4 := HD2.out.cell 4;have y5 := HD2.out.cell 5;have y6 := HD2.out.cell 6;have y7 := HD2.out.cell 7;have y8 := HD2.out.cell 8;have y9 := HD2.out.cell 9;have y10 := HD2.out.cell 10;have y11 := HD2.out.cell 11;have y12 := HD2.out.cell 12;simp only [List.getElem?_toArray,List.getElem?_cons_succ,List.getElem?_cons_zero] at y0 y1 y2 y3 y4 y5 y6 y7 y8 y9 y10 y11 y12
 by_cases n0 : s.name = t.name
 rotate_left
 ·have ht0 : (s.name.toList == t.name.toList) = false := by rw [str_beq];exact decide_eq_false n0
  have HN := Lib.hid (HNE.out fun e => n0 (by rw [e]))
  clear HNE HEQ HLL1 HLL2 HII1 HII2 HBB1 HBB2 n0
  clear x1 x2 x3 x4 x6 x7 x8 x9 x10 x5 x11 x12 y1 y2 y3 y4 y6 y7 y8 y9 y10 y5 y11 y12
  go_wp2_with fail
  go_ret
  exact ⟨ret_bool HN.out.symm,HB.out⟩
 have ht0 : (s.name.toList == t.name.toList) = true := by rw [str_beq];exact decide_eq_true n0
 by_cases n1 : s.depth = t.depth
 rotate_left
 ·have ht1 : (s.depth == t.depth) = false := beq_eq_false_iff_ne.2 n1
  have hu1 : (s.depth != t.depth) = true := bne_iff_ne.2 n1
  have HN := Lib.hid (HNE.out fun e => n1 (by rw [e]))
  clear HNE HEQ HLL1 HLL2 HII1 HII2 HBB1 HBB2 n0 n1
  clear x2 x3 x4 x6 x7 x8 x9 x10 x5 x11 x12 y2 y3 y4 y6 y7 y8 y9 y10 y5 y11 y12
  go_wp2_with fail
  go_ret
  exact ⟨ret_bool HN.out.symm,HB.out⟩
 have ht1 : (s.depth == t.depth) = true := beq_iff_eq.2 n1
 have hu1 : (s.depth != t.depth) = false := by rw [n1];exact bne_self_eq_false _
 by_cases n2 : s.low = t.low
 rotate_left
 ·have ht2 : (s.low == t.low) = false := beq_eq_false_iff_ne.2 n2
  have hu2 : (s.low != t.low) = true := bne_iff_ne.2 n2
  have HN := Lib.hid (HNE.out fun e => n2 (by rw [e]))
  clear HNE HEQ HLL1 HLL2 HII1 HII2 HBB1 HBB2 n0 n1 n2
  clear x3 x4 x6 x7 x8 x9 x10 x5 x11 x12 y3 y4 y6 y7 y8 y9 y10 y5 y11 y12
  go_wp2_with fail
  go_ret
  exact ⟨ret_bool HN.out.symm,HB.out⟩
 have ht2 : (s.low == t.low) = true := beq_iff_eq.2 n2
 have hu2 : (s.low != t.low) = false := by rw [n2];exact bne_self_eq_false _
 by_cases n3 : s.high = t.high
 rotate_left
 ·have ht3 : (s.high == t.high) = false := beq_eq_false_iff_ne.2 n3
  have hu3 : (s.high != t.high) = true := bne_iff_ne.2 n3
  have HN := Lib.hid (HNE.out fun e => n3 (by rw [e]))
  clear HNE HEQ HLL1 HLL2 HII1 HII2 HBB1 HBB2 n0 n1 n2 n3
  clear x4 x6 x7 x8 x9 x10 x5 x11 x12 y4 y6 y7 y8 y9 y10 y5 y11 y12
  go_wp2_with fail
  go_ret
  exact ⟨ret_bool HN.out.symm,HB.out⟩
 have ht3 : (s.high == t.high) = true := beq_iff_eq.2 n3
 have hu3 : (s.high != t.high) = false := by rw [n3];exact bne_self_eq_false _
 by_cases n4 : s.len = t.len
 rotate_left
 ·have ht4 : (s.len == t.len) = false := beq_eq_false_iff_ne.2 n4
  have hu4 : (s.len != t.len) = true := bne_iff_ne.2 n4
  have HN := Lib.hid (HNE.out fun e => n4 (by rw [e]))
  clear HNE HEQ HLL1 HLL2 HII1 HII2 HBB1 HBB2 n0 n1 n2 n3 n4
  clear x6 x7 x8 x9 x10 x5 x11 x12 y6 y7 y8 y9 y10 y5 y11 y12
  go_wp2_with fail
  go_ret
  exact ⟨ret_bool HN.out.symm,HB.out⟩
 have ht4 : (s.len == t.len) = true := beq_iff_eq.2 n4
 have hu4 : (s.len != t.len) = false := by rw [n4];exact bne_self_eq_false _
 by_cases n5 : s.pipe = t.pipe
 rotate_left
 ·have ht5 : (s.pipe == t.pipe) = false := beq_eq_false_iff_ne.2 n5
  have hu5 : (s.pipe != t.pipe) = true := bne_iff_ne.2 n5
  have HN := Lib.hid (HNE.out fun e => n5 (by rw [e]))
  clear HNE HEQ HLL1 HLL2 HII1 HII2 HBB1 HBB2 n0 n1 n2 n3 n4 n5
  clear x7 x8 x9 x10 x5 x11 x12 y7 y8 y9 y10 y5 y11 y12
  go_wp2_with fail
  go_ret
  exact ⟨ret_bool HN.out.symm,HB.out⟩
 have ht5 : (s.pipe == t.pipe) = true := beq_iff_eq.2 n5
 have hu5 : (s.pipe != t.pipe) = false := by rw [n5];exact bne_self_eq_false _
 by_cases n6 : s.arbor = t.arbor
 rotate_left
 ·have ht6 : (s.arbor == t.arbor) = false := beq_eq_false_iff_ne.2 n6
  have hu6 : (s.arbor != t.arbor) = true := bne_iff_ne.2 n6
  have HN := Lib.hid (HNE.out fun e => n6 (by rw [e]))
  clear HNE HEQ HLL1 HLL2 HII1 HII2 HBB1 HBB2 n0 n1 n2 n3 n4 n5 n6
  clear x8 x9 x10 x5 x11 x12 y8 y9 y10 y5 y11 y12
  go_wp2_with fail
  go_ret
  exact ⟨ret_bool HN.out.symm,HB.out⟩
 have ht6 : (s.arbor == t.arbor) = true := beq_iff_eq.2 n6
 have hu6 : (s.arbor != t.arbor) = false := by rw [n6];exact bne_self_eq_false _
 by_cases n7 : s.purch = t.purch
 rotate_left
 ·have ht7 : (s.purch == t.purch) = false := beq_eq_false_iff_ne.2 n7
  have hu7 : (s.purch != t.purch) = true := bne_iff_ne.2 n7
  have HN := Lib.hid (HNE.out fun e => n7 (by rw [e]))
  clear HNE HEQ HLL1 HLL2 HII1 HII2 HBB1 HBB2 n0 n1 n2 n3 n4 n5 n6 n7
  clear x9 x10 x5 x11 x12 y9 y10 y5 y11 y12
  go_wp2_with fail
  go_ret
  exact ⟨ret_bool HN.out.symm,HB.out⟩
 have ht7 : (s.purch == t.purch) = true := beq_iff_eq.2 n7
 have hu7 : (s.purch != t.purch) = false := by rw [n7];exact bne_self_eq_false _
 by_cases n8 : s.most = t.most
 rotate_left
 ·have ht8 : (s.most == t.most) = false := beq_eq_false_iff_ne.2 n8
  have hu8 : (s.most != t.most) = true := bne_iff_ne.2 n8
  have HN := Lib.hid (HNE.out fun e => n8 (by rw [e]))
  clear HNE HEQ HLL1 HLL2 HII1 HII2 HBB1 HBB2 n0 n1 n2 n3 n4 n5 n6 n7 n8
  clear x10 x5 x11 x12 y10 y5 y11 y12
  go_wp2_with fail
  go_ret
  exact ⟨ret_bool HN.out.symm,HB.out⟩
 have ht8 : (s.most == t.most) = true := beq_iff_eq.2 n8
 have hu8 : (s.most != t.most) = false := by rw [n8];exact bne_self_eq_false _
 by_cases n9 : s.brake = t.brake
 rotate_left
 ·have ht9 : (s.brake == t.brake) = false := beq_eq_false_iff_ne.2 n9
  have hu9 : (s.brake != t.brake) = true := bne_iff_ne.2 n9
  have HN := Lib.hid (HNE.out fun e => n9 (by rw [e]))
  clear HNE HEQ HLL1 HLL2 HII1 HII2 HBB1 HBB2 n0 n1 n2 n3 n4 n5 n6 n7 n8 n9
  clear x5 x11 x12 y5 y11 y12
  go_wp2_with fail
  go_ret
  exact ⟨ret_bool HN.out.symm,HB.out⟩
 have ht9 : (s.brake == t.brake) = true := beq_iff_eq.2 n9
 have hu9 : (s.brake != t.brake) = false := by rw [n9];exact bne_self_eq_false _
 have HNN : Hid (s.name = t.name ∧ s.depth = t.depth ∧ s.low = t.low ∧ s.high = t.high ∧ s.len = t.len ∧ s.pipe = t.pipe ∧ s.arbor = t.arbor ∧ s.purch = t.purch ∧ s.most = t.most ∧ s.brake = t.brake) := ⟨n0,n1,n2,n3,n4,n5,n6,n7,n8,n9⟩
 clear n0 n1 n2 n3 n4 n5 n6 n7 n8 n9
 go_upto_region 3 with fail
 clear x0 x1 x2 x3 x4 x6 x7 x8 x9 x10 y0 y1 y2 y3 y4 y6 y7 y8 y9 y10 ht0 ht1 ht2 ht3 ht4 ht5 ht6 ht7 ht8 ht9 hu1 hu2 hu3 hu4 hu5 hu6 hu7 hu8 hu9
 by_cases g0 : s.lines.length = t.lines.length
 rotate_left
 ·have hg0 : ((s.lines.length : Int) != t.lines.length) = true := by simp;omega
  have HN := Lib.hid (HNE.out fun e => g0 (by rw [e]))
  clear HNE HEQ HLL1 HLL2 HII1 HII2 HBB1 HBB2 HNN
  go_wp2_with fail
  go_ret
  exact ⟨ret_bool HN.out.symm,HB.out⟩
 have hg0 : ((s.lines.length : Int) != t.lines.length) = false := by simp [g0]
 by_cases g1 : s.items.length = t.items.length
 rotate_left
 ·have hg1 : ((s.items.length : Int) != t.items.length) = true := by simp;omega
  have HN := Lib.hid (HNE.out fun e => g1 (by rw [e]))
  clear HNE HEQ HLL1 HLL2 HII1 HII2 HBB1 HBB2 HNN
  go_wp2_with fail
  go_ret
  exact ⟨ret_bool HN.out.symm,HB.out⟩
 have hg1 : ((s.items.length : Int) != t.items.length) = false := by simp [g1]
 by_cases g2 : s.bricks.length = t.bricks.length
 rotate_left
 ·have hg2 : ((s.bricks.length : Int) != t.bricks.length) = true := by simp;omega
  have HN := Lib.hid (HNE.out fun e => g2 (by rw [e]))
  clear HNE HEQ HLL1 HLL2 HII1 HII2 HBB1 HBB2 HNN
  go_wp2_with fail
  go_ret
  exact ⟨ret_bool HN.out.symm,HB.out⟩
 have hg2 : ((s.bricks.length : Int) != t.bricks.length) = false := by simp [g2]
 have HG0 := Lib.hid g0
 have HG1 := Lib.hid g1
 have HG2 := Lib.hid g2
 go_upto_region 5 with fail
 clear x5 x11 x12 y5 y11 y12 hg0 hg1 hg2
 go_wp2_with fail
 go_loopw [5] (fun z wr => ∃ j : Nat,j ≤ s.lines.length ∧ z = .int .i64 j ∧ s.lines.take j = t.lines.take j ∧ ∃ n,wr = W1.drewN n) (fun z _ => s.lines.length - (intOf z).toNat)
 case atStart => first | exact ⟨0,Nat.zero_le _,rfl,by simp,_,rfl⟩ | exact ⟨0,Nat.zero_le _,rfl,by simp,0,rfl⟩
 case round =>
  obtain ⟨j,hj,rfl,hnm,n,rfl⟩ := hrel
  have Hnm := Lib.hid hnm
  clear hnm
  have XB := HD1.out
  have YB := HD2.out
  have x5 := XB.cell 5;simp only [List.getElem?_toArray,List.getElem?_cons_succ,List.getElem?_cons_zero] at x5
  have y5 := YB.cell 5;simp only [List.getElem?_toArray,List.getElem?_cons_succ,List.getElem?_cons_zero] at y5
  clear XB YB
  by_cases hlt : j < s.lines.length
  ·have hlt2 : j < t.lines.length := by omega
   obtain ⟨b1,off1,e1,hb1,hcell1⟩ := HLL1.out j hlt
   rw [e1] at x5
   obtain ⟨b2,off2,e2,hb2,hcell2⟩ := HLL2.out j hlt2
   rw [e2] at y5
   have HT1 := Lib.hid (take_snoc s.lines j hlt)
   have HT2 := Lib.hid (take_snoc t.lines j hlt2)
   have HNQ : Hid (s.lines[j] ≠ t.lines[j] → decide (s = t) = false) := fun h => HNE.out fun e => h (by subst e;rfl)
   have h1_0 := hcell1 j hlt
   have h2_0 := hcell2 j hlt2
   clear hcell1 hcell2
   generalize s.lines[j] = a at *
   generalize t.lines[j] = b at *
   by_cases hq : a = b
   ·subst hq
    have ht : (a != a) = false := bne_self_eq_false _
    go_wp2
    go_quiet (fail)
    go_wp2
    go_roundw
    case rel => exact ⟨j + 1,by omega,by go_num,by rw [HT1.out,HT2.out,Hnm.out],_,rfl⟩
    case measure => simp [intOf];omega
   ·have HQ := Lib.hid (HNQ.out hq)
    clear HNQ HT1 HT2 HNE HEQ HLL1 HLL2 HII1 HII2 HBB1 HBB2 HNN Hnm
    have ht : (a != b) = true := bne_iff_ne.2 hq
    go_wp2
    go_quiet (fail)
    go_wp2
    go_ret
    exact ⟨ret_bool HQ.out.symm,below_drewN (below_drewN HB.out _) _⟩
  ·have hje : j = s.lines.length := by omega
   subst hje
   have HM0 : Hid (s.lines = t.lines) := by have := Hnm.out;rw [List.take_length,HG0.out,List.take_length] at this;exact this
   clear Hnm
   have x11 := HD1.out.cell 11;simp only [List.getElem?_toArray,List.getElem?_cons_succ,List.getElem?_cons_zero] at x11
   have y11 := HD2.out.cell 11;simp only [List.getElem?_toArray,List.getElem?_cons_succ,List.getElem?_cons_zero] at y11
   go_wp2_with fail
   clear x5 y5
   go_loopw [6] (fun z wr => ∃ j : Nat,j ≤ s.items.length ∧ z = .int .i64 j ∧ s.items.take j = t.items.take j ∧ ∃ n,wr = W1.drewN n) (fun z _ => s.items.length - (intOf z).toNat)
   case atStart => first | exact ⟨0,Nat.zero_le _,rfl,by simp,_,rfl⟩ | exact ⟨0,Nat.zero_le _,rfl,by simp,0,rfl⟩
   case round =>
    obtain ⟨j,hj,rfl,hnm,n,rfl⟩ := hrel
    have Hnm := Lib.hid hnm
    clear hnm
    have XB := HD1.out
    have YB := HD2.out
    have x11 := XB.cell 11;simp only [List.getElem?_toArray,List.getElem?_cons_succ,List.getElem?_cons_zero] at x11
    have y11 := YB.cell 11;simp only [List.getElem?_toArray,List.getElem?_cons_succ,List.getElem?_cons_zero] at y11
    clear XB YB
    by_cases hlt : j < s.items.length
    ·have hlt2 : j < t.items.length := by omega
     obtain ⟨b1,off1,e1,hb1,hcell1⟩ := HII1.out j hlt
     rw [e1] at x11
     obtain ⟨b2,off2,e2,hb2,hcell2⟩ := HII2.out j hlt2
     rw [e2] at y11
     have HT1 := Lib.hid (take_snoc s.items j hlt)
     have HT2 := Lib.hid (take_snoc t.items j hlt2)
     have HNQ : Hid (s.items[j] ≠ t.items[j] → decide (s = t) = false) := fun h => HNE.out fun e => h (by subst e;rfl)
     obtain ⟨h1_0,h1_1,h1_2,h1_3,h1_4,h1_5,h1_6⟩ := hcell1 j hlt
     obtain ⟨h2_0,h2_1,h2_2,h2_3,h2_4,h2_5,h2_6⟩ := hcell2 j hlt2
     clear hcell1 hcell2
     generalize s.items[j] = a at *
     generalize t.items[j] = b at *
     by_cases hq : a = b
     ·subst hq
      have hv0 : (a.name.toList == a.name.toList) = true := beq_self_eq_true _
      have hv1 : (a.pos == a.pos) = true := beq_self_eq_true _
      have hv2 : (a.width == a.width) = true := beq_self_eq_true _
      have hv3 : (a.wt == a.wt) = true := beq_self_eq_true _
      have hv4 : (a.hang == a.hang) = true := beq_self_eq_true _
      have hv5 : (a.front == a.front) = true := beq_self_eq_true _
      have hv6 : (a.back == a.back) = true := beq_self_eq_true _
      go_wp2
      go_quiet (fail)
      go_wp2
      go_roundw
      case rel => exact ⟨j + 1,by omega,by go_num,by rw [HT1.out,HT2.out,Hnm.out],_,rfl⟩
      case measure => simp [intOf];omega
     ·have HQ := Lib.hid (HNQ.out hq)
      clear HNQ HT1 HT2 HNE HEQ HLL1 HLL2 HII1 HII2 HBB1 HBB2 HNN Hnm
      by_cases n0 : a.name = b.name
      rotate_left
      ·have hv0 : (a.name.toList == b.name.toList) = false := by rw [str_beq];exact decide_eq_false n0
       clear hq n0
       go_wp2
       go_quiet (fail)
       go_wp2
       go_ret
       exact ⟨ret_bool HQ.out.symm,below_drewN (below_drewN HB.out _) _⟩
      have hv0 : (a.name.toList == b.name.toList) = true := by rw [str_beq];exact decide_eq_true n0
      by_cases n1 : a.pos = b.pos
      rotate_left
      ·have hv1 : (a.pos == b.pos) = false := beq_eq_false_iff_ne.2 n1
       clear hq n0 n1
       go_wp2
       go_quiet (fail)
       go_wp2
       go_ret
       exact ⟨ret_bool HQ.out.symm,below_drewN (below_drewN HB.out _) _⟩
      have hv1 : (a.pos == b.pos) = true := beq_iff_eq.2 n1
      by_cases n2 : a.width = b.width
      rotate_left
      ·have hv2 : (a.width == b.width) = false := beq_eq_false_iff_ne.2 n2
       clear hq n0 n1 n2
       go_wp2
       go_quiet (fail)
       go_wp2
       go_ret
       exact ⟨ret_bool HQ.out.symm,below_drewN (below_drewN HB.out _) _⟩
      have hv2 : (a.width == b.width) = true := beq_iff_eq.2 n2
      by_cases n3 : a.wt = b.wt
      rotate_left
      ·have hv3 : (a.wt == b.wt) = false := beq_eq_false_iff_ne.2 n3
       clear hq n0 n1 n2 n3
       go_wp2
       go_quiet (fail)
       go_wp2
       go_ret
       exact ⟨ret_bool HQ.out.symm,below_drewN (below_drewN HB.out _) _⟩
      have hv3 : (a.wt == b.wt) = true := beq_iff_eq.2 n3
      by_cases n4 : a.hang = b.hang
      rotate_left
      ·have hv4 : (a.hang == b.hang) = false := beq_eq_false_iff_ne.2 n4
       clear hq n0 n1 n2 n3 n4
       go_wp2
       go_quiet (fail)
       go_wp2
       go_ret
       exact ⟨ret_bool HQ.out.symm,below_drewN (below_drewN HB.out _) _⟩
      have hv4 : (a.hang == b.hang) = true := beq_iff_eq.2 n4
      by_cases n5 : a.front = b.front
      rotate_left
      ·have hv5 : (a.front == b.front) = false := beq_eq_false_iff_ne.2 n5
       clear hq n0 n1 n2 n3 n4 n5
       go_wp2
       go_quiet (fail)
       go_wp2
       go_ret
       exact ⟨ret_bool HQ.out.symm,below_drewN (below_drewN HB.out _) _⟩
      have hv5 : (a.front == b.front) = true := beq_iff_eq.2 n5
      by_cases n6 : a.back = b.back
      rotate_left
      ·have hv6 : (a.back == b.back) = false := beq_eq_false_iff_ne.2 n6
       clear hq n0 n1 n2 n3 n4 n5 n6
       go_wp2
       go_quiet (fail)
       go_wp2
       go_ret
       exact ⟨ret_bool HQ.out.symm,below_drewN (below_drewN HB.out _) _⟩
      have hv6 : (a.back == b.back) = true := beq_iff_eq.2 n6
      exact absurd (by cases a;cases b;simp only at n0 n1 n2 n3 n4 n5 n6;subst n0 n1 n2 n3 n4 n5 n6;rfl) hq
    ·have hje : j = s.items.length := by omega
     subst hje
     have HM1 : Hid (s.items = t.items) := by have := Hnm.out;rw [List.take_length,HG1.out,List.take_length] at this;exact this
     clear Hnm
     have x12 := HD1.out.cell 12;simp only [List.getElem?_toArray,List.getElem?_cons_succ,List.getElem?_cons_zero] at x12
     have y12 := HD2.out.cell 12;simp only [List.getElem?_toArray,List.getElem?_cons_succ,List.getElem?_cons_zero] at y12
     go_wp2_with fail
     clear x11 y11
     go_loopw [7] (fun z wr => ∃ j : Nat,j ≤ s.bricks.length ∧ z = .int .i64 j ∧ s.bricks.take j = t.bricks.take j ∧ ∃ n,wr = W1.drewN n) (fun z _ => s.bricks.length - (intOf z).toNat)
     case atStart => first | exact ⟨0,Nat.zero_le _,rfl,by simp,_,rfl⟩ | exact ⟨0,Nat.zero_le _,rfl,by simp,0,rfl⟩
     case round =>
      obtain ⟨j,hj,rfl,hnm,n,rfl⟩ := hrel
      have Hnm := Lib.hid hnm
      clear hnm
      have XB := HD1.out
      have YB := HD2.out
      have x12 := XB.cell 12;simp only [List.getElem?_toArray,List.getElem?_cons_succ,List.getElem?_cons_zero] at x12
      have y12 := YB.cell 12;simp only [List.getElem?_toArray,List.getElem?_cons_succ,List.getElem?_cons_zero] at y12
      clear XB YB
      by_cases hlt : j < s.bricks.length
      ·have hlt2 : j < t.bricks.length := by omega
       obtain ⟨b1,off1,e1,hb1,hcell1⟩ := HBB1.out j hlt
       rw [e1] at x12
       obtain ⟨b2,off2,e2,hb2,hcell2⟩ := HBB2.out j hlt2
       rw [e2] at y12
       have HT1 := Lib.hid (take_snoc s.bricks j hlt)
       have HT2 := Lib.hid (take_snoc t.bricks j hlt2)
       have HNQ : Hid (s.bricks[j] ≠ t.bricks[j] → decide (s = t) = false) := fun h => HNE.out fun e => h (by subst e;rfl)
       obtain ⟨h1_0,h1_1,h1_2⟩ := hcell1 j hlt
       obtain ⟨h2_0,h2_1,h2_2⟩ := hcell2 j hlt2
       clear hcell1 hcell2
       generalize s.bricks[j] = a at *
       generalize t.bricks[j] = b at *
       by_cases hq : a = b
       ·subst hq
        have hv0 : (a.name.toList == a.name.toList) = true := beq_self_eq_true _
        have hv1 : (a.wt == a.wt) = true := beq_self_eq_true _
        have hv2 : (a.cnt == a.cnt) = true := beq_self_eq_true _
        go_wp2
        go_quiet (fail)
        go_wp2
        go_roundw
        case rel => exact ⟨j + 1,by omega,by go_num,by rw [HT1.out,HT2.out,Hnm.out],_,rfl⟩
        case measure => simp [intOf];omega
       ·have HQ := Lib.hid (HNQ.out hq)
        clear HNQ HT1 HT2 HNE HEQ HLL1 HLL2 HII1 HII2 HBB1 HBB2 HNN Hnm
        by_cases n0 : a.name = b.name
        rotate_left
        ·have hv0 : (a.name.toList == b.name.toList) = false := by rw [str_beq];exact decide_eq_false n0
         clear hq n0
         go_wp2
         go_quiet (fail)
         go_wp2
         go_ret
         exact ⟨ret_bool HQ.out.symm,below_drewN (below_drewN HB.out _) _⟩
        have hv0 : (a.name.toList == b.name.toList) = true := by rw [str_beq];exact decide_eq_true n0
        by_cases n1 : a.wt = b.wt
        rotate_left
        ·have hv1 : (a.wt == b.wt) = false := beq_eq_false_iff_ne.2 n1
         clear hq n0 n1
         go_wp2
         go_quiet (fail)
         go_wp2
         go_ret
         exact ⟨ret_bool HQ.out.symm,below_drewN (below_drewN HB.out _) _⟩
        have hv1 : (a.wt == b.wt) = true := beq_iff_eq.2 n1
        by_cases n2 : a.cnt = b.cnt
        rotate_left
        ·have hv2 : (a.cnt == b.cnt) = false := beq_eq_false_iff_ne.2 n2
         clear hq n0 n1 n2
         go_wp2
         go_quiet (fail)
         go_wp2
         go_ret
         exact ⟨ret_bool HQ.out.symm,below_drewN (below_drewN HB.out _) _⟩
        have hv2 : (a.cnt == b.cnt) = true := beq_iff_eq.2 n2
        exact absurd (by cases a;cases b;simp only at n0 n1 n2;subst n0 n1 n2;rfl) hq
      ·have hje : j = s.bricks.length := by omega
       subst hje
       have HM2 : Hid (s.bricks = t.bricks) := by have := Hnm.out;rw [List.take_length,HG2.out,List.take_length] at this;exact this
       clear Hnm
       have HE : Hid (decide (s = t) = true) := by
        obtain ⟨n0,n1,n2,n3,n4,n5,n6,n7,n8,n9⟩ := HNN.out
        exact HEQ.out ⟨n0,n1,n2,n3,n4,n5,n6,n7,n8,n9,HM0.out,HM1.out,HM2.out⟩
       clear HEQ HNE HNN HM0 HM1 HM2
       go_wp2
       go_ret
       exact ⟨ret_bool HE.out.symm,below_drewN HB.out _⟩
end Go.Proofs.YtbhmkcjddpniiaaGreatDoor
