/- Parts of the proof, laid into one text: StoreM, StoreK, StFind, StoreP, VOwn, StoreA, StNamed. -/
import Derived.BigQuiet
import Derived.Deep.AppendLies
import Derived.Deep.Cut
import Derived.Deep.Draws
import Derived.Deep.LoopGhost
import Derived.Deep.MidRow
import Derived.Deep.QuietTactic
import Derived.Deep.RegionHeld3
import Derived.Deep.RegionLaw
import Derived.IntWalk
import Derived.Laws.Bits64b
import Derived.Laws.Concat
import Derived.Laws.EntriesVeiled
import Derived.Lib.AppendIntMem
import Derived.Lib.Hide
import Derived.Lib.ItoaLen
import Derived.Lib.ItoaMem
import Derived.Lib.Join
import Derived.Lib.SmallJoins
import Derived.LoopIn
import Derived.LoopNIn
import Derived.Maps.AppendAt
import Derived.Maps.Own
import Derived.Maps.OwnOps
import Derived.Maps.OwnSet
import Derived.Maps.Views
import Derived.Outline
import Derived.OwnWalkIn
import Derived.PlainAid
import Derived.RangeFuncBox
import Derived.RangeFuncLeaves
import Derived.Shelf.Abstract
import Derived.Shelf.Bits.Mul64
import Derived.Shelf.Strconv.Itoa3
import Derived.Shelf.Strings.Count
import Derived.Shelf.Strings.OnBuilder
import Derived.Shelf.Strings.Prefix
import Derived.StillTail
import Derived.StillTailTactics
import Derived.TacticsInMore
import Derived.Test.YtbhmkcjddpniiaaGreatDoorC1
import Derived.Test.YtbhmkcjddpniiaaGreatDoorC2
import Derived.Test.YtbhmkcjddpniiaaGreatDoorC3
import Derived.Test.YtbhmkcjddpniiaaGreatDoorC4
import Derived.Test.YtbhmkcjddpniiaaGreatDoorC5
import Derived.Test.YtbhmkcjddpniiaaGreatDoorC6
import Derived.Test.YtbhmkcjddpniiaaGreatDoorC7
import Derived.Test.YtbhmkcjddpniiaaGreatDoorD1
import Derived.Test.YtbhmkcjddpniiaaGreatDoorD2
import Derived.Test.YtbhmkcjddpniiaaGreatDoorD3
import Derived.Test.YtbhmkcjddpniiaaGreatDoorD4
import Derived.Test.YtbhmkcjddpniiaaGreatDoorD5
import Derived.Test.YtbhmkcjddpniiaaGreatDoorD9
import Derived.Test.YtbhmkcjddpniiaaGreatDoorG1
import Derived.Test.YtbhmkcjddpniiaaGreatDoorI1
import Derived.Test.YtbhmkcjddpniiaaGreatDoorProg
import Derived.WalkKit
import Derived.WalkLawsBesides
import Derived.WalkSpells

namespace Go.Proofs.YtbhmkcjddpniiaaGreatDoor
open Go.RowKit Go.Shelf
def FlatM (w : World) (M : Nat → Prop) (v : Value) (n : Nat) (xs : List Value) : Prop :=
 ∃ A c,v = .slice A n c ∧ n ≤ c ∧ c ≤ maxLen ∧ (0 < n → ∃ b off,A = some ⟨b,off,none⟩ ∧ M b ∧ b < w.heap.size ∧ ∀ (j : Nat) u,xs[j]? = some u → w.cell? ⟨b,off + j,none⟩ = some u)
structure KeepM (M : Nat → Prop) (w w' : World) : Prop where
 size : w.heap.size ≤ w'.heap.size
 same : ∀ g,M g → g < w.heap.size → w'.heap[g]? = w.heap[g]?
theorem KeepM.refl (M : Nat → Prop) (w : World) : KeepM M w w := ⟨Nat.le_refl _,fun _ _ _ => rfl⟩
theorem KeepM.trans {M : Nat → Prop} {a b c : World} (h : KeepM M a b) (k : KeepM M b c) : KeepM M a c :=
 ⟨Nat.le_trans h.size k.size,fun g hg hl => (k.same g hg (Nat.lt_of_lt_of_le hl h.size)).trans (h.same g hg hl)⟩
theorem KeepM.of_below {M : Nat → Prop} {w w' : World} (h : Below w.heap.size w w') : KeepM M w w' := ⟨h.size,fun g _ hl => h.block g hl⟩
theorem KeepM.sub {M M' : Nat → Prop} {w w' : World} (h : KeepM M w w') (hs : ∀ g,M' g → M g) : KeepM M' w w' := ⟨h.size,fun g hg hl => h.same g (hs g hg) hl⟩
theorem cell_same {w w' : World} {b o : Nat} (h : w'.heap[b]? = w.heap[b]?) : w'.cell? ⟨b,o,none⟩ = w.cell? ⟨b,o,none⟩ := by
 simp [World.cell?,h]
section
variable {w w' : World} {M M' : Nat → Prop} {v : Value} {n : Nat} {xs : List Value}
theorem FlatM.flat (h : FlatM w M v n xs) : Flat w w.heap.size v n xs := by
 obtain ⟨A,c,h1,h2,h3,h4⟩ := h
 exact ⟨A,c,h1,h2,h3,fun hn => let ⟨b,off,e,_,hl,hc⟩ := h4 hn;⟨b,off,e,hl,hc⟩⟩
theorem FlatM.kept (h : FlatM w M v n xs) (hk : KeepM M w w') : FlatM w' M v n xs := by
 obtain ⟨A,c,h1,h2,h3,h4⟩ := h
 refine ⟨A,c,h1,h2,h3,fun hn => ?_⟩
 obtain ⟨b,off,e,hm,hl,hc⟩ := h4 hn
 exact ⟨b,off,e,hm,Nat.lt_of_lt_of_le hl hk.size,fun j u hu => (cell_same (hk.same b hm hl)).trans (hc j u hu)⟩
theorem FlatM.sub (h : FlatM w M v n xs) (hs : ∀ g,M g → M' g) : FlatM w M' v n xs := by
 obtain ⟨A,c,h1,h2,h3,h4⟩ := h
 refine ⟨A,c,h1,h2,h3,fun hn => ?_⟩
 obtain ⟨b,off,e,hm,hl,hc⟩ := h4 hn
 exact ⟨b,off,e,hs b hm,hl,hc⟩
theorem FlatM.of_own {base e size : Nat} (h : w.ownsRow base e size v n xs) (hM : ∀ g,v.ownBlock = some g → M g) : FlatM w M v n xs := by
 obtain ⟨hl,⟨rfl,rfl⟩ | ⟨g,cap,cur,rfl,hb,hg,hnc,hcm,hcs,ht⟩⟩ := h
 ·exact ⟨none,0,rfl,Nat.le_refl _,Nat.zero_le _,fun h => absurd h (by omega)⟩
 ·refine ⟨_,_,rfl,hnc,hcm,fun _ => ⟨g,0,rfl,hM g (by simp [Value.ownBlock]),(Array.getElem?_eq_some_iff.1 hg).1,fun j u hu => ?_⟩⟩
  rw [Nat.zero_add,cell_of_row w g j cur e (0,0) hg]
  rw [← ht,List.getElem?_take] at hu
  split at hu
  ·simpa using hu
  ·cases hu
theorem FlatM.nil : FlatM w M (.slice none 0 0) 0 [] := ⟨none,0,rfl,Nat.le_refl _,Nat.zero_le _,fun h => absurd h (by omega)⟩
end
structure SetC where
 s : SetT
 al : Option Addr
 cl : Nat
 ai : Option Addr
 ci : Nat
 ab : Option Addr
 cb : Nat
def SetC.cells (c : SetC) : List Value := [.string c.s.name,.int .i64 c.s.depth,.int .i64 c.s.low,.int .i64 c.s.high,.int .i64 c.s.len,.slice c.al c.s.lines.length c.cl,.int .i64 c.s.pipe,.int .i64 c.s.arbor,.int .i64 c.s.purch,.int .i64 c.s.most,.int .i64 c.s.brake,.slice c.ai c.s.items.length c.ci,.slice c.ab c.s.bricks.length c.cb]
def SetC.val (c : SetC) : Value := setVal c.s c.al c.cl c.ai c.ci c.ab c.cb
def SetCM (w : World) (M : Nat → Prop) (c : SetC) : Prop :=
 FlatM w M (.slice c.al c.s.lines.length c.cl) c.s.lines.length (c.s.lines.map (Value.int .i64)) ∧ FlatM w M (.slice c.ai c.s.items.length c.ci) c.s.items.length (c.s.items.flatMap ItemT.cells) ∧ FlatM w M (.slice c.ab c.s.bricks.length c.cb) c.s.bricks.length (c.s.bricks.flatMap BrickT.cells)
def SetsM (w : World) (M : Nat → Prop) (v : Value) (L : List SetC) : Prop := FlatM w M v L.length (L.flatMap SetC.cells) ∧ ∀ c ∈ L,SetCM w M c
section
variable {w w' : World} {M M' : Nat → Prop} {v : Value} {c : SetC} {L : List SetC}
theorem SetCM.set (h : SetCM w M c) : SetAt w w.heap.size c.val c.s := ⟨_,_,_,_,_,_,rfl,h.1.flat,h.2.1.flat,h.2.2.flat⟩
theorem SetCM.kept (h : SetCM w M c) (hk : KeepM M w w') : SetCM w' M c := ⟨h.1.kept hk,h.2.1.kept hk,h.2.2.kept hk⟩
theorem SetCM.sub (h : SetCM w M c) (hs : ∀ g,M g → M' g) : SetCM w M' c := ⟨h.1.sub hs,h.2.1.sub hs,h.2.2.sub hs⟩
theorem SetsM.kept (h : SetsM w M v L) (hk : KeepM M w w') : SetsM w' M v L := ⟨h.1.kept hk,fun c hc => (h.2 c hc).kept hk⟩
theorem SetsM.sub (h : SetsM w M v L) (hs : ∀ g,M g → M' g) : SetsM w M' v L := ⟨h.1.sub hs,fun c hc => (h.2 c hc).sub hs⟩
theorem SetsM.nil : SetsM w M (.slice none 0 0) [] := ⟨FlatM.nil,fun _ h => by cases h⟩
def SetCells (w : World) (b off : Nat) (c : SetC) : Prop := ∀ (i : Nat) u,c.cells[i]? = some u → w.cell? ⟨b,off + i,none⟩ = some u
theorem SetsM.open_ (h : SetsM w M v L) : ∃ A c,v = .slice A L.length c ∧ L.length ≤ c ∧ c ≤ maxLen ∧ ∀ k (_ : k < L.length),∃ b off,A = some ⟨b,off,none⟩ ∧ M b ∧ b < w.heap.size ∧ ∀ j (hj : j < L.length),SetCells w b (off + j * 13) L[j] := by
 obtain ⟨⟨A,c,h1,h2,h3,h4⟩,_⟩ := h
 refine ⟨A,c,h1,h2,h3,fun k hk => ?_⟩
 obtain ⟨b,off,e,hm,hl,hc⟩ := h4 (by omega)
 refine ⟨b,off,e,hm,hl,fun j hj i u hu => ?_⟩
 have hi : i < 13 := by
  have := (List.getElem?_eq_some_iff.1 hu).1
  simpa [SetC.cells] using this
 rw [Nat.add_assoc]
 exact hc (j * 13 + i) u ((flatGet SetC.cells 13 (fun _ => rfl) L j i hj hi).trans hu)
end
end Go.Proofs.YtbhmkcjddpniiaaGreatDoor

namespace Go.Proofs.YtbhmkcjddpniiaaGreatDoor
open Go.RowKit Go.Shelf Go.WideMaps Go.Maps
def heldElem (v : Value) : Option (DataW Value × List MemPlace) := some (.held v,[])
def KMap (w : World) (b n : Nat) (F : ByteArray → Option Value) : Prop :=
 ∃ D : DataW Value,w.ownsMap Tryz.prog 9 heldElem b n D ∧ (∀ s,Maps.has D (keyS s) = (F s).isSome) ∧ ∀ s v,F s = some v → ∀ z,D.atKey (keyS s) z = .held v
theorem KMap.lt {w : World} {b n : Nat} {F : ByteArray → Option Value} (h : KMap w b n F) : b < w.heap.size := let ⟨_,h,_⟩ := h;h.lt
theorem KMap.kept {w w' : World} {b n : Nat} {F : ByteArray → Option Value} (h : KMap w b n F) {row : Option Nat} (hg : w.grownBy w' row) (hne : some b ≠ row) : KMap w' b n F :=
 let ⟨D,h1,h2,h3⟩ := h
 ⟨D,h1.kept hg hne,h2,h3⟩
theorem KMap.of_heap {w w' : World} {b n : Nat} {F : ByteArray → Option Value} (h : KMap w b n F) (he : w'.heap[b]? = w.heap[b]?) : KMap w' b n F := by
 obtain ⟨D,⟨es,clock,h0,r⟩,h2,h3⟩ := h
 exact ⟨D,⟨es,clock,he.trans h0,r⟩,h2,h3⟩
theorem KMap.made (w : World) : KMap (w.alloc (.map #[] 0)) w.heap.size 0 (fun _ => none) :=
 ⟨_,World.ownsMap_made w _ _ _,fun s => by simp [Maps.has],fun s v h => by cases h⟩
theorem KMap.look {w : World} {b n : Nat} {F : ByteArray → Option Value} (h : KMap w b n F) {t e : TypeId} (ht : Tryz.prog.underlying t = some (.map 9 e)) {z : Value} (hz : (zeroValue e).run Tryz.prog w = .ok z w) {s : ByteArray} (hs : s.size ≤ maxLen) :
  (Instr.lookup t (.map (some b)) (.string s) true).run Tryz.prog w = .ok (.tuple #[(F s).getD z,.bool (F s).isSome]) w := by
 obtain ⟨D,h1,h2,h3⟩ := h
 obtain ⟨v,ps,hrun,hv⟩ := h1.look_ok keyLaw ht hz (show heldElem z = some (.held z,[]) from rfl) (keyOf_s hs)
 have e1 : DataW.held v = D.atKey (keyS s) (.held z) := by
  have := congrArg (fun o : Option (DataW Value × List MemPlace) => o.map Prod.fst) hv
  simpa [heldElem] using this
 have e2 : v = (F s).getD z := by
  have hh := h2 s
  cases hF : F s with
  | none =>
   rw [hF] at hh
   rw [Maps.atKey_of_not_has hh] at e1
   exact DataW.held.inj e1
  | some u =>
   rw [h3 s u hF] at e1
   exact DataW.held.inj e1
 rw [hrun,h2,e2]
def putKF (F : ByteArray → Option Value) (s : ByteArray) (v : Value) : ByteArray → Option Value := fun s' => if s' = s then some v else F s'
theorem KMap.step {D : DataW Value} {F : ByteArray → Option Value} {s : ByteArray} {v : Value} (hm : IsMap D) (h2 : ∀ s,Maps.has D (keyS s) = (F s).isSome) (h3 : ∀ s v,F s = some v → ∀ z,D.atKey (keyS s) z = .held v) :
  (∀ s',Maps.has (D.put (keyS s) (.held v)) (keyS s') = (putKF F s v s').isSome) ∧ ∀ s' u,putKF F s v s' = some u → ∀ z,(D.put (keyS s) (.held v)).atKey (keyS s') z = .held u := by
 constructor
 ·intro s'
  unfold putKF
  by_cases e : s' = s
  ·subst e
   rw [if_pos rfl,Maps.has_put_same hm (keyS_key _)]
   rfl
  ·rw [if_neg e,Maps.has_put_other (fun e' => e (keyS_inj e')),h2]
 ·intro s' u hu z
  unfold putKF at hu
  by_cases e : s' = s
  ·subst e
   rw [if_pos rfl] at hu
   injection hu with hu
   rw [Maps.atKey_put_same hm (keyS_key _),hu]
  ·rw [if_neg e] at hu
   rw [Maps.atKey_put_other (fun e' => e (keyS_inj e'))]
   exact h3 s' u hu z
end Go.Proofs.YtbhmkcjddpniiaaGreatDoor

namespace Go.Proofs.YtbhmkcjddpniiaaGreatDoor
open Go.RowKit Go.Shelf
def SetsAt (w : World) (B : Nat) (v : Value) (L : List SetC) : Prop := Flat w B v L.length (L.flatMap SetC.cells)
theorem SetsAt.below {w w' : World} {B B' : Nat} {v : Value} {L : List SetC} (h : SetsAt w B v L) (hb : Below B' w w') (hB : B ≤ B') : SetsAt w' B v L := Flat.below h hb hB
theorem SetsAt.mono {w : World} {B B' : Nat} {v : Value} {L : List SetC} (h : SetsAt w B v L) (hB : B ≤ B') : SetsAt w B' v L := Flat.mono h hB
theorem SetsM.at {w : World} {M : Nat → Prop} {v : Value} {L : List SetC} (h : SetsM w M v L) : SetsAt w w.heap.size v L := h.1.flat
theorem SetsAt.open_ {w : World} {B : Nat} {v : Value} {L : List SetC} (h : SetsAt w B v L) : ∃ A c,v = .slice A L.length c ∧ L.length ≤ c ∧ c ≤ maxLen ∧ ∀ k (_ : k < L.length),∃ b off,A = some ⟨b,off,none⟩ ∧ b < B ∧ ∀ j (hj : j < L.length),SetCells w b (off + j * 13) L[j] := by
 obtain ⟨A,c,h1,h2,h3,h4⟩ := h
 refine ⟨A,c,h1,h2,h3,fun k hk => ?_⟩
 obtain ⟨b,off,e,hl,hc⟩ := h4 (by omega)
 refine ⟨b,off,e,hl,fun j hj i u hu => ?_⟩
 have hi : i < 13 := by
  have := (List.getElem?_eq_some_iff.1 hu).1
  simpa [SetC.cells] using this
 rw [Nat.add_assoc]
 exact hc (j * 13 + i) u ((flatGet SetC.cells 13 (fun _ => rfl) L j i hj hi).trans hu)
set_option maxRecDepth 100000 in
set_option maxHeartbeats 2000000 in
theorem indexFuncSet (v : Value) (l : List SetC) (K : Nat) (C : Array Value) (p : SetC → Bool) (eg : ∀ args w,(callFunc K args).run Tryz.prog w = .ok (.enter K args) w) (w : World) (hl : SetsAt w w.heap.size v l)
  (hf : ∀ t ∈ l,∀ w',Below w.heap.size w w' → Calls Tryz.prog K (#[t.val] ++ C) w' fun e w'' => e = .returned (.bool (p t)) ∧ Below w'.heap.size w' w'') :
  Calls Tryz.prog 138 #[v,.func (.func K) #[] C] w fun e w' => e = .returned (.int .i64 (idxOf (l.findIdx? p))) ∧ Below w.heap.size w w' := by
 obtain ⟨A,c,rfl,hc1,hc2,hcell⟩ := hl.open_
 unfold maxLen at hc2
 have HF := Lib.hid hf
 have HC := Lib.hid hcell
 clear hf hcell
 go_enter Tryz.func138,Tryz.ntmps138
 go_wp2
 go_loopw [8] (fun x wr => ∃ j : Nat,j ≤ l.length ∧ x = .int .i64 j ∧ (l.take j).findIdx? p = none ∧ Below w.heap.size w wr) (fun x _ => l.length - (intOf x).toNat)
 case atStart => exact ⟨0,Nat.zero_le _,rfl,by simp,Below.refl _ _⟩
 case round =>
  obtain ⟨j,hj,rfl,hnm,hbel⟩ := hrel
  have Hnm := Lib.hid hnm
  clear hnm
  by_cases hlt : j < l.length
  ·obtain ⟨b,off,rfl,hb,hcell⟩ := HC.out j hlt
   have h0 := (hbel.cell (p := ⟨b,off + j * 13,none⟩) hb).trans (hcell j hlt 0 _ rfl)
   have h1 := (hbel.cell (p := ⟨b,off + j * 13 + 1,none⟩) hb).trans (hcell j hlt 1 _ rfl)
   have h2 := (hbel.cell (p := ⟨b,off + j * 13 + 2,none⟩) hb).trans (hcell j hlt 2 _ rfl)
   have h3 := (hbel.cell (p := ⟨b,off + j * 13 + 3,none⟩) hb).trans (hcell j hlt 3 _ rfl)
   have h4 := (hbel.cell (p := ⟨b,off + j * 13 + 4,none⟩) hb).trans (hcell j hlt 4 _ rfl)
   have h5 := (hbel.cell (p := ⟨b,off + j * 13 + 5,none⟩) hb).trans (hcell j hlt 5 _ rfl)
   have h6 := (hbel.cell (p := ⟨b,off + j * 13 + 6,none⟩) hb).trans (hcell j hlt 6 _ rfl)
   have h7 := (hbel.cell (p := ⟨b,off + j * 13 + 7,none⟩) hb).trans (hcell j hlt 7 _ rfl)
   have h8 := (hbel.cell (p := ⟨b,off + j * 13 + 8,none⟩) hb).trans (hcell j hlt 8 _ rfl)
   have h9 := (hbel.cell (p := ⟨b,off + j * 13 + 9,none⟩) hb).trans (hcell j hlt 9 _ rfl)
   have h10 := (hbel.cell (p := ⟨b,off + j * 13 + 10,none⟩) hb).trans (hcell j hlt 10 _ rfl)
   have h11 := (hbel.cell (p := ⟨b,off + j * 13 + 11,none⟩) hb).trans (hcell j hlt 11 _ rfl)
   have h12 := (hbel.cell (p := ⟨b,off + j * 13 + 12,none⟩) hb).trans (hcell j hlt 12 _ rfl)
   clear hcell
   have hcall := HF.out l[j] (List.getElem_mem hlt)
   have HHit := Lib.hid (find_hit (p := p) Hnm.out hlt)
   have HMiss := Lib.hid (find_miss (p := p) Hnm.out hlt)
   generalize l[j] = t at *
   cases hq : p t with
   | true =>
    rw [hq] at hcall
    have HE := Lib.hid (HHit.out hq)
    clear HHit HMiss hq
    go_wp2_with (go_at_fn K;refine (hcall _ hbel).mono ?_;rintro e w' ⟨rfl,hb'⟩)
    go_ret
    exact ⟨by rw [HE.out];rfl,hbel.trans (hb'.mono hbel.size)⟩
   | false =>
    rw [hq] at hcall
    have HE := Lib.hid (HMiss.out hq)
    clear HHit HMiss hq
    go_wp2_with (go_at_fn K;refine (hcall _ hbel).mono ?_;rintro e w' ⟨rfl,hb'⟩)
    go_roundw
    case rel => exact ⟨j + 1,by omega,by go_num,HE.out,hbel.trans (hb'.mono hbel.size)⟩
    case measure => simp [intOf];omega
  ·have hje : j = l.length := by omega
   subst hje
   go_wp2
   go_ret
   exact ⟨by rw [← List.take_length (l := l),Hnm.out];rfl,hbel⟩
theorem entersFi : ∀ args w,(callFunc 139 args).run Tryz.prog w = .ok (.enter 139 args) w := enters_of Tryz.func139 (by kernel_rfl) rfl
set_option maxRecDepth 100000 in
set_option maxHeartbeats 1000000 in
theorem stFind1 (c : SetC) (nm : ByteArray) (E : Nat) (w : World) (hE : w.cell? ⟨E,0,none⟩ = some (.string nm)) (hl : E < w.heap.size) :
  Calls Tryz.prog 139 (#[c.val] ++ #[.pointer (some ⟨E,0,none⟩)]) w fun e w' => e = .returned (.bool (decide (c.s.name = nm))) ∧ Below w.heap.size w w' := by
 obtain ⟨s,al,cl,ai,ci,ab,cb⟩ := c
 show Calls Tryz.prog 139 #[setVal s al cl ai ci ab cb,.pointer (some ⟨E,0,none⟩)] w fun e w' => e = .returned (.bool (decide (s.name = nm))) ∧ Below w.heap.size w w'
 have HS := Lib.hid (str_beq s.name nm)
 unfold setVal
 have hl1 : E + 1 < w.heap.size + 1 := by omega
 have hx := fun o => (((Below.refl w.heap.size w).alloc (Nat.le_refl _) o).cell (p := ⟨E,0,none⟩) hl).trans hE
 go_enter Tryz.func139,Tryz.ntmps139
 go_wp2_with fail
 go_ret
 exact ⟨ret_bool HS.out,(Below.refl _ _).alloc (Nat.le_refl _) _⟩
set_option maxRecDepth 100000 in
set_option maxHeartbeats 1000000 in
theorem stFind (D : Nat) (sv : Value) (l : List SetC) (nm : ByteArray) (w : World) (hD : w.cell? ⟨D,0,none⟩ = some sv) (hDl : D < w.heap.size) (hl : SetsAt w w.heap.size sv l) :
  Calls Tryz.prog 79 #[.pointer (some ⟨D,0,none⟩),.string nm] w fun e w' => e = .returned (.int .i64 (idxOf (l.findIdx? fun c => decide (c.s.name = nm)))) ∧ Below w.heap.size w w' := by
 have hb1 : Below w.heap.size w (w.alloc (.cells #[.string nm] 9)) := (Below.refl _ _).alloc (Nat.le_refl _) _
 have hl1 := (hl.below hb1 (Nat.le_refl _)).mono hb1.size
 have hE := (Blk.new w 9 #[.string nm]).cell 0
 have hEl := (Blk.new w 9 #[.string nm]).lt
 have hIx := indexFuncSet sv l 139 #[.pointer (some ⟨w.heap.size,0,none⟩)] (fun c => decide (c.s.name = nm)) entersFi _ hl1 (fun t _ w' hb => stFind1 t nm w.heap.size w' ((hb.cell (p := ⟨w.heap.size,0,none⟩) hEl).trans hE) (Nat.lt_of_lt_of_le hEl hb.size))
 have hD1 := (hb1.cell (p := ⟨D,0,none⟩) hDl).trans hD
 have HB1 := Lib.hid hb1
 obtain ⟨A,cc,rfl⟩ : ∃ A cc,sv = .slice A l.length cc := let ⟨A,c,h,_⟩ := hl.open_;⟨A,c,h⟩
 clear hl hl1 hE hb1
 go_enter Tryz.func79,Tryz.ntmps79
 go_wp2_with fail
 refine hIx.mono ?_
 rintro e w2 ⟨rfl,hb2⟩
 have hb := HB1.out.trans (hb2.mono HB1.out.size)
 go_wp2_with fail
 go_ret
 exact ⟨rfl,hb⟩
end Go.Proofs.YtbhmkcjddpniiaaGreatDoor

namespace Go.Proofs.YtbhmkcjddpniiaaGreatDoor
open Go.RowKit Go.Shelf
structure St where
 sets : List SetT
 past : List (List SetT)
 known : List SetT
 work : Nat
def idxS (l : List SetT) (nm : ByteArray) : Option Nat := l.findIdx? fun x => decide (x.name = nm)
def putSt (st : St) (x : SetT) : Int × St :=
 match idxS st.sets x.name with
 | some k => if st.sets[k]? = some x then (0,st) else (0,{ st with sets := st.sets.set k x,past := st.past ++ [st.sets] })
 | none => if 60 ≤ st.sets.length then (4,st) else (0,{ st with sets := st.sets ++ [x],past := st.past ++ [st.sets] })
def putV (st : St) (x : SetT) : Int × St := if setB x then putSt st x else (1,st)
def dropSt (st : St) (nm : ByteArray) : Int × St :=
 match idxS st.sets nm with
 | some k => (0,{ st with sets := st.sets.eraseIdx k,past := st.past ++ [st.sets] })
 | none => (9,st)
def undoSt (st : St) : Int × St := if st.past = [] then (14,st) else (0,{ st with sets := st.past.getLastD [],past := st.past.dropLast })
def linesSt (st : St) (nm : ByteArray) : St :=
 match idxS st.sets nm with
 | some k => match st.sets[k]? with
  | some x => if x ∈ st.known then st else { st with known := st.known ++ [x],work := st.work + 1 }
  | none => st
 | none => st
def linesOf (x : SetT) : List FrT := if linesErr x = 0 then linesL x else []
theorem idxS_some {l : List SetT} {nm : ByteArray} {k : Nat} (h : idxS l nm = some k) : ∃ hk : k < l.length,l[k].name = nm ∧ ∀ j (hj : j < k),l[j].name ≠ nm := by
 unfold idxS at h
 rw [List.findIdx?_eq_some_iff_getElem] at h
 obtain ⟨hk,h1,h2⟩ := h
 exact ⟨hk,by simpa using h1,fun j hj => by simpa using h2 j hj⟩
theorem idxS_none {l : List SetT} {nm : ByteArray} (h : idxS l nm = none) : ∀ x ∈ l,x.name ≠ nm := by
 unfold idxS at h
 rw [List.findIdx?_eq_none_iff] at h
 intro x hx
 simpa using h x hx
structure StOk (st : St) : Prop where
 sets : ∀ x ∈ st.sets,setB x = true
 nodup : (st.sets.map SetT.name).Nodup
 len : st.sets.length ≤ 60
 past : ∀ l ∈ st.past,(∀ x ∈ l,setB x = true) ∧ (l.map SetT.name).Nodup ∧ l.length ≤ 60
 known : ∀ x ∈ st.known,setB x = true
theorem stOk_new : StOk ⟨[],[],[],0⟩ := ⟨(fun _ h => absurd h List.not_mem_nil),List.nodup_nil,Nat.zero_le _,(fun _ h => absurd h List.not_mem_nil),(fun _ h => absurd h List.not_mem_nil)⟩
theorem StOk.names {st : St} (h : StOk st) : ∀ x ∈ st.sets,SetNames x := fun x hx =>
 let hb := h.sets x hx
 ⟨Nat.le_trans (name_size (setB_name hb)) (by unfold maxLen;decide),fun y hy => Nat.le_trans (name_size (alone_name ((setB_ok hb).wts.2 y hy).1)) (by unfold maxLen;decide),fun y hy => Nat.le_trans (name_size (brick_facts ((bricks_facts hb).2 y hy)).1) (by unfold maxLen;decide)⟩
theorem names_set {l : List SetT} {k : Nat} {x : SetT} (hk : k < l.length) (hn : l[k].name = x.name) : (l.set k x).map SetT.name = l.map SetT.name := by
 rw [List.map_set]
 apply List.ext_getElem?
 intro i
 rw [List.getElem?_set]
 split
 ·rename_i e
  subst e
  simp [hk,hn]
 ·rfl
theorem StOk.put {st : St} (h : StOk st) {x : SetT} (hx : setB x = true) : StOk (putSt st x).2 := by
 have hp : ∀ l ∈ st.past ++ [st.sets],(∀ x ∈ l,setB x = true) ∧ (l.map SetT.name).Nodup ∧ l.length ≤ 60 := by
  intro l hl
  rcases List.mem_append.1 hl with hl | hl
  ·exact h.past l hl
  ·rw [List.mem_singleton] at hl
   subst hl
   exact ⟨h.sets,h.nodup,h.len⟩
 unfold putSt
 cases hi : idxS st.sets x.name with
 | some k =>
  obtain ⟨hk,hn,-⟩ := idxS_some hi
  dsimp only
  split
  ·exact h
  ·refine ⟨fun y hy => ?_,?_,?_,hp,h.known⟩
   ·rcases List.mem_or_eq_of_mem_set hy with hy | rfl
    ·exact h.sets y hy
    ·exact hx
   ·show ((st.sets.set k x).map SetT.name).Nodup
    rw [names_set hk hn]
    exact h.nodup
   ·show (st.sets.set k x).length ≤ 60
    rw [List.length_set]
    exact h.len
 | none =>
  have hn := idxS_none hi
  dsimp only
  split
  ·exact h
  ·refine ⟨fun y hy => ?_,?_,?_,hp,h.known⟩
   ·rcases List.mem_append.1 hy with hy | hy
    ·exact h.sets y hy
    ·rw [List.mem_singleton] at hy
     subst hy
     exact hx
   ·show ((st.sets ++ [x]).map SetT.name).Nodup
    rw [List.map_append,List.nodup_append]
    refine ⟨h.nodup,by simp,?_⟩
    intro a ha b hb
    simp only [List.map_cons,List.map_nil,List.mem_singleton] at hb
    subst hb
    obtain ⟨y,hy,rfl⟩ := List.mem_map.1 ha
    exact hn y hy
   ·show (st.sets ++ [x]).length ≤ 60
    rw [List.length_append]
    simp only [List.length_singleton]
    omega
theorem StOk.drop {st : St} (h : StOk st) (nm : ByteArray) : StOk (dropSt st nm).2 := by
 unfold dropSt
 cases hi : idxS st.sets nm with
 | some k =>
  have hsub : (st.sets.eraseIdx k).Sublist st.sets := List.eraseIdx_sublist _ _
  refine ⟨fun y hy => h.sets y (hsub.subset hy),?_,?_,?_,h.known⟩
  ·exact (hsub.map SetT.name).nodup h.nodup
  ·exact Nat.le_trans hsub.length_le h.len
  ·intro l hl
   rcases List.mem_append.1 hl with hl | hl
   ·exact h.past l hl
   ·rw [List.mem_singleton] at hl
    subst hl
    exact ⟨h.sets,h.nodup,h.len⟩
 | none => exact h
theorem StOk.undo {st : St} (h : StOk st) : StOk (undoSt st).2 := by
 unfold undoSt
 split
 ·exact h
 ·rename_i hne
  have hl : st.past.getLastD [] ∈ st.past := by
   cases hp : st.past with
   | nil => exact absurd hp hne
   | cons a r =>
    rw [List.getLastD_cons]
    have := List.getLast_mem (l := a :: r) (by simp)
    rw [List.getLast_eq_getLastD] at this
    simpa using this
  obtain ⟨h1,h2,h3⟩ := h.past _ hl
  exact ⟨h1,h2,h3,fun l hl => h.past l (List.dropLast_subset _ hl),h.known⟩
theorem StOk.lines {st : St} (h : StOk st) (nm : ByteArray) : StOk (linesSt st nm) := by
 unfold linesSt
 cases hi : idxS st.sets nm with
 | none => exact h
 | some k =>
  cases hk : st.sets[k]? with
  | none => simpa [hk] using h
  | some x =>
   simp only [hk]
   split
   ·exact h
   ·refine ⟨h.sets,h.nodup,h.len,h.past,fun y hy => ?_⟩
    rcases List.mem_append.1 hy with hy | hy
    ·exact h.known y hy
    ·rw [List.mem_singleton] at hy
     subst hy
     exact h.sets y (List.mem_of_getElem? hk)
end Go.Proofs.YtbhmkcjddpniiaaGreatDoor

namespace Go.Proofs.YtbhmkcjddpniiaaGreatDoor
open Go.RowKit Go.Shelf
set_option maxRecDepth 100000 in
set_option maxHeartbeats 4000000 in
theorem versOwn (v : Value) (s : SetT) (w : World) (hv : SetAt w w.heap.size v s) (h1 : s.lines.length ≤ 1000) (h2 : s.items.length ≤ 1000) (h3 : s.bricks.length ≤ 1000) : Calls Tryz.prog 81 #[v] w (CopyPost s w) := by
  obtain ⟨Al, cl, Ai, ci, Ab, cb, rfl, hL, hI, hB⟩ := hv
  have HL := Lib.hid hL
  have HI := Lib.hid hI
  have HK := Lib.hid hB
  clear hL hI hB
  unfold setVal at *
  go_enter Tryz.func81, Tryz.ntmps81
  go_wp2_with (exact Go.WalkKit.wp_stop)
  have hd0 := (Blk.new w 26 #[.string s.name, .int .i64 s.depth, .int .i64 s.low, .int .i64 s.high, .int .i64 s.len, .slice Al s.lines.length cl, .int .i64 s.pipe, .int .i64 s.arbor, .int .i64 s.purch, .int .i64 s.most, .int .i64 s.brake, .slice Ai s.items.length ci, .slice Ab s.bricks.length cb]).alloc (.cells #[.string ⟨#[]⟩, .int .i64 0, .int .i64 0, .int .i64 0, .int .i64 0, .slice none 0 0, .int .i64 0, .int .i64 0, .int .i64 0, .int .i64 0, .int .i64 0, .slice none 0 0, .slice none 0 0] 26)
  have hd1 := Blk.new (w.alloc (.cells #[.string s.name, .int .i64 s.depth, .int .i64 s.low, .int .i64 s.high, .int .i64 s.len, .slice Al s.lines.length cl, .int .i64 s.pipe, .int .i64 s.arbor, .int .i64 s.purch, .int .i64 s.most, .int .i64 s.brake, .slice Ai s.items.length ci, .slice Ab s.bricks.length cb] 26)) 26 #[.string ⟨#[]⟩, .int .i64 0, .int .i64 0, .int .i64 0, .int .i64 0, .slice none 0 0, .int .i64 0, .int .i64 0, .int .i64 0, .int .i64 0, .int .i64 0, .slice none 0 0, .slice none 0 0]
  rw [World.size_alloc] at hd1
  have hB2 := ((Below.refl _ w).alloc (Nat.le_refl _) (.cells #[.string s.name, .int .i64 s.depth, .int .i64 s.low, .int .i64 s.high, .int .i64 s.len, .slice Al s.lines.length cl, .int .i64 s.pipe, .int .i64 s.arbor, .int .i64 s.purch, .int .i64 s.most, .int .i64 s.brake, .slice Ai s.items.length ci, .slice Ab s.bricks.length cb] 26)).alloc (by simp) (.cells #[.string ⟨#[]⟩, .int .i64 0, .int .i64 0, .int .i64 0, .int .i64 0, .slice none 0 0, .int .i64 0, .int .i64 0, .int .i64 0, .int .i64 0, .int .i64 0, .slice none 0 0, .slice none 0 0] 26)
  generalize (w.alloc (.cells #[.string s.name, .int .i64 s.depth, .int .i64 s.low, .int .i64 s.high, .int .i64 s.len, .slice Al s.lines.length cl, .int .i64 s.pipe, .int .i64 s.arbor, .int .i64 s.purch, .int .i64 s.most, .int .i64 s.brake, .slice Ai s.items.length ci, .slice Ab s.bricks.length cb] 26)).alloc (.cells #[.string ⟨#[]⟩, .int .i64 0, .int .i64 0, .int .i64 0, .int .i64 0, .slice none 0 0, .int .i64 0, .int .i64 0, .int .i64 0, .int .i64 0, .int .i64 0, .slice none 0 0, .slice none 0 0] 26) = W2 at *
  have HD0 := Lib.hid hd0
  have HD1 := Lib.hid hd1
  have HB2 := Lib.hid hB2
  clear hd0 hd1 hB2
  have y5 := HD0.out.cell 5
  have y11 := HD0.out.cell 11
  have y12 := HD0.out.cell 12
  simp only [List.getElem?_toArray, List.getElem?_cons_succ, List.getElem?_cons_zero] at y5 y11 y12
  have u5 := HeldB.cell y5
  have u11 := HeldB.cell y11
  have u12 := HeldB.cell y12
  clear y5 y11 y12
  refine wp_region_grow 10 (fun jx => if jx = 2 then some (gO w.heap.size s.lines) else if jx = 5 then some (gRow w.heap.size 47 7 s.items.length (s.items.flatMap ItemT.cells)) else if jx = 8 then some (gRow w.heap.size 49 3 s.bricks.length (s.bricks.flatMap BrickT.cells)) else none) (by kernel_rfl) (by kernel_rfl) ?_
  simp only [List.take_succ_cons, List.take_zero, List.drop_succ_cons, List.drop_zero]
  refine wpG_quiet 2 (by kernel_rfl) (by rfl) (by decide) ?_
  simp only [List.take_succ_cons, List.take_zero, List.drop_succ_cons, List.drop_zero]
  repeat (go_big_quiet_step (fail))
  refine wpQuiet_nil ?_
  refine wpG_call rfl rfl ?_ ?_
  · intro w1 hb1 hk
    have hb := HB2.out.trans (hb1.mono HB2.out.size)
    have hC := clone_g (B := w.heap.size) (RowAt.mono (RowAt.below HL.out hb (Nat.le_refl _)) hb.size) (by omega) hb.size
    exact ⟨140, #[.slice Al s.lines.length cl], by go_simp, hC⟩
  rintro _ ⟨A1, k1, rfl⟩
  simp only [Act.put, List.setIfInBounds_toArray, List.set_cons_zero, List.set_cons_succ]
  refine wpG_quiet 2 (by kernel_rfl) (by rfl) (by decide) ?_
  simp only [List.take_succ_cons, List.take_zero, List.drop_succ_cons, List.drop_zero]
  repeat (go_big_quiet_step (fail))
  refine wpQuiet_nil ?_
  refine wpG_call rfl rfl ?_ ?_
  · intro w1 hb1 hk
    have hb := HB2.out.trans (hb1.mono HB2.out.size)
    have hC := row_g (B := w.heap.size) (cloneItem _ s.items w1 (ItemsAt.mono (ItemsAt.below HI.out hb (Nat.le_refl _)) hb.size) (by omega)) hb.size
    exact ⟨141, #[.slice Ai s.items.length ci], by go_simp, hC⟩
  rintro _ ⟨A2, k2, rfl⟩
  simp only [Act.put, List.setIfInBounds_toArray, List.set_cons_zero, List.set_cons_succ]
  refine wpG_quiet 2 (by kernel_rfl) (by rfl) (by decide) ?_
  simp only [List.take_succ_cons, List.take_zero, List.drop_succ_cons, List.drop_zero]
  repeat (go_big_quiet_step (fail))
  refine wpQuiet_nil ?_
  refine wpG_call rfl rfl ?_ ?_
  · intro w1 hb1 hk
    have hb := HB2.out.trans (hb1.mono HB2.out.size)
    have hC := row_g (B := w.heap.size) (cloneBrick _ s.bricks w1 (BricksAt.mono (BricksAt.below HK.out hb (Nat.le_refl _)) hb.size) (by omega)) hb.size
    exact ⟨142, #[.slice Ab s.bricks.length cb], by go_simp, hC⟩
  rintro _ ⟨A3, k3, rfl⟩
  simp only [Act.put, List.setIfInBounds_toArray, List.set_cons_zero, List.set_cons_succ]
  refine wpG_quiet 1 (by kernel_rfl) (by rfl) (by decide) ?_
  simp only [List.take_succ_cons, List.take_zero, List.drop_succ_cons, List.drop_zero]
  repeat (go_big_quiet_step (fail))
  refine wpQuiet_nil ?_
  refine wpG_nil ?_
  intro w8 hb8 hF
  have o1 : w8.ownsRow w.heap.size 3 1 (.slice A1 s.lines.length k1) s.lines.length (s.lines.map (Value.int .i64)) := hF 5
  have o2 : w8.ownsRow w.heap.size 47 7 (.slice A2 s.items.length k2) s.items.length (s.items.flatMap ItemT.cells) := hF 8
  have o3 : w8.ownsRow w.heap.size 49 3 (.slice A3 s.bricks.length k3) s.bricks.length (s.bricks.flatMap BrickT.cells) := hF 11
  have d0 := HD0.out.below hb8 HD0.out.lt
  have d1 := HD1.out.below hb8 HD1.out.lt
  have HB8 := Lib.hid (HB2.out.trans (hb8.mono HB2.out.size))
  have e1 := d0.set_ 5 (.slice A1 s.lines.length k1)
  have e2 := e1.set_ 11 (.slice A2 s.items.length k2)
  have e3 : Blk (((w8.setCell ⟨w.heap.size, 5, none⟩ (.slice A1 s.lines.length k1)).setCell ⟨w.heap.size, 11, none⟩ (.slice A2 s.items.length k2)).setCell ⟨w.heap.size, 12, none⟩ (.slice A3 s.bricks.length k3)) w.heap.size 26 #[.string s.name, .int .i64 s.depth, .int .i64 s.low, .int .i64 s.high, .int .i64 s.len, .slice A1 s.lines.length k1, .int .i64 s.pipe, .int .i64 s.arbor, .int .i64 s.purch, .int .i64 s.most, .int .i64 s.brake, .slice A2 s.items.length k2, .slice A3 s.bricks.length k3] := e2.set_ 12 (.slice A3 s.bricks.length k3)
  have c5 := d0.cell 5
  have f5 := d0.frozen 5
  have c11 := e1.cell 11
  have f11 := e1.frozen 11
  have c12 := e2.cell 12
  have f12 := e2.frozen 12
  simp only [List.setIfInBounds_toArray, List.set_cons_zero, List.set_cons_succ] at c11 c12
  simp only [List.getElem?_toArray, List.getElem?_cons_succ, List.getElem?_cons_zero] at c5 c11 c12
  have hne : w.heap.size + 1 ≠ w.heap.size := by omega
  have d3 := ((d1.far (p := ⟨w.heap.size, 5, none⟩) hne (.slice A1 s.lines.length k1)).far (p := ⟨w.heap.size, 11, none⟩) hne (.slice A2 s.items.length k2)).far (p := ⟨w.heap.size, 12, none⟩) hne (.slice A3 s.bricks.length k3)
  have hG3 := grown_trans (grown_trans (setG_grownB w8 w.heap.size 5 (.slice A1 s.lines.length k1)) (setG_grownB _ w.heap.size 11 (.slice A2 s.items.length k2))) (setG_grownB _ w.heap.size 12 (.slice A3 s.bricks.length k3))
  have q1 := o1.kept hG3 (own_not o1 d0 (by decide))
  have q2 := o2.kept hG3 (own_not o2 d0 (by decide))
  have q3 := o3.kept hG3 (own_not o3 d0 (by decide))
  have hB3 := HB8.out.grown hG3 HB8.out.size (fun k e => by obtain rfl : w.heap.size = k := by simpa using e
                                                            exact Nat.le_refl _)
  have E3 := Lib.hid e3
  have D3 := Lib.hid d3
  have HB3 := Lib.hid hB3
  have Q1 := Lib.hid q1
  have Q2 := Lib.hid q2
  have Q3 := Lib.hid q3
  have hth : World.there (((w8.setCell ⟨w.heap.size, 5, none⟩ (.slice A1 s.lines.length k1)).setCell ⟨w.heap.size, 11, none⟩ (.slice A2 s.items.length k2)).setCell ⟨w.heap.size, 12, none⟩ (.slice A3 s.bricks.length k3)) (w.heap.size + 1) 0 13 := blk_there d3 rfl
  have HTh := Lib.hid hth
  have ER := Lib.hid (blk_range e3)
  have HR := Lib.hid (World.rangeAt_setCells_same (((w8.setCell ⟨w.heap.size, 5, none⟩ (.slice A1 s.lines.length k1)).setCell ⟨w.heap.size, 11, none⟩ (.slice A2 s.items.length k2)).setCell ⟨w.heap.size, 12, none⟩ (.slice A3 s.bricks.length k3)) (w.heap.size + 1) 0 [.string s.name, .int .i64 s.depth, .int .i64 s.low, .int .i64 s.high, .int .i64 s.len, .slice A1 s.lines.length k1, .int .i64 s.pipe, .int .i64 s.arbor, .int .i64 s.purch, .int .i64 s.most, .int .i64 s.brake, .slice A2 s.items.length k2, .slice A3 s.bricks.length k3] hth)
  clear o1 o2 o3 d0 d1 e1 e2 e3 d3 hG3 q1 q2 q3 hB3 HB8 hF hb8 u5 u11 u12 HD0 HD1 HB2 HL HI HK E3 hth
  go_upto_region 2 with fail
  refine wp_region_lit ?_
  refine wpList_load_mid rfl 26 (.tmp 1) rfl w.heap.size 0 rfl [.string s.name, .int .i64 s.depth, .int .i64 s.low, .int .i64 s.high, .int .i64 s.len, .slice A1 s.lines.length k1, .int .i64 s.pipe, .int .i64 s.arbor, .int .i64 s.purch, .int .i64 s.most, .int .i64 s.brake, .slice A2 s.items.length k2, .slice A3 s.bricks.length k3] _ ER.out Tryz.underlying26 rfl (by kernel_rfl) ?_
  refine wpList_store_mid rfl 26 (.tmp 2) (.tmp 15) rfl (w.heap.size + 1) 0 #[.string s.name, .int .i64 s.depth, .int .i64 s.low, .int .i64 s.high, .int .i64 s.len, .slice A1 s.lines.length k1, .int .i64 s.pipe, .int .i64 s.arbor, .int .i64 s.purch, .int .i64 s.most, .int .i64 s.brake, .slice A2 s.items.length k2, .slice A3 s.bricks.length k3] rfl rfl HTh.out (by kernel_rfl) (by simp [Value.oneCell']) ?_
  refine wpList_nil ?_
  simp only [Act.put, List.setIfInBounds_toArray, List.set_cons_zero, List.set_cons_succ]
  clear ER HTh
  generalize (((w8.setCell ⟨w.heap.size, 5, none⟩ (.slice A1 s.lines.length k1)).setCell ⟨w.heap.size, 11, none⟩ (.slice A2 s.items.length k2)).setCell ⟨w.heap.size, 12, none⟩ (.slice A3 s.bricks.length k3)) = W3 at *
  have hG9 := grown_setCells (w.heap.size + 1) [.string s.name, .int .i64 s.depth, .int .i64 s.low, .int .i64 s.high, .int .i64 s.len, .slice A1 s.lines.length k1, .int .i64 s.pipe, .int .i64 s.arbor, .int .i64 s.purch, .int .i64 s.most, .int .i64 s.brake, .slice A2 s.items.length k2, .slice A3 s.bricks.length k3] 0 W3
  have hB9 := HB3.out.grown hG9 HB3.out.size (fun k e => by obtain rfl : w.heap.size + 1 = k := by simpa using e
                                                            omega)
  have r1 := Q1.out.kept hG9 (own_not Q1.out D3.out (by decide))
  have r2 := Q2.out.kept hG9 (own_not Q2.out D3.out (by decide))
  have r3 := Q3.out.kept hG9 (own_not Q3.out D3.out (by decide))
  have p0 := HR.out 0 _ rfl
  have p1 := HR.out 1 _ rfl
  have p2 := HR.out 2 _ rfl
  have p3 := HR.out 3 _ rfl
  have p4 := HR.out 4 _ rfl
  have p5 := HR.out 5 _ rfl
  have p6 := HR.out 6 _ rfl
  have p7 := HR.out 7 _ rfl
  have p8 := HR.out 8 _ rfl
  have p9 := HR.out 9 _ rfl
  have p10 := HR.out 10 _ rfl
  have p11 := HR.out 11 _ rfl
  have p12 := HR.out 12 _ rfl
  simp only [Nat.zero_add] at p0 p1 p2 p3 p4 p5 p6 p7 p8 p9 p10 p11 p12
  generalize World.setCells W3 (w.heap.size + 1) 0 [.string s.name, .int .i64 s.depth, .int .i64 s.low, .int .i64 s.high, .int .i64 s.len, .slice A1 s.lines.length k1, .int .i64 s.pipe, .int .i64 s.arbor, .int .i64 s.purch, .int .i64 s.most, .int .i64 s.brake, .slice A2 s.items.length k2, .slice A3 s.bricks.length k3] = W9 at *
  clear hG9 HR Q1 Q2 Q3 D3 HB3
  go_wp2_with fail
  refine bodyPost_ret (v := .agg #[.string s.name, .int .i64 s.depth, .int .i64 s.low, .int .i64 s.high, .int .i64 s.len, .slice A1 s.lines.length k1, .int .i64 s.pipe, .int .i64 s.arbor, .int .i64 s.purch, .int .i64 s.most, .int .i64 s.brake, .slice A2 s.items.length k2, .slice A3 s.bricks.length k3]) (by simp [results, Tryz.results81, go_sem, p0, p1, p2, p3, p4, p5, p6, p7, p8, p9, p10, p11, p12]) rfl ?_
  exact ⟨hB9, A1, k1, A2, k2, A3, k3, rfl, r1, r2, r3⟩
end Go.Proofs.YtbhmkcjddpniiaaGreatDoor

namespace Go.Proofs.YtbhmkcjddpniiaaGreatDoor
open Go.RowKit Go.Shelf
def KnownAt (w : World) (B : Nat) (M : Nat → Prop) (mv : Value) (K : List SetT) : Prop :=
 (mv = .map none ∧ K = []) ∨ ∃ b F,mv = .map (some b) ∧ B ≤ b ∧ ¬ M b ∧ KMap w b K.length F ∧ (∀ x,setB x = true → (F (⟨(setText x).toArray⟩ : ByteArray)).isSome = decide (x ∈ K)) ∧
  ∀ x ∈ K,∃ v,F (⟨(setText x).toArray⟩ : ByteArray) = some (.agg #[v,.int .i64 (linesErr x)]) ∧ FlatM w M v (linesOf x).length ((linesOf x).flatMap FrT.cells)
structure StR where
 sv : Value
 L : List SetC
 pv : Value
 P : List (Value × List SetC)
 mv : Value
structure StoreAt (w : World) (B D : Nat) (M : Nat → Prop) (st : St) (r : StR) : Prop where
 blk : Blk w D 76 #[r.sv,r.pv,r.mv,.int .i64 (st.work : Int)]
 base : B ≤ D
 notM : ¬ M D
 lt : ∀ g,M g → g < w.heap.size
 sets : SetsM w M r.sv r.L
 setsE : r.L.map SetC.s = st.sets
 own : w.ownsRow B 66 1 r.pv r.P.length (r.P.map Prod.fst)
 ownM : ∀ g,r.pv.ownBlock = some g → ¬ M g
 past : ∀ q ∈ r.P,SetsM w M q.1 q.2
 pastE : r.P.map (fun q => q.2.map SetC.s) = st.past
 known : KnownAt w B M r.mv st.known
def StR.foot (r : StR) (D : Nat) (M : Nat → Prop) (g : Nat) : Prop := M g ∨ g = D ∨ r.pv.ownBlock = some g ∨ r.mv = .map (some g)
theorem own_same {w w' : World} {B e s n : Nat} {v : Value} {xs : List Value} (h : w.ownsRow B e s v n xs) (hk : ∀ g,v.ownBlock = some g → w'.heap[g]? = w.heap[g]?) : w'.ownsRow B e s v n xs := by
 obtain ⟨hl,h0 | ⟨g,cap,cur,hv,hg0,hh,r⟩⟩ := h
 ·exact ⟨hl,.inl h0⟩
 ·exact ⟨hl,.inr ⟨g,cap,cur,hv,hg0,(hk g (by rw [hv];simp [Value.ownBlock])).trans hh,r⟩⟩
theorem KnownAt.kept {w w' : World} {B : Nat} {M : Nat → Prop} {mv : Value} {K : List SetT} (h : KnownAt w B M mv K) (hk : KeepM M w w') (hm : ∀ g,mv = .map (some g) → w'.heap[g]? = w.heap[g]?) : KnownAt w' B M mv K := by
 rcases h with h | ⟨b,F,h1,h2,h3,h4,h5,h6⟩
 ·exact .inl h
 ·exact .inr ⟨b,F,h1,h2,h3,h4.of_heap (hm b h1),h5,fun x hx => let ⟨v,e1,e2⟩ := h6 x hx;⟨v,e1,e2.kept hk⟩⟩
section
variable {w w' : World} {B D : Nat} {M : Nat → Prop} {st : St} {r : StR}
theorem StoreAt.footLt (h : StoreAt w B D M st r) {g : Nat} (hg : r.foot D M g) : g < w.heap.size := by
 rcases hg with hg | rfl | hg | hg
 ·exact h.lt g hg
 ·exact h.blk.lt
 ·exact (h.own.lt g hg).2
 ·rcases h.known with ⟨h1,_⟩ | ⟨b,F,h1,_,_,h4,_⟩
  ·rw [h1] at hg;cases hg
  ·rw [h1] at hg
   obtain rfl : b = g := by simpa using hg
   exact h4.lt
theorem StoreAt.kept (h : StoreAt w B D M st r) (hs : w.heap.size ≤ w'.heap.size) (hk : ∀ g,r.foot D M g → w'.heap[g]? = w.heap[g]?) : StoreAt w' B D M st r := by
 have hM : KeepM M w w' := ⟨hs,fun g hg _ => hk g (.inl hg)⟩
 refine ⟨(hk D (.inr (.inl rfl))).trans h.blk,h.base,h.notM,fun g hg => Nat.lt_of_lt_of_le (h.lt g hg) hs,h.sets.kept hM,h.setsE,own_same h.own fun g hg => hk g (.inr (.inr (.inl hg))),h.ownM,fun q hq => (h.past q hq).kept hM,h.pastE,h.known.kept hM fun g hg => hk g (.inr (.inr (.inr hg)))⟩
theorem StoreAt.below (h : StoreAt w B D M st r) (hb : Below w.heap.size w w') : StoreAt w' B D M st r := h.kept hb.size fun g hg => hb.block g (h.footLt hg)
theorem StoreAt.at (h : StoreAt w B D M st r) : SetsAt w w.heap.size r.sv r.L := h.sets.at
end
structure ChgS (B : Nat) (w w' : World) : Prop where
 bel : Below B w w'
 same : ∀ (g : Nat) cs t f,w.heap[g]? = some (.cells cs t f) → t ≠ 76 → t ≠ 66 → w'.heap[g]? = w.heap[g]?
theorem ChgS.of_below {B : Nat} {w w' : World} (h : Below w.heap.size w w') (hB : B ≤ w.heap.size) : ChgS B w w' :=
 ⟨h.mono hB,fun g _ _ _ hg _ _ => h.block g (Array.getElem?_eq_some_iff.1 hg).1⟩
theorem ChgS.refl (B : Nat) (w : World) : ChgS B w w := ⟨Below.refl _ _,fun _ _ _ _ _ _ _ => rfl⟩
theorem ChgS.trans {B : Nat} {a b c : World} (h : ChgS B a b) (k : ChgS B b c) : ChgS B a c :=
 ⟨h.bel.trans k.bel,fun g cs t f hg h1 h2 => (k.same g cs t f ((h.same g cs t f hg h1 h2).trans hg) h1 h2).trans (h.same g cs t f hg h1 h2)⟩
theorem idx_find (L : List SetC) (nm : ByteArray) : L.findIdx? (fun c => decide (c.s.name = nm)) = idxS (L.map SetC.s) nm := by
 unfold idxS
 rw [List.findIdx?_map]
 rfl
end Go.Proofs.YtbhmkcjddpniiaaGreatDoor

namespace Go.Proofs.YtbhmkcjddpniiaaGreatDoor
open Go.RowKit Go.Shelf
def zeroSet : SetT := ⟨⟨#[]⟩,0,0,0,0,[],0,0,0,0,0,[],[]⟩
def zeroC : SetC := ⟨zeroSet,none,0,none,0,none,0⟩
def NamedPost (st : St) (r : StR) (nm : ByteArray) (w : World) (e : Ending) (w' : World) : Prop :=
 Below w.heap.size w w' ∧ ((∃ k c,idxS st.sets nm = some k ∧ r.L[k]? = some c ∧ e = .returned (.tuple #[c.val,.int .i64 0])) ∨ (idxS st.sets nm = none ∧ e = .returned (.tuple #[zeroC.val,.int .i64 9])))
theorem idx_in {r : StR} {st : St} (h : r.L.map SetC.s = st.sets) {nm : ByteArray} {k : Nat} (hi : idxS st.sets nm = some k) : ∃ hk : k < r.L.length,r.L[k].s.name = nm := by
 obtain ⟨hk,hn,-⟩ := idxS_some hi
 have hk' : k < r.L.length := by rw [← List.length_map (f := SetC.s),h];exact hk
 refine ⟨hk',?_⟩
 have : st.sets[k] = r.L[k].s := by
  have e := List.getElem_map SetC.s (l := r.L) (i := k) (h := by rw [h];exact hk)
  rw [← e]
  congr 1
  exact h.symm
 rw [← this]
 exact hn
set_option maxRecDepth 100000 in
set_option maxHeartbeats 4000000 in
theorem stNamed (B D : Nat) (M : Nat → Prop) (st : St) (r : StR) (nm : ByteArray) (w : World) (h : StoreAt w B D M st r) :
  Calls Tryz.prog 83 #[.pointer (some ⟨D,0,none⟩),.string nm] w (NamedPost st r nm w) := by
 have HB1 := Lib.hid ((Below.refl _ w).alloc (Nat.le_refl _) (.cells #[.string ⟨#[]⟩,.int .i64 0,.int .i64 0,.int .i64 0,.int .i64 0,.slice none 0 0,.int .i64 0,.int .i64 0,.int .i64 0,.int .i64 0,.int .i64 0,.slice none 0 0,.slice none 0 0] 26))
 have h1 := h.below HB1.out
 have hd := h1.blk.cell 0
 simp only [List.getElem?_toArray,List.getElem?_cons_zero] at hd
 have hF := stFind D r.sv r.L nm _ hd h1.blk.lt h1.at
 have HX := Lib.hid (idx_find r.L nm)
 rw [HX.out,h.setsE] at hF
 have HT1 := Lib.hid (Blk.new w 26 #[.string ⟨#[]⟩,.int .i64 0,.int .i64 0,.int .i64 0,.int .i64 0,.slice none 0 0,.int .i64 0,.int .i64 0,.int .i64 0,.int .i64 0,.int .i64 0,.slice none 0 0,.slice none 0 0])
 have HS1 := Lib.hid h1
 have HE := Lib.hid h.setsE
 clear h h1 hd HX
 go_enter Tryz.func83,Tryz.ntmps83
 go_wp2_with fail
 refine hF.mono ?_
 rintro e w2 ⟨rfl,hb2⟩
 have HS2 := Lib.hid (HS1.out.below hb2)
 have HT2 := Lib.hid (HT1.out.below hb2 HT1.out.lt)
 have HB2 := Lib.hid (HB1.out.trans (hb2.mono HB1.out.size))
 clear hb2 HS1 HT1 HB1 hF
 cases hi : idxS st.sets nm with
 | none =>
  have HI := Lib.hid hi
  clear hi
  rw [show idxOf none = -1 from rfl]
  go_upto_region 5 with fail
  refine wp_region_lit ?_
  iterate 3 (first | go_values | go_skip | go_guarded | go_step | go_upon)
  have hth : World.there w2 (w.heap.size) 0 13 := blk_there HT2.out rfl
  have HTh := Lib.hid hth
  have HR := Lib.hid (World.rangeAt_setCells_same w2 (w.heap.size) 0 [.string ⟨#[]⟩,.int .i64 0,.int .i64 0,.int .i64 0,.int .i64 0,.slice none 0 0,.int .i64 0,.int .i64 0,.int .i64 0,.int .i64 0,.int .i64 0,.slice none 0 0,.slice none 0 0] hth)
  have hG9 := grown_setCells (w.heap.size) [.string ⟨#[]⟩,.int .i64 0,.int .i64 0,.int .i64 0,.int .i64 0,.slice none 0 0,.int .i64 0,.int .i64 0,.int .i64 0,.int .i64 0,.int .i64 0,.slice none 0 0,.slice none 0 0] 0 w2
  have hB9 := Lib.hid (HB2.out.grown hG9 HB2.out.size (fun k e => by have e1 : w.heap.size = k := (by simpa using e);omega))
  clear hth hG9
  refine wpList_store_mid rfl 26 (.tmp 4) (.tmp 15) rfl (w.heap.size) 0 #[.string ⟨#[]⟩,.int .i64 0,.int .i64 0,.int .i64 0,.int .i64 0,.slice none 0 0,.int .i64 0,.int .i64 0,.int .i64 0,.int .i64 0,.int .i64 0,.slice none 0 0,.slice none 0 0] rfl rfl HTh.out (by kernel_rfl) (by simp [Value.oneCell']) ?_
  simp only [Act.put]
  clear HTh
  have p0 := HR.out 0 _ rfl
  have p1 := HR.out 1 _ rfl
  have p2 := HR.out 2 _ rfl
  have p3 := HR.out 3 _ rfl
  have p4 := HR.out 4 _ rfl
  have p5 := HR.out 5 _ rfl
  have p6 := HR.out 6 _ rfl
  have p7 := HR.out 7 _ rfl
  have p8 := HR.out 8 _ rfl
  have p9 := HR.out 9 _ rfl
  have p10 := HR.out 10 _ rfl
  have p11 := HR.out 11 _ rfl
  have p12 := HR.out 12 _ rfl
  simp only [Nat.zero_add] at p0 p1 p2 p3 p4 p5 p6 p7 p8 p9 p10 p11 p12
  generalize World.setCells w2 (w.heap.size) 0 [.string ⟨#[]⟩,.int .i64 0,.int .i64 0,.int .i64 0,.int .i64 0,.slice none 0 0,.int .i64 0,.int .i64 0,.int .i64 0,.int .i64 0,.int .i64 0,.slice none 0 0,.slice none 0 0] = W9 at *
  clear HR
  go_wp2_with fail
  refine bodyPost_ret (v := .tuple #[.agg #[.string ⟨#[]⟩,.int .i64 0,.int .i64 0,.int .i64 0,.int .i64 0,.slice none 0 0,.int .i64 0,.int .i64 0,.int .i64 0,.int .i64 0,.int .i64 0,.slice none 0 0,.slice none 0 0],.int .i64 9]) (by simp [results,Tryz.results83,go_sem,p0,p1,p2,p3,p4,p5,p6,p7,p8,p9,p10,p11,p12]) rfl ?_
  exact ⟨hB9.out,.inr ⟨HI.out,rfl⟩⟩
 | some k =>
  have HI := Lib.hid hi
  rw [show idxOf (some k) = (k : Int) from rfl]
  obtain ⟨hk,-⟩ := idx_in HE.out hi
  have HG := Lib.hid (List.getElem?_eq_getElem hk)
  obtain ⟨A,cc,eA,hc1,hc2,hcell⟩ := HS2.out.at.open_
  unfold maxLen at hc2
  obtain ⟨b1,o1,e1,hb1,hx⟩ := hcell k hk
  have hy := hx k hk
  have hd := HS2.out.blk.cell 0
  simp only [List.getElem?_toArray,List.getElem?_cons_zero] at hd
  rw [eA,e1] at hd
  have y0 := hy 0 _ rfl
  have y1 := hy 1 _ rfl
  have y2 := hy 2 _ rfl
  have y3 := hy 3 _ rfl
  have y4 := hy 4 _ rfl
  have y5 := hy 5 _ rfl
  have y6 := hy 6 _ rfl
  have y7 := hy 7 _ rfl
  have y8 := hy 8 _ rfl
  have y9 := hy 9 _ rfl
  have y10 := hy 10 _ rfl
  have y11 := hy 11 _ rfl
  have y12 := hy 12 _ rfl
  rw [Nat.add_zero] at y0
  have k0 : (0 : Int) ≤ (k : Int) := Int.natCast_nonneg _
  have k1 : (k : Int) < (r.L.length : Int) := by omega
  have hDl := HS2.out.blk.lt
  clear hi hy hx hcell eA e1 HS2 HE
  generalize r.L[k] = c at *
  generalize r.L.length = ln at *
  go_upto_region 6 with fail
  refine wp_region_lit ?_
  iterate 21 (first | go_values | go_skip | go_guarded | go_step | go_upon)
  have hth : World.there w2 (w.heap.size) 0 13 := blk_there HT2.out rfl
  have HTh := Lib.hid hth
  have HR := Lib.hid (World.rangeAt_setCells_same w2 (w.heap.size) 0 [.string c.s.name,.int .i64 c.s.depth,.int .i64 c.s.low,.int .i64 c.s.high,.int .i64 c.s.len,.slice c.al c.s.lines.length c.cl,.int .i64 c.s.pipe,.int .i64 c.s.arbor,.int .i64 c.s.purch,.int .i64 c.s.most,.int .i64 c.s.brake,.slice c.ai c.s.items.length c.ci,.slice c.ab c.s.bricks.length c.cb] hth)
  have hG9 := grown_setCells (w.heap.size) [.string c.s.name,.int .i64 c.s.depth,.int .i64 c.s.low,.int .i64 c.s.high,.int .i64 c.s.len,.slice c.al c.s.lines.length c.cl,.int .i64 c.s.pipe,.int .i64 c.s.arbor,.int .i64 c.s.purch,.int .i64 c.s.most,.int .i64 c.s.brake,.slice c.ai c.s.items.length c.ci,.slice c.ab c.s.bricks.length c.cb] 0 w2
  have hB9 := Lib.hid (HB2.out.grown hG9 HB2.out.size (fun k e => by have e1 : w.heap.size = k := (by simpa using e);omega))
  clear hth hG9
  refine wpList_store_mid rfl 26 (.tmp 4) (.tmp 22) rfl (w.heap.size) 0 #[.string c.s.name,.int .i64 c.s.depth,.int .i64 c.s.low,.int .i64 c.s.high,.int .i64 c.s.len,.slice c.al c.s.lines.length c.cl,.int .i64 c.s.pipe,.int .i64 c.s.arbor,.int .i64 c.s.purch,.int .i64 c.s.most,.int .i64 c.s.brake,.slice c.ai c.s.items.length c.ci,.slice c.ab c.s.bricks.length c.cb] rfl rfl HTh.out (by kernel_rfl) (by simp [Value.oneCell']) ?_
  simp only [Act.put]
  clear HTh
  have p0 := HR.out 0 _ rfl
  have p1 := HR.out 1 _ rfl
  have p2 := HR.out 2 _ rfl
  have p3 := HR.out 3 _ rfl
  have p4 := HR.out 4 _ rfl
  have p5 := HR.out 5 _ rfl
  have p6 := HR.out 6 _ rfl
  have p7 := HR.out 7 _ rfl
  have p8 := HR.out 8 _ rfl
  have p9 := HR.out 9 _ rfl
  have p10 := HR.out 10 _ rfl
  have p11 := HR.out 11 _ rfl
  have p12 := HR.out 12 _ rfl
  simp only [Nat.zero_add] at p0 p1 p2 p3 p4 p5 p6 p7 p8 p9 p10 p11 p12
  generalize World.setCells w2 (w.heap.size) 0 [.string c.s.name,.int .i64 c.s.depth,.int .i64 c.s.low,.int .i64 c.s.high,.int .i64 c.s.len,.slice c.al c.s.lines.length c.cl,.int .i64 c.s.pipe,.int .i64 c.s.arbor,.int .i64 c.s.purch,.int .i64 c.s.most,.int .i64 c.s.brake,.slice c.ai c.s.items.length c.ci,.slice c.ab c.s.bricks.length c.cb] = W9 at *
  clear HR
  go_wp2_with fail
  refine bodyPost_ret (v := .tuple #[.agg #[.string c.s.name,.int .i64 c.s.depth,.int .i64 c.s.low,.int .i64 c.s.high,.int .i64 c.s.len,.slice c.al c.s.lines.length c.cl,.int .i64 c.s.pipe,.int .i64 c.s.arbor,.int .i64 c.s.purch,.int .i64 c.s.most,.int .i64 c.s.brake,.slice c.ai c.s.items.length c.ci,.slice c.ab c.s.bricks.length c.cb],.int .i64 0]) (by simp [results,Tryz.results83,go_sem,p0,p1,p2,p3,p4,p5,p6,p7,p8,p9,p10,p11,p12]) rfl ?_
  exact ⟨hB9.out,.inl ⟨k,c,HI.out,HG.out,rfl⟩⟩
end Go.Proofs.YtbhmkcjddpniiaaGreatDoor
