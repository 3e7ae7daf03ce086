/- Parts of the proof, laid into one text: StoreM, StoreK, StFind, StoreP, StoreA. -/
import Derived.BigQuiet
import Derived.Deep.AppendLies
import Derived.Deep.Cut
import Derived.Deep.Draws
import Derived.Deep.LoopGhost
import Derived.Deep.MidRow
import Derived.Deep.QuietTactic
import Derived.Deep.RegionHeld3
import Derived.Deep.RegionLaw
import Derived.IntWalk
import Derived.Laws.Bits64b
import Derived.Laws.Concat
import Derived.Laws.EntriesVeiled
import Derived.Lib.AppendIntMem
import Derived.Lib.Hide
import Derived.Lib.ItoaLen
import Derived.Lib.ItoaMem
import Derived.Lib.Join
import Derived.Lib.SmallJoins
import Derived.LoopIn
import Derived.LoopNIn
import Derived.Maps.AppendAt
import Derived.Maps.Own
import Derived.Maps.OwnOps
import Derived.Maps.OwnSet
import Derived.Maps.Views
import Derived.Outline
import Derived.OwnWalkIn
import Derived.PlainAid
import Derived.RangeFuncBox
import Derived.RangeFuncLeaves
import Derived.Shelf.Abstract
import Derived.Shelf.Bits.Mul64
import Derived.Shelf.Strconv.Itoa3
import Derived.Shelf.Strings.Count
import Derived.Shelf.Strings.OnBuilder
import Derived.Shelf.Strings.Prefix
import Derived.StillTail
import Derived.StillTailTactics
import Derived.TacticsInMore
import Derived.Test.YtbhmkcjddpniiaaGreatDoorProg
import Derived.Test.YtbhmkcjddpniiaaGreatDoorXC1
import Derived.Test.YtbhmkcjddpniiaaGreatDoorXC2
import Derived.Test.YtbhmkcjddpniiaaGreatDoorXC3
import Derived.Test.YtbhmkcjddpniiaaGreatDoorXC4
import Derived.Test.YtbhmkcjddpniiaaGreatDoorXC5
import Derived.Test.YtbhmkcjddpniiaaGreatDoorXC6
import Derived.Test.YtbhmkcjddpniiaaGreatDoorXC7
import Derived.Test.YtbhmkcjddpniiaaGreatDoorXD1
import Derived.Test.YtbhmkcjddpniiaaGreatDoorXD2
import Derived.Test.YtbhmkcjddpniiaaGreatDoorXD3
import Derived.Test.YtbhmkcjddpniiaaGreatDoorXD4
import Derived.Test.YtbhmkcjddpniiaaGreatDoorXD5
import Derived.Test.YtbhmkcjddpniiaaGreatDoorXD9
import Derived.Test.YtbhmkcjddpniiaaGreatDoorXG1
import Derived.Test.YtbhmkcjddpniiaaGreatDoorXI1
import Derived.WalkKit
import Derived.WalkLawsBesides
import Derived.WalkSpells

namespace Go.Proofs.YtbhmkcjddpniiaaGreatDoor
open Go.RowKit Go.Shelf
def FlatM (w : World) (M : Nat → Prop) (v : Value) (n : Nat) (xs : List Value) : Prop :=
 ∃ A c,v = .slice A n c ∧ n ≤ c ∧ c ≤ maxLen ∧ (0 < n → ∃ b off,A = some ⟨b,off,none⟩ ∧ M b ∧ b < w.heap.size ∧ ∀ (j : Nat) u,xs[j]? = some u → w.cell? ⟨b,off + j,none⟩ = some u)
structure KeepM (M : Nat → Prop) (w w' : World) : Prop where
 size : w.heap.size ≤ w'.heap.size
 same : ∀ g,M g → g < w.heap.size → w'.heap[g]? = w.heap[g]?
theorem KeepM.refl (M : Nat → Prop) (w : World) : KeepM M w w := ⟨Nat.le_refl _,fun _ _ _ => rfl⟩
theorem KeepM.trans {M : Nat → Prop} {a b c : World} (h : KeepM M a b) (k : KeepM M b c) : KeepM M a c :=
 ⟨Nat.le_trans h.size k.size,fun g hg hl => (k.same g hg (Nat.lt_of_lt_of_le hl h.size)).trans (h.same g hg hl)⟩
theorem cell_same {w w' : World} {b o : Nat} (h : w'.heap[b]? = w.heap[b]?) : w'.cell? ⟨b,o,none⟩ = w.cell? ⟨b,o,none⟩ := by
 simp [World.cell?,h]
section
variable {w w' : World} {M M' : Nat → Prop} {v : Value} {n : Nat} {xs : List Value}
theorem FlatM.flat (h : FlatM w M v n xs) : Flat w w.heap.size v n xs := by
 obtain ⟨A,c,h1,h2,h3,h4⟩ := h
 exact ⟨A,c,h1,h2,h3,fun hn => let ⟨b,off,e,_,hl,hc⟩ := h4 hn;⟨b,off,e,hl,hc⟩⟩
theorem FlatM.kept (h : FlatM w M v n xs) (hk : KeepM M w w') : FlatM w' M v n xs := by
 obtain ⟨A,c,h1,h2,h3,h4⟩ := h
 refine ⟨A,c,h1,h2,h3,fun hn => ?_⟩
 obtain ⟨b,off,e,hm,hl,hc⟩ := h4 hn
 exact ⟨b,off,e,hm,Nat.lt_of_lt_of_le hl hk.size,fun j u hu => (cell_same (hk.same b hm hl)).trans (hc j u hu)⟩
theorem FlatM.of_own {base e size : Nat} (h : w.ownsRow base e size v n xs) (hM : ∀ g,v.ownBlock = some g → M g) : FlatM w M v n xs := by
 obtain ⟨hl,⟨rfl,rfl⟩ | ⟨g,cap,cur,rfl,hb,hg,hnc,hcm,hcs,ht⟩⟩ := h
 ·exact ⟨none,0,rfl,Nat.le_refl _,Nat.zero_le _,fun h => absurd h (by omega)⟩
 ·refine ⟨_,_,rfl,hnc,hcm,fun _ => ⟨g,0,rfl,hM g (by simp [Value.ownBlock]),(Array.getElem?_eq_some_iff.1 hg).1,fun j u hu => ?_⟩⟩
  rw [Nat.zero_add,cell_of_row w g j cur e (0,0) hg]
  rw [← ht,List.getElem?_take] at hu
  split at hu
  ·simpa using hu
  ·cases hu
theorem FlatM.nil : FlatM w M (.slice none 0 0) 0 [] := ⟨none,0,rfl,Nat.le_refl _,Nat.zero_le _,fun h => absurd h (by omega)⟩
end
structure SetC where
 s : SetT
 al : Option Addr
 cl : Nat
 ai : Option Addr
 ci : Nat
 ab : Option Addr
 cb : Nat
def SetC.cells (c : SetC) : List Value := [.string c.s.name,.int .i64 c.s.depth,.int .i64 c.s.low,.int .i64 c.s.high,.int .i64 c.s.len,.slice c.al c.s.lines.length c.cl,.int .i64 c.s.pipe,.int .i64 c.s.arbor,.int .i64 c.s.purch,.int .i64 c.s.most,.int .i64 c.s.brake,.slice c.ai c.s.items.length c.ci,.slice c.ab c.s.bricks.length c.cb]
def SetC.val (c : SetC) : Value := setVal c.s c.al c.cl c.ai c.ci c.ab c.cb
def SetCM (w : World) (M : Nat → Prop) (c : SetC) : Prop :=
 FlatM w M (.slice c.al c.s.lines.length c.cl) c.s.lines.length (c.s.lines.map (Value.int .i64)) ∧ FlatM w M (.slice c.ai c.s.items.length c.ci) c.s.items.length (c.s.items.flatMap ItemT.cells) ∧ FlatM w M (.slice c.ab c.s.bricks.length c.cb) c.s.bricks.length (c.s.bricks.flatMap BrickT.cells)
def SetsM (w : World) (M : Nat → Prop) (v : Value) (L : List SetC) : Prop := FlatM w M v L.length (L.flatMap SetC.cells) ∧ ∀ c ∈ L,SetCM w M c
section
variable {w w' : World} {M M' : Nat → Prop} {v : Value} {c : SetC} {L : List SetC}
theorem SetCM.set (h : SetCM w M c) : SetAt w w.heap.size c.val c.s := ⟨_,_,_,_,_,_,rfl,h.1.flat,h.2.1.flat,h.2.2.flat⟩
theorem SetCM.kept (h : SetCM w M c) (hk : KeepM M w w') : SetCM w' M c := ⟨h.1.kept hk,h.2.1.kept hk,h.2.2.kept hk⟩
theorem SetsM.kept (h : SetsM w M v L) (hk : KeepM M w w') : SetsM w' M v L := ⟨h.1.kept hk,fun c hc => (h.2 c hc).kept hk⟩
theorem SetsM.nil : SetsM w M (.slice none 0 0) [] := ⟨FlatM.nil,fun _ h => by cases h⟩
def SetCells (w : World) (b off : Nat) (c : SetC) : Prop := ∀ (i : Nat) u,c.cells[i]? = some u → w.cell? ⟨b,off + i,none⟩ = some u
theorem SetsM.open_ (h : SetsM w M v L) : ∃ A c,v = .slice A L.length c ∧ L.length ≤ c ∧ c ≤ maxLen ∧ ∀ k (_ : k < L.length),∃ b off,A = some ⟨b,off,none⟩ ∧ M b ∧ b < w.heap.size ∧ ∀ j (hj : j < L.length),SetCells w b (off + j * 13) L[j] := by
 obtain ⟨⟨A,c,h1,h2,h3,h4⟩,_⟩ := h
 refine ⟨A,c,h1,h2,h3,fun k hk => ?_⟩
 obtain ⟨b,off,e,hm,hl,hc⟩ := h4 (by omega)
 refine ⟨b,off,e,hm,hl,fun j hj i u hu => ?_⟩
 have hi : i < 13 := by
  have := (List.getElem?_eq_some_iff.1 hu).1
  simpa [SetC.cells] using this
 rw [Nat.add_assoc]
 exact hc (j * 13 + i) u ((flatGet SetC.cells 13 (fun _ => rfl) L j i hj hi).trans hu)
end
end Go.Proofs.YtbhmkcjddpniiaaGreatDoor

namespace Go.Proofs.YtbhmkcjddpniiaaGreatDoor
open Go.RowKit Go.Shelf Go.WideMaps Go.Maps
def heldElem (v : Value) : Option (DataW Value × List MemPlace) := some (.held v,[])
def KMap (w : World) (b n : Nat) (F : ByteArray → Option Value) : Prop :=
 ∃ D : DataW Value,w.ownsMap Tryz.prog 9 heldElem b n D ∧ (∀ s,Maps.has D (keyS s) = (F s).isSome) ∧ ∀ s v,F s = some v → ∀ z,D.atKey (keyS s) z = .held v
theorem KMap.lt {w : World} {b n : Nat} {F : ByteArray → Option Value} (h : KMap w b n F) : b < w.heap.size := let ⟨_,h,_⟩ := h;h.lt
theorem KMap.kept {w w' : World} {b n : Nat} {F : ByteArray → Option Value} (h : KMap w b n F) {row : Option Nat} (hg : w.grownBy w' row) (hne : some b ≠ row) : KMap w' b n F :=
 let ⟨D,h1,h2,h3⟩ := h
 ⟨D,h1.kept hg hne,h2,h3⟩
theorem KMap.of_heap {w w' : World} {b n : Nat} {F : ByteArray → Option Value} (h : KMap w b n F) (he : w'.heap[b]? = w.heap[b]?) : KMap w' b n F := by
 obtain ⟨D,⟨es,clock,h0,r⟩,h2,h3⟩ := h
 exact ⟨D,⟨es,clock,he.trans h0,r⟩,h2,h3⟩
theorem KMap.made (w : World) : KMap (w.alloc (.map #[] 0)) w.heap.size 0 (fun _ => none) :=
 ⟨_,World.ownsMap_made w _ _ _,fun s => by simp [Maps.has],fun s v h => by cases h⟩
def putKF (F : ByteArray → Option Value) (s : ByteArray) (v : Value) : ByteArray → Option Value := fun s' => if s' = s then some v else F s'
theorem KMap.step {D : DataW Value} {F : ByteArray → Option Value} {s : ByteArray} {v : Value} (hm : IsMap D) (h2 : ∀ s,Maps.has D (keyS s) = (F s).isSome) (h3 : ∀ s v,F s = some v → ∀ z,D.atKey (keyS s) z = .held v) :
  (∀ s',Maps.has (D.put (keyS s) (.held v)) (keyS s') = (putKF F s v s').isSome) ∧ ∀ s' u,putKF F s v s' = some u → ∀ z,(D.put (keyS s) (.held v)).atKey (keyS s') z = .held u := by
 constructor
 ·intro s'
  unfold putKF
  by_cases e : s' = s
  ·subst e
   rw [if_pos rfl,Maps.has_put_same hm (keyS_key _)]
   rfl
  ·rw [if_neg e,Maps.has_put_other (fun e' => e (keyS_inj e')),h2]
 ·intro s' u hu z
  unfold putKF at hu
  by_cases e : s' = s
  ·subst e
   rw [if_pos rfl] at hu
   injection hu with hu
   rw [Maps.atKey_put_same hm (keyS_key _),hu]
  ·rw [if_neg e] at hu
   rw [Maps.atKey_put_other (fun e' => e (keyS_inj e'))]
   exact h3 s' u hu z
end Go.Proofs.YtbhmkcjddpniiaaGreatDoor

namespace Go.Proofs.YtbhmkcjddpniiaaGreatDoor
open Go.RowKit Go.Shelf
def SetsAt (w : World) (B : Nat) (v : Value) (L : List SetC) : Prop := Flat w B v L.length (L.flatMap SetC.cells)
theorem SetsAt.below {w w' : World} {B B' : Nat} {v : Value} {L : List SetC} (h : SetsAt w B v L) (hb : Below B' w w') (hB : B ≤ B') : SetsAt w' B v L := Flat.below h hb hB
theorem SetsAt.mono {w : World} {B B' : Nat} {v : Value} {L : List SetC} (h : SetsAt w B v L) (hB : B ≤ B') : SetsAt w B' v L := Flat.mono h hB
theorem SetsM.at {w : World} {M : Nat → Prop} {v : Value} {L : List SetC} (h : SetsM w M v L) : SetsAt w w.heap.size v L := h.1.flat
theorem SetsAt.open_ {w : World} {B : Nat} {v : Value} {L : List SetC} (h : SetsAt w B v L) : ∃ A c,v = .slice A L.length c ∧ L.length ≤ c ∧ c ≤ maxLen ∧ ∀ k (_ : k < L.length),∃ b off,A = some ⟨b,off,none⟩ ∧ b < B ∧ ∀ j (hj : j < L.length),SetCells w b (off + j * 13) L[j] := by
 obtain ⟨A,c,h1,h2,h3,h4⟩ := h
 refine ⟨A,c,h1,h2,h3,fun k hk => ?_⟩
 obtain ⟨b,off,e,hl,hc⟩ := h4 (by omega)
 refine ⟨b,off,e,hl,fun j hj i u hu => ?_⟩
 have hi : i < 13 := by
  have := (List.getElem?_eq_some_iff.1 hu).1
  simpa [SetC.cells] using this
 rw [Nat.add_assoc]
 exact hc (j * 13 + i) u ((flatGet SetC.cells 13 (fun _ => rfl) L j i hj hi).trans hu)
end Go.Proofs.YtbhmkcjddpniiaaGreatDoor

namespace Go.Proofs.YtbhmkcjddpniiaaGreatDoor
open Go.RowKit Go.Shelf
structure St where
 sets : List SetT
 past : List (List SetT)
 known : List SetT
 work : Nat
def idxS (l : List SetT) (nm : ByteArray) : Option Nat := l.findIdx? fun x => decide (x.name = nm)
def putSt (st : St) (x : SetT) : Int × St :=
 match idxS st.sets x.name with
 | some k => if st.sets[k]? = some x then (0,st) else (0,{ st with sets := st.sets.set k x,past := st.past ++ [st.sets] })
 | none => if 60 ≤ st.sets.length then (4,st) else (0,{ st with sets := st.sets ++ [x],past := st.past ++ [st.sets] })
def dropSt (st : St) (nm : ByteArray) : Int × St :=
 match idxS st.sets nm with
 | some k => (0,{ st with sets := st.sets.eraseIdx k,past := st.past ++ [st.sets] })
 | none => (9,st)
def linesSt (st : St) (nm : ByteArray) : St :=
 match idxS st.sets nm with
 | some k => match st.sets[k]? with
  | some x => if x ∈ st.known then st else { st with known := st.known ++ [x],work := st.work + 1 }
  | none => st
 | none => st
def linesOf (x : SetT) : List FrT := if linesErr x = 0 then linesL x else []
theorem idxS_some {l : List SetT} {nm : ByteArray} {k : Nat} (h : idxS l nm = some k) : ∃ hk : k < l.length,l[k].name = nm ∧ ∀ j (hj : j < k),l[j].name ≠ nm := by
 unfold idxS at h
 rw [List.findIdx?_eq_some_iff_getElem] at h
 obtain ⟨hk,h1,h2⟩ := h
 exact ⟨hk,by simpa using h1,fun j hj => by simpa using h2 j hj⟩
theorem idxS_none {l : List SetT} {nm : ByteArray} (h : idxS l nm = none) : ∀ x ∈ l,x.name ≠ nm := by
 unfold idxS at h
 rw [List.findIdx?_eq_none_iff] at h
 intro x hx
 simpa using h x hx
structure StOk (st : St) : Prop where
 sets : ∀ x ∈ st.sets,setB x = true
 nodup : (st.sets.map SetT.name).Nodup
 len : st.sets.length ≤ 60
 past : ∀ l ∈ st.past,(∀ x ∈ l,setB x = true) ∧ (l.map SetT.name).Nodup ∧ l.length ≤ 60
 known : ∀ x ∈ st.known,setB x = true
theorem StOk.names {st : St} (h : StOk st) : ∀ x ∈ st.sets,SetNames x := fun x hx =>
 let hb := h.sets x hx
 ⟨Nat.le_trans (name_size (setB_name hb)) (by unfold maxLen;decide),fun y hy => Nat.le_trans (name_size (alone_name ((setB_ok hb).wts.2 y hy).1)) (by unfold maxLen;decide),fun y hy => Nat.le_trans (name_size (brick_facts ((bricks_facts hb).2 y hy)).1) (by unfold maxLen;decide)⟩
theorem names_set {l : List SetT} {k : Nat} {x : SetT} (hk : k < l.length) (hn : l[k].name = x.name) : (l.set k x).map SetT.name = l.map SetT.name := by
 rw [List.map_set]
 apply List.ext_getElem?
 intro i
 rw [List.getElem?_set]
 split
 ·rename_i e
  subst e
  simp [hk,hn]
 ·rfl
theorem StOk.put {st : St} (h : StOk st) {x : SetT} (hx : setB x = true) : StOk (putSt st x).2 := by
 have hp : ∀ l ∈ st.past ++ [st.sets],(∀ x ∈ l,setB x = true) ∧ (l.map SetT.name).Nodup ∧ l.length ≤ 60 := by
  intro l hl
  rcases List.mem_append.1 hl with hl | hl
  ·exact h.past l hl
  ·rw [List.mem_singleton] at hl
   subst hl
   exact ⟨h.sets,h.nodup,h.len⟩
 unfold putSt
 cases hi : idxS st.sets x.name with
 | some k =>
  obtain ⟨hk,hn,-⟩ := idxS_some hi
  dsimp only
  split
  ·exact h
  ·refine ⟨fun y hy => ?_,?_,?_,hp,h.known⟩
   ·rcases List.mem_or_eq_of_mem_set hy with hy | rfl
    ·exact h.sets y hy
    ·exact hx
   ·show ((st.sets.set k x).map SetT.name).Nodup
    rw [names_set hk hn]
    exact h.nodup
   ·show (st.sets.set k x).length ≤ 60
    rw [List.length_set]
    exact h.len
 | none =>
  have hn := idxS_none hi
  dsimp only
  split
  ·exact h
  ·refine ⟨fun y hy => ?_,?_,?_,hp,h.known⟩
   ·rcases List.mem_append.1 hy with hy | hy
    ·exact h.sets y hy
    ·rw [List.mem_singleton] at hy
     subst hy
     exact hx
   ·show ((st.sets ++ [x]).map SetT.name).Nodup
    rw [List.map_append,List.nodup_append]
    refine ⟨h.nodup,by simp,?_⟩
    intro a ha b hb
    simp only [List.map_cons,List.map_nil,List.mem_singleton] at hb
    subst hb
    obtain ⟨y,hy,rfl⟩ := List.mem_map.1 ha
    exact hn y hy
   ·show (st.sets ++ [x]).length ≤ 60
    rw [List.length_append]
    simp only [List.length_singleton]
    omega
theorem StOk.drop {st : St} (h : StOk st) (nm : ByteArray) : StOk (dropSt st nm).2 := by
 unfold dropSt
 cases hi : idxS st.sets nm with
 | some k =>
  have hsub : (st.sets.eraseIdx k).Sublist st.sets := List.eraseIdx_sublist _ _
  refine ⟨fun y hy => h.sets y (hsub.subset hy),?_,?_,?_,h.known⟩
  ·exact (hsub.map SetT.name).nodup h.nodup
  ·exact Nat.le_trans hsub.length_le h.len
  ·intro l hl
   rcases List.mem_append.1 hl with hl | hl
   ·exact h.past l hl
   ·rw [List.mem_singleton] at hl
    subst hl
    exact ⟨h.sets,h.nodup,h.len⟩
 | none => exact h
theorem StOk.lines {st : St} (h : StOk st) (nm : ByteArray) : StOk (linesSt st nm) := by
 unfold linesSt
 cases hi : idxS st.sets nm with
 | none => exact h
 | some k =>
  cases hk : st.sets[k]? with
  | none => simpa [hk] using h
  | some x =>
   simp only [hk]
   split
   ·exact h
   ·refine ⟨h.sets,h.nodup,h.len,h.past,fun y hy => ?_⟩
    rcases List.mem_append.1 hy with hy | hy
    ·exact h.known y hy
    ·rw [List.mem_singleton] at hy
     subst hy
     exact h.sets y (List.mem_of_getElem? hk)
end Go.Proofs.YtbhmkcjddpniiaaGreatDoor

namespace Go.Proofs.YtbhmkcjddpniiaaGreatDoor
open Go.RowKit Go.Shelf
def KnownAt (w : World) (B : Nat) (M : Nat → Prop) (mv : Value) (K : List SetT) : Prop :=
 (mv = .map none ∧ K = []) ∨ ∃ b F,mv = .map (some b) ∧ B ≤ b ∧ ¬ M b ∧ KMap w b K.length F ∧ (∀ x,setB x = true → (F (⟨(setText x).toArray⟩ : ByteArray)).isSome = decide (x ∈ K)) ∧
  ∀ x ∈ K,∃ v,F (⟨(setText x).toArray⟩ : ByteArray) = some (.agg #[v,.int .i64 (linesErr x)]) ∧ FlatM w M v (linesOf x).length ((linesOf x).flatMap FrT.cells)
structure StR where
 sv : Value
 L : List SetC
 pv : Value
 P : List (Value × List SetC)
 mv : Value
structure StoreAt (w : World) (B D : Nat) (M : Nat → Prop) (st : St) (r : StR) : Prop where
 blk : Blk w D 76 #[r.sv,r.pv,r.mv,.int .i64 (st.work : Int)]
 base : B ≤ D
 notM : ¬ M D
 lt : ∀ g,M g → g < w.heap.size
 sets : SetsM w M r.sv r.L
 setsE : r.L.map SetC.s = st.sets
 own : w.ownsRow B 66 1 r.pv r.P.length (r.P.map Prod.fst)
 ownM : ∀ g,r.pv.ownBlock = some g → ¬ M g
 past : ∀ q ∈ r.P,SetsM w M q.1 q.2
 pastE : r.P.map (fun q => q.2.map SetC.s) = st.past
 known : KnownAt w B M r.mv st.known
def StR.foot (r : StR) (D : Nat) (M : Nat → Prop) (g : Nat) : Prop := M g ∨ g = D ∨ r.pv.ownBlock = some g ∨ r.mv = .map (some g)
theorem own_same {w w' : World} {B e s n : Nat} {v : Value} {xs : List Value} (h : w.ownsRow B e s v n xs) (hk : ∀ g,v.ownBlock = some g → w'.heap[g]? = w.heap[g]?) : w'.ownsRow B e s v n xs := by
 obtain ⟨hl,h0 | ⟨g,cap,cur,hv,hg0,hh,r⟩⟩ := h
 ·exact ⟨hl,.inl h0⟩
 ·exact ⟨hl,.inr ⟨g,cap,cur,hv,hg0,(hk g (by rw [hv];simp [Value.ownBlock])).trans hh,r⟩⟩
theorem KnownAt.kept {w w' : World} {B : Nat} {M : Nat → Prop} {mv : Value} {K : List SetT} (h : KnownAt w B M mv K) (hk : KeepM M w w') (hm : ∀ g,mv = .map (some g) → w'.heap[g]? = w.heap[g]?) : KnownAt w' B M mv K := by
 rcases h with h | ⟨b,F,h1,h2,h3,h4,h5,h6⟩
 ·exact .inl h
 ·exact .inr ⟨b,F,h1,h2,h3,h4.of_heap (hm b h1),h5,fun x hx => let ⟨v,e1,e2⟩ := h6 x hx;⟨v,e1,e2.kept hk⟩⟩
section
variable {w w' : World} {B D : Nat} {M : Nat → Prop} {st : St} {r : StR}
theorem StoreAt.footLt (h : StoreAt w B D M st r) {g : Nat} (hg : r.foot D M g) : g < w.heap.size := by
 rcases hg with hg | rfl | hg | hg
 ·exact h.lt g hg
 ·exact h.blk.lt
 ·exact (h.own.lt g hg).2
 ·rcases h.known with ⟨h1,_⟩ | ⟨b,F,h1,_,_,h4,_⟩
  ·rw [h1] at hg;cases hg
  ·rw [h1] at hg
   obtain rfl : b = g := by simpa using hg
   exact h4.lt
theorem StoreAt.kept (h : StoreAt w B D M st r) (hs : w.heap.size ≤ w'.heap.size) (hk : ∀ g,r.foot D M g → w'.heap[g]? = w.heap[g]?) : StoreAt w' B D M st r := by
 have hM : KeepM M w w' := ⟨hs,fun g hg _ => hk g (.inl hg)⟩
 refine ⟨(hk D (.inr (.inl rfl))).trans h.blk,h.base,h.notM,fun g hg => Nat.lt_of_lt_of_le (h.lt g hg) hs,h.sets.kept hM,h.setsE,own_same h.own fun g hg => hk g (.inr (.inr (.inl hg))),h.ownM,fun q hq => (h.past q hq).kept hM,h.pastE,h.known.kept hM fun g hg => hk g (.inr (.inr (.inr hg)))⟩
theorem StoreAt.below (h : StoreAt w B D M st r) (hb : Below w.heap.size w w') : StoreAt w' B D M st r := h.kept hb.size fun g hg => hb.block g (h.footLt hg)
theorem StoreAt.at (h : StoreAt w B D M st r) : SetsAt w w.heap.size r.sv r.L := h.sets.at
end
structure ChgS (B : Nat) (w w' : World) : Prop where
 bel : Below B w w'
 same : ∀ (g : Nat) cs t f,w.heap[g]? = some (.cells cs t f) → t ≠ 76 → t ≠ 66 → w'.heap[g]? = w.heap[g]?
theorem ChgS.refl (B : Nat) (w : World) : ChgS B w w := ⟨Below.refl _ _,fun _ _ _ _ _ _ _ => rfl⟩
theorem ChgS.trans {B : Nat} {a b c : World} (h : ChgS B a b) (k : ChgS B b c) : ChgS B a c :=
 ⟨h.bel.trans k.bel,fun g cs t f hg h1 h2 => (k.same g cs t f ((h.same g cs t f hg h1 h2).trans hg) h1 h2).trans (h.same g cs t f hg h1 h2)⟩
end Go.Proofs.YtbhmkcjddpniiaaGreatDoor
