/- Parts of the proof, laid into one text: OthersP, StrDel, LawOthers. -/
import Derived.BigQuiet
import Derived.Deep.AppendLies
import Derived.Deep.Cut
import Derived.Deep.Draws
import Derived.Deep.LoopGhost
import Derived.Deep.MidRow
import Derived.Deep.QuietTactic
import Derived.Deep.RegionHeld3
import Derived.Deep.RegionLaw
import Derived.IntWalk
import Derived.Laws.Bits64b
import Derived.Laws.Concat
import Derived.Laws.EntriesVeiled
import Derived.Lib.AppendIntMem
import Derived.Lib.Hide
import Derived.Lib.ItoaLen
import Derived.Lib.ItoaMem
import Derived.Lib.Join
import Derived.Lib.SliceRun
import Derived.Lib.SmallJoins
import Derived.LoopIn
import Derived.LoopNIn
import Derived.Maps.AppendAt
import Derived.Maps.Own
import Derived.Maps.OwnOps
import Derived.Maps.OwnSet
import Derived.Maps.Views
import Derived.Outline
import Derived.OwnWalkIn
import Derived.PlainAid
import Derived.RangeFuncBox
import Derived.RangeFuncLeaves
import Derived.Shelf.Abstract
import Derived.Shelf.Bits.Mul64
import Derived.Shelf.Strconv.Itoa3
import Derived.Shelf.Strings.Count
import Derived.Shelf.Strings.OnBuilder
import Derived.Shelf.Strings.Prefix
import Derived.StillTail
import Derived.StillTailTactics
import Derived.TacticsInMore
import Derived.Test.YtbhmkcjddpniiaaGreatDoorC1
import Derived.Test.YtbhmkcjddpniiaaGreatDoorC2
import Derived.Test.YtbhmkcjddpniiaaGreatDoorC3
import Derived.Test.YtbhmkcjddpniiaaGreatDoorC4
import Derived.Test.YtbhmkcjddpniiaaGreatDoorC5
import Derived.Test.YtbhmkcjddpniiaaGreatDoorC6
import Derived.Test.YtbhmkcjddpniiaaGreatDoorC7
import Derived.Test.YtbhmkcjddpniiaaGreatDoorD1
import Derived.Test.YtbhmkcjddpniiaaGreatDoorD2
import Derived.Test.YtbhmkcjddpniiaaGreatDoorD3
import Derived.Test.YtbhmkcjddpniiaaGreatDoorD4
import Derived.Test.YtbhmkcjddpniiaaGreatDoorD5
import Derived.Test.YtbhmkcjddpniiaaGreatDoorD6
import Derived.Test.YtbhmkcjddpniiaaGreatDoorD9
import Derived.Test.YtbhmkcjddpniiaaGreatDoorG1
import Derived.Test.YtbhmkcjddpniiaaGreatDoorI1
import Derived.Test.YtbhmkcjddpniiaaGreatDoorI10
import Derived.Test.YtbhmkcjddpniiaaGreatDoorI11
import Derived.Test.YtbhmkcjddpniiaaGreatDoorI12
import Derived.Test.YtbhmkcjddpniiaaGreatDoorI2
import Derived.Test.YtbhmkcjddpniiaaGreatDoorI3
import Derived.Test.YtbhmkcjddpniiaaGreatDoorI6
import Derived.Test.YtbhmkcjddpniiaaGreatDoorI7
import Derived.Test.YtbhmkcjddpniiaaGreatDoorI8
import Derived.Test.YtbhmkcjddpniiaaGreatDoorI9
import Derived.Test.YtbhmkcjddpniiaaGreatDoorProg
import Derived.WalkKit
import Derived.WalkLawsBesides
import Derived.WalkSpells

namespace Go.Proofs.YtbhmkcjddpniiaaGreatDoor
open Go.RowKit Go.Shelf
theorem mem_getS {st : St} (h : StOk st) {y : SetT} (hy : y ∈ st.sets) : getS st y.name = (y,0) ∧ freshS st y.name = (decide (y ∈ st.known),0) := by
 obtain ⟨j,hj,rfl⟩ := List.mem_iff_getElem.1 hy
 refine ⟨getS_self h hj,?_⟩
 unfold freshS
 rw [idxS_self h.nodup hj]
 simp only [List.getElem?_eq_getElem hj]
structure OthP (st st' : St) (x : SetT) (er : Int) (put : Bool) : Prop where
 known : st'.known = st.known
 bad : er ≠ 0 → st' = st
 mem : ∀ y ∈ st.sets,y.name ≠ x.name → y ∈ st'.sets
 last : put = true → er = 0 → x ∈ st'.sets
theorem OthP.others {st st' : St} {x : SetT} {er : Int} {put : Bool} (h : OthP st st' x er put) (hok : StOk st') {y : SetT} (hy : y ∈ st.sets) (hn : ¬ (y.name = x.name ∧ er = 0)) : getS st' y.name = (y,0) ∧ freshS st' y.name = (decide (y ∈ st.known),0) := by
 have hm : y ∈ st'.sets := by
  by_cases he : er = 0
  ·exact h.mem y hy fun e => hn ⟨e,he⟩
  ·rw [h.bad he];exact hy
 have := mem_getS hok hm
 rw [h.known] at this
 exact this
theorem OthP.getLast {st st' : St} {x : SetT} {er : Int} {put : Bool} (h : OthP st st' x er put) (hok : StOk st') (hp : put = true) (he : er = 0) : getS st' x.name = (x,0) := (mem_getS hok (h.last hp he)).1
theorem mem_set_other {l : List SetT} {k : Nat} {x y : SetT} (hk : k < l.length) (hn : l[k].name = x.name) (hy : y ∈ l) (hne : y.name ≠ x.name) : y ∈ l.set k x := by
 obtain ⟨j,hj,rfl⟩ := List.mem_iff_getElem.1 hy
 have hkj : k ≠ j := fun e => by subst e;exact hne hn
 exact List.mem_iff_getElem.2 ⟨j,by rw [List.length_set];exact hj,List.getElem_set_ne hkj _⟩
theorem mem_erase_other {l : List SetT} {k : Nat} {nm : ByteArray} {y : SetT} (hk : k < l.length) (hn : l[k].name = nm) (hy : y ∈ l) (hne : y.name ≠ nm) : y ∈ l.eraseIdx k := by
 rw [List.mem_eraseIdx_iff_getElem?]
 obtain ⟨j,hj,rfl⟩ := List.mem_iff_getElem.1 hy
 exact ⟨j,fun e => by subst e;exact hne hn,List.getElem?_eq_getElem hj⟩
theorem map_eraseN (l : List SetT) (k : Nat) : (l.eraseIdx k).map SetT.name = (l.map SetT.name).eraseIdx k := by
 rw [List.eraseIdx_eq_take_drop_succ,List.eraseIdx_eq_take_drop_succ,List.map_append,List.map_take,List.map_drop]
theorem idx_names (l : List SetT) (nm : ByteArray) : (l.map SetT.name).findIdx? (fun y => decide (nm = y)) = idxS l nm := by
 unfold idxS
 rw [List.findIdx?_map]
 congr 1
 funext x
 simp only [Function.comp]
 exact decide_eq_decide.2 ⟨Eq.symm,Eq.symm⟩
theorem oth_put (st : St) (x : SetT) : OthP st (putV st x).2 x (putV st x).1 true ∧
  ((putV st x).1 ≠ 0 ∧ (putV st x).2 = st ∨ (putV st x).1 = 0 ∧ ((∃ k,idxS st.sets x.name = some k ∧ (putV st x).2.sets.map SetT.name = st.sets.map SetT.name) ∨ (idxS st.sets x.name = none ∧ (putV st x).2.sets.map SetT.name = st.sets.map SetT.name ++ [x.name]))) := by
 have stay : ∀ er : Int,er ≠ 0 → OthP st st x er true := fun er he => ⟨rfl,fun _ => rfl,fun y hy _ => hy,fun _ h0 => absurd h0 he⟩
 unfold putV
 split
 ·unfold putSt
  cases hi : idxS st.sets x.name with
  | some k =>
   obtain ⟨hk,hn,-⟩ := idxS_some hi
   have hg : st.sets[k]? = some st.sets[k] := List.getElem?_eq_getElem hk
   dsimp only
   split
   ·rename_i hx
    exact ⟨⟨rfl,fun h => absurd rfl h,fun y hy _ => hy,fun _ _ => List.mem_of_getElem? hx⟩,.inr ⟨rfl,.inl ⟨k,rfl,rfl⟩⟩⟩
   ·refine ⟨⟨rfl,fun h => absurd rfl h,fun y hy hne => mem_set_other hk hn hy hne,fun _ _ => ?_⟩,.inr ⟨rfl,.inl ⟨k,rfl,names_set hk hn⟩⟩⟩
    exact List.mem_iff_getElem.2 ⟨k,by rw [List.length_set];exact hk,List.getElem_set_self _⟩
  | none =>
   dsimp only
   split
   ·exact ⟨stay 4 (by decide),.inl ⟨show (4 : Int) ≠ 0 by decide,rfl⟩⟩
   ·refine ⟨⟨rfl,fun h => absurd rfl h,fun y hy _ => List.mem_append_left _ hy,fun _ _ => List.mem_append_right _ (List.mem_singleton.2 rfl)⟩,.inr ⟨rfl,.inr ⟨rfl,?_⟩⟩⟩
    simp
 ·exact ⟨stay 1 (by decide),.inl ⟨show (1 : Int) ≠ 0 by decide,rfl⟩⟩
theorem oth_drop (st : St) (x : SetT) : OthP st (dropSt st x.name).2 x (dropSt st x.name).1 false ∧
  ((dropSt st x.name).1 = 9 ∧ (dropSt st x.name).2 = st ∨ (dropSt st x.name).1 = 0 ∧ ∃ k,k < st.sets.length ∧ idxS st.sets x.name = some k ∧ (dropSt st x.name).2.sets.map SetT.name = (st.sets.map SetT.name).eraseIdx k) := by
 unfold dropSt
 cases hi : idxS st.sets x.name with
 | some k =>
  obtain ⟨hk,hn,-⟩ := idxS_some hi
  exact ⟨⟨rfl,fun h => absurd rfl h,fun y hy hne => mem_erase_other hk hn hy hne,fun h => nomatch h⟩,.inr ⟨rfl,k,hk,rfl,map_eraseN _ _⟩⟩
 | none => exact ⟨⟨rfl,fun _ => rfl,fun y hy _ => hy,fun h => nomatch h⟩,.inl ⟨rfl,rfl⟩⟩
end Go.Proofs.YtbhmkcjddpniiaaGreatDoor

namespace Go.Proofs.YtbhmkcjddpniiaaGreatDoor
open Go.RowKit Go.Shelf
theorem info_strS : (Tryz.prog.info? 9).map (fun i => (i.zero,i.size,i.bytes)) = some (some (.string ⟨#[]⟩),1,16) := by kernel_rfl
def strCells (s : ByteArray) : List Value := [.string s]
theorem strCells_map (l : List ByteArray) : l.flatMap strCells = l.map Value.string := by induction l with
 | nil => rfl
 | cons x r ih => rw [List.flatMap_cons,ih];rfl
theorem flatOneStr (l : List ByteArray) : ∀ u ∈ l.flatMap strCells,u.oneCell' = true := fun u hu => by
 rw [strCells_map] at hu
 obtain ⟨x,-,rfl⟩ := List.mem_map.1 hu
 rfl
def zeroSr : List Value := [.string ⟨#[]⟩]
theorem clearOneR (b o c : Nat) (w : World) (hc : ∀ j,j < 1 → (w.cell? ⟨b,o + j,none⟩).isSome = true) (hf : ∀ j,j < 1 → w.frozen? ⟨b,o + j,none⟩ = false) (ty : TypeId) :
  (Builtin.clear_ #[58] ty #[.slice (some ⟨b,o,none⟩) 1 c]).run Tryz.prog w = .ok (.tuple #[]) (w.setCells b o zeroSr) := by
 have hst := run_storeCells_cells (P := Tryz.prog) b o zeroSr 0 w (fun j hj => hc j hj) (fun j hj => hf j hj) (by intro v hv;simp only [zeroSr,List.mem_cons,List.not_mem_nil,or_false] at hv;subst hv;rfl)
 simp only [Nat.add_zero] at hst
 have hz : (Builtin.zeroCells (Value.string ⟨#[]⟩).cells 1).toList = zeroSr := by kernel_rfl
 simp [Builtin.clear_,run_underlying Tryz.underlying58,Tryz.zeroValue9,hz,hst]
def movedR (l : List ByteArray) (i : Nat) : List Value := (l.drop (i + 1)).flatMap strCells
theorem movedR_len (l : List ByteArray) (i : Nat) : (movedR l i).length = (l.length - (i + 1)) * 1 := by unfold movedR;rw [flatLen strCells 1 (fun _ => rfl),List.length_drop]
theorem movedR_get (l : List ByteArray) (i t : Nat) (ht : t < (l.length - (i + 1)) * 1) : (movedR l i)[t]? = (l.flatMap strCells)[(i + 1) * 1 + t]? := by
 have h := List.take_append_drop (i + 1) l
 have e : l.flatMap strCells = (l.take (i + 1)).flatMap strCells ++ movedR l i := by
  unfold movedR
  rw [← List.flatMap_append,h]
 have hl : ((l.take (i + 1)).flatMap strCells).length = (i + 1) * 1 := by rw [flatLen strCells 1 (fun _ => rfl),List.length_take];omega
 rw [e,List.getElem?_append_right (by omega),hl]
 congr 1
 omega
theorem erasedR (l : List ByteArray) (i : Nat) (_hi : i < l.length) : (l.eraseIdx i).flatMap strCells = (l.take i).flatMap strCells ++ movedR l i := by
 rw [List.eraseIdx_eq_take_drop_succ,List.flatMap_append]
 rfl
set_option maxRecDepth 1000000 in
set_option maxHeartbeats 4000000 in
theorem deleteStrs (base g cap : Nat) (l : List ByteArray) (i : Nat) (w : World) (hi : i < l.length) (h100 : l.length ≤ 100) (h : w.ownsRow base 9 1 (.slice (some ⟨g,0,none⟩) l.length cap) l.length (l.flatMap strCells)) :
  Calls Tryz.prog 46 #[.slice (some ⟨g,0,none⟩) l.length cap,.int .i64 i,.int .i64 ((i : Int) + 1)] w fun e w' => e = .returned (.slice (some ⟨g,0,none⟩) (l.length - 1) cap) ∧
   Flat w' w'.heap.size (.slice (some ⟨g,0,none⟩) (l.length - 1) cap) (l.length - 1) ((l.eraseIdx i).flatMap strCells) ∧ w.grownBy w' (some g) := by
 rcases h.2 with ⟨h1,_⟩ | ⟨g',cap',cur,h1,hb,hg,hnc,hcm,hcs,ht⟩
 ·cases h1
 injection h1 with e1 _ e2
 injection e1 with e1
 injection e1 with e1
 subst e1 e2
 obtain ⟨i0,hi0,hz0,hz1,hz2⟩ := info_parts info_strS
 have hglt := (Array.getElem?_eq_some_iff.1 hg).1
 have hcell : ∀ q k,k < cap * 1 → ((w.drewN q).cell? ⟨g,k,none⟩).isSome = true ∧ (w.drewN q).frozen? ⟨g,k,none⟩ = false := fun q k hk => by
  constructor
  ·show (w.cell? ⟨g,k,none⟩).isSome = true
   rw [cell_of_row w g k cur _ (0,0) hg,Array.getElem?_eq_getElem (by omega)]
   rfl
  ·show w.frozen? ⟨g,k,none⟩ = false
   simp [World.frozen?,hg]
 have hread : ∀ k,k < l.length * 1 → w.cell? ⟨g,k,none⟩ = (l.flatMap strCells)[k]? := fun k hk => by
  rw [cell_of_row w g k cur _ (0,0) hg,← ht,List.getElem?_take,if_pos hk]
  simp
 obtain ⟨A,hA,hsrc⟩ : ∃ A : Addr,(if cap = i + 1 then some (⟨g,0,none⟩ : Addr) else some ⟨g,(i + 1) * 1,none⟩) = some A ∧ Hid (∀ t u,(movedR l i)[t]? = some u → w.drew.cell? (A.add t) = some u) := by
  by_cases hc : cap = i + 1
  ·refine ⟨⟨g,0,none⟩,by simp [hc],fun t u hu => ?_⟩
   have h0 : (movedR l i).length = 0 := by rw [movedR_len];omega
   rw [List.length_eq_zero_iff.1 h0] at hu
   simp at hu
  ·refine ⟨⟨g,(i + 1) * 1,none⟩,by simp [hc],fun t u hu => ?_⟩
   have ht : t < (l.length - (i + 1)) * 1 := by
    have := (List.getElem?_eq_some_iff.1 hu).1
    rwa [movedR_len] at this
   rw [movedR_get l i t ht] at hu
   rw [Addr.add_lit]
   exact (hread _ (by omega)).trans hu
 have s1 : Hid ((movedR l i).length = (l.length - (i + 1)) * 1) := movedR_len l i
 have s2 : Hid (∀ u ∈ movedR l i,u.oneCell' = true) := flatOneStr _
 have s3 : Hid (∀ t,t < (movedR l i).length → (w.drew.cell? ⟨g,0 + i * 1 + t,none⟩).isSome = true ∧ w.drew.frozen? ⟨g,0 + i * 1 + t,none⟩ = false) := fun t ht => by
  rw [movedR_len] at ht
  rw [Nat.zero_add]
  exact hcell 1 _ (by omega)
 obtain ⟨W1,hW1⟩ : ∃ W1,W1 = w.drew.setCells g (0 + i * 1) (movedR l i) := ⟨_,rfl⟩
 have hW1b : ∀ k,k < cap * 1 → (W1.cell? ⟨g,k,none⟩).isSome = true ∧ W1.frozen? ⟨g,k,none⟩ = false := fun k hk => by
  rw [hW1,World.frozen?_setCells]
  exact ⟨World.isSome_setCells g _ _ _ _ (hcell 1 k hk).1,(hcell 1 k hk).2⟩
 have hcl : ∀ ty,(Builtin.clear_ #[58] ty #[.slice (some ⟨g,(l.length - 1) * 1,none⟩) 1 (cap - (l.length - 1))]).run Tryz.prog W1 = .ok (.tuple #[]) (W1.setCells g ((l.length - 1) * 1) zeroSr) := fun ty =>
  clearOneR g _ _ W1 (fun j hj => (hW1b _ (by omega)).1) (fun j hj => (hW1b _ (by omega)).2) ty
 have HW1 : Hid (W1 = w.drew.setCells g (0 + i * 1) (movedR l i)) := hW1
 have HF : Hid (Flat (W1.setCells g ((l.length - 1) * 1) zeroSr) (W1.setCells g ((l.length - 1) * 1) zeroSr).heap.size (.slice (some ⟨g,0,none⟩) (l.length - 1) cap) (l.length - 1) ((l.eraseIdx i).flatMap strCells) ∧ w.grownBy (W1.setCells g ((l.length - 1) * 1) zeroSr) (some g)) := by
  have hlE : ((l.eraseIdx i).flatMap strCells).length = (l.length - 1) * 1 := by rw [flatLen strCells 1 (fun _ => rfl),List.length_eraseIdx,if_pos hi]
  refine ⟨⟨_,_,rfl,by omega,hcm,fun _ => ⟨g,0,rfl,?_,fun j u hu => ?_⟩⟩,?_⟩
  ·rw [size_setCellsD,hW1,size_setCellsD]
   exact hglt
  ·have hj : j < (l.length - 1) * 1 := by
    have := (List.getElem?_eq_some_iff.1 hu).1
    omega
   rw [Nat.zero_add,World.cell?_setCells_out _ _ _ _ _ (fun _ _ => .inl hj),hW1,Nat.zero_add]
   rw [erasedR l i hi] at hu
   by_cases hji : j < i * 1
   ·rw [World.cell?_setCells_out _ _ _ _ _ (fun _ _ => .inl hji)]
    rw [List.getElem?_append_left (by rw [flatLen strCells 1 (fun _ => rfl),List.length_take];omega)] at hu
    show w.cell? _ = _
    rw [hread j (by omega),← hu]
    conv => lhs;rw [← List.take_append_drop i l,List.flatMap_append]
    rw [List.getElem?_append_left (by rw [flatLen strCells 1 (fun _ => rfl),List.length_take];omega)]
   ·obtain ⟨t,rfl⟩ : ∃ t,j = i * 1 + t := ⟨j - i * 1,by omega⟩
    rw [List.getElem?_append_right (by rw [flatLen strCells 1 (fun _ => rfl),List.length_take];omega),flatLen strCells 1 (fun _ => rfl),List.length_take,Nat.min_eq_left (by omega),Nat.add_sub_cancel_left] at hu
    have htl : t < (movedR l i).length := (List.getElem?_eq_some_iff.1 hu).1
    have hm := movedR_len l i
    rw [World.cell?_setCells_in g (movedR l i) (i * 1) w.drew (fun j hj => show (w.drew.cell? _).isSome = true from (hcell 1 _ (by omega)).1) t htl,← hu,List.getElem?_eq_getElem]
  ·refine ⟨?_,?_,?_,?_,fun k hk hne => ?_⟩
   ·rw [(setCells_ioD _ _ _ _).1,hW1,(setCells_ioD _ _ _ _).1];rfl
   ·rw [(setCells_ioD _ _ _ _).2.1,hW1,(setCells_ioD _ _ _ _).2.1];rfl
   ·rw [(setCells_ioD _ _ _ _).2.2,hW1,(setCells_ioD _ _ _ _).2.2];rfl
   ·rw [size_setCellsD,hW1,size_setCellsD];exact Nat.le_refl _
   ·have hkg : k ≠ g := fun e => hne (by rw [e])
    rw [heap_setCellsD _ _ _ _ hkg,hW1,heap_setCellsD _ _ _ _ hkg]
    rfl
 have hic : i ≤ cap := by omega
 have hjc : i + 1 ≤ cap := by omega
 unfold maxLen at hcm
 clear h hW1 hW1b hread hcell ht hg hcs
 generalize hn : l.length = n at *
 obtain ⟨n1,rfl⟩ : ∃ n1,n = n1 + 1 := ⟨n - 1,by omega⟩
 simp only [Nat.add_sub_cancel] at hcl HF ⊢
 have hwr : IntKind.i64.wrap ((i : Int) + 1) = (i : Int) + 1 := IntWalk.i64_in _ (by omega)
 have hp0 : (0 : Int) ≤ (i : Int) + 1 := by omega
 have hp1 : (i : Int) + 1 ≤ ((n1 + 1 : Nat) : Int) := by omega
 have hp1' : (i : Int) + 1 ≤ (n1 : Int) + 1 := by omega
 have hp2 : ((i : Int) + 1).toNat = i + 1 := by omega
 have Hn := Lib.hid hn
 have hsum : i + (n1 + 1 - (i + 1)) = n1 := by omega
 have hn1c : ¬ cap = n1 := by omega
 have hn1c' : n1 ≤ cap := by omega
 clear hn
 simp only [Nat.mul_one] at hA hcl HF
 go_enter Tryz.func46,Tryz.ntmps46
 go_wp2_with fail
 go_region_law (refine step_append_room rfl (.tmp 22) (.tmp 25) 58 rfl 9 i0 1 Tryz.underlying58 hi0 hz1 g 0 i cap (by simp [Act.eval,Act.put]) A (n1 + 1 - (i + 1)) (cap - (i + 1)) (movedR l i) (by simp [Act.eval,Act.put]) s1.out hsrc.out s2.out (by omega) s3.out ?_;rw [← HW1.out])
 rw [show i + (n1 - i) = n1 by omega]
 go_simp
 have hq0 : (0 : Int) ≤ (n1 : Int) + 1 := by omega
 have hq1 : ((n1 : Int) + 1).toNat = n1 + 1 := by omega
 have hq2 : (n1 : Int) ≤ (n1 : Int) + 1 := by omega
 have hq3 : (n1 : Int) + 1 ≤ (cap : Int) := by omega
 clear hwr hp0 hp1 hp1' hp2
 go_wp2_with fail
 go_ret
 exact ⟨rfl,HF.out.1,HF.out.2⟩
set_option maxRecDepth 100000 in
set_option maxHeartbeats 1000000 in
theorem cloneStr (v : Value) (l : List ByteArray) (w : World) (hl : RowAt (Value.string) w w.heap.size v l) (hlen : l.length ≤ 1000000) :
  Calls Tryz.prog 44 #[v] w fun e w' => ∃ v',e = .returned v' ∧ w'.ownsRow w.heap.size 9 1 v' l.length (l.map Value.string) ∧ Below w.heap.size w w' := by
 have HL := Lib.hid hl
 obtain ⟨A,c,rfl,hc1,hc2,hcell⟩ := hl.open_
 clear hl
 cases A with
 | none =>
  have hl0 : l = [] := by
   cases l with
   | nil => rfl
   | cons x r => obtain ⟨b,off,e,_⟩ := hcell 0 (by simp);cases e
  subst hl0
  have heq := fun W => Lib.run_eql_slice_nil (P := Tryz.prog) W 58 9 none 0 c 0 0 Tryz.underlying58
  clear hcell
  go_enter Tryz.func44,Tryz.ntmps44
  go_wp2
  go_ret
  exact ⟨_,rfl,World.ownsRow_nil _ _ _ _,Below.refl _ _⟩
 | some ad =>
  have heq := fun W => Lib.run_eql_slice_nil (P := Tryz.prog) W 58 9 (some ad) l.length c 0 0 Tryz.underlying58
  clear hcell
  go_enter Tryz.func44,Tryz.ntmps44
  go_wp2_with (at_builtin;refine wpList_appendAll _ rfl (.tmp 5) (.tmp 6) 58 rfl w.heap.size 9 info_strS Tryz.underlying58 rfl (by decide) (.slice (some ⟨w.heap.size,0,none⟩) 0 0) 0 [] rfl (World.ownsRow_made w #[] 0 (Nat.le_refl _) (Nat.zero_le _) rfl) w.heap.size l.length (.slice (some ad) l.length c) (l.map Value.string) rfl (HL.out.below ((Below.refl _ _).alloc (Nat.le_refl _) _) (Nat.le_refl _)) (by simp) (by simp [Value.oneCell']) (by unfold maxLen;omega) (by omega) (by simp) ?_;intro v1 w1 hown1 hg1 hat1)
  go_ret
  refine ⟨_,rfl,by simpa using hown1,?_⟩
  exact ((Below.refl w.heap.size w).alloc (Nat.le_refl _) _).grown hg1 (by simp) (fun k hk => by simp [Value.ownBlock] at hk;omega)
end Go.Proofs.YtbhmkcjddpniiaaGreatDoor

namespace Go.Proofs.YtbhmkcjddpniiaaGreatDoor
open Go.RowKit Go.Shelf
theorem info_boolK : (Tryz.prog.info? 4).map (fun i => (i.zero,i.size,i.bytes)) = some (some (.bool false),1,1) := by kernel_rfl
structure KnownRow (w : World) (B : Nat) (M : Nat → Prop) (kv : Value) (n : Nat) (ks : List Bool) : Prop where
 own : w.ownsRow B 4 1 kv n (ks.map Value.bool)
 out : ∀ g,kv.ownBlock = some g → ¬ M g
section
variable {w w' : World} {B : Nat} {M : Nat → Prop} {kv : Value} {n : Nat} {ks : List Bool}
theorem KnownRow.nil : KnownRow w B M (.slice none 0 0) 0 [] := ⟨World.ownsRow_nil _ _ _ _,fun _ e => by simp [Value.ownBlock] at e⟩
theorem KnownRow.below (h : KnownRow w B M kv n ks) (hb : Below w.heap.size w w') : KnownRow w' B M kv n ks := ⟨own_belowL h.own hb,h.out⟩
theorem KnownRow.row {e : TypeId} {b k m : Nat} {v : Value} {xs : List Value} (hk : KnownRow w B M kv n ks) (h : w.ownsRow b e k v m xs) (hg : w.grownBy w' v.ownBlock) (he : 4 ≠ e) : KnownRow w' B M kv n ks := ⟨row_row h hg hk.own he,hk.out⟩
theorem KnownRow.push {g cap : Nat} {u : Bool} (h : KnownRow w B M kv n ks) (hlt : ∀ g,M g → g < w.heap.size) (ho : w'.ownsRow B 4 1 (.slice (some ⟨g,0,none⟩) (n + 1) cap) (n + 1) (ks.map Value.bool ++ [.bool u])) (_hg : w.grownBy w' kv.ownBlock) (hgg : kv.ownBlock = some g ∨ w.heap.size ≤ g) :
  KnownRow w' B M (.slice (some ⟨g,0,none⟩) (n + 1) cap) (n + 1) (ks ++ [u]) := by
 refine ⟨by rw [List.map_append];exact ho,fun g' e hM => ?_⟩
 obtain rfl : g = g' := by simpa [Value.ownBlock] using e
 rcases hgg with hgg | hgg
 ·exact h.out g hgg hM
 ·have := hlt g hM
  omega
theorem bool_cell {A : Option Addr} {c : Nat} (h : w.ownsRow B 4 1 (.slice A n c) n (ks.map Value.bool)) (hn : n = ks.length) {j : Nat} (hj : j < ks.length) : ∃ b,A = some ⟨b,0,none⟩ ∧ w.cell? ⟨b,j,none⟩ = some (.bool ks[j]) := by
 rcases h.2 with ⟨_,e⟩ | ⟨g,cap,cur,e,_⟩
 ·omega
 ·injection e with e1 _ _
  subst e1
  have := h.cells (g := g) (by simp [Value.ownBlock]) j (.bool ks[j]) (by simp [hj])
  rw [Addr.add_lit,Nat.zero_add] at this
  exact ⟨g,rfl,this⟩
end
theorem own_some {w : World} {b t s n c : Nat} {A : Option Addr} {xs : List Value} (hn : 0 < n) (h : w.ownsRow b t s (.slice A n c) n xs) : ∃ g cap,Value.slice A n c = .slice (some ⟨g,0,none⟩) n cap := by
 rcases h.2 with ⟨_,e⟩ | ⟨g,cap,cur,e,_⟩
 ·omega
 ·exact ⟨g,cap,e⟩
theorem oth_round {st : St} (h : StOk st) {j : Nat} (hj : j < st.sets.length) : ∃ x,x ∈ st.sets ∧ st.sets[j] = x ∧ getS st x.name = (x,0) ∧ freshS st x.name = (decide (x ∈ st.known),0) :=
 ⟨st.sets[j],List.getElem_mem hj,rfl,getS_self h hj,(mem_getS h (List.getElem_mem hj)).2⟩
theorem acts_one (w : World) (a : ActC) (hs : SetAt (w.alloc (.cells #[.int .i64 a.kind,.string a.c.s.name,.int .i64 a.c.s.depth,.int .i64 a.c.s.low,.int .i64 a.c.s.high,.int .i64 a.c.s.len,.slice a.c.al a.c.s.lines.length a.c.cl,.int .i64 a.c.s.pipe,.int .i64 a.c.s.arbor,.int .i64 a.c.s.purch,.int .i64 a.c.s.most,.int .i64 a.c.s.brake,.slice a.c.ai a.c.s.items.length a.c.ci,.slice a.c.ab a.c.s.bricks.length a.c.cb] 71)) (w.alloc (.cells #[.int .i64 a.kind,.string a.c.s.name,.int .i64 a.c.s.depth,.int .i64 a.c.s.low,.int .i64 a.c.s.high,.int .i64 a.c.s.len,.slice a.c.al a.c.s.lines.length a.c.cl,.int .i64 a.c.s.pipe,.int .i64 a.c.s.arbor,.int .i64 a.c.s.purch,.int .i64 a.c.s.most,.int .i64 a.c.s.brake,.slice a.c.ai a.c.s.items.length a.c.ci,.slice a.c.ab a.c.s.bricks.length a.c.cb] 71)).heap.size a.c.val a.c.s) (hn : SetNames a.c.s) :
  ActsAt (w.alloc (.cells #[.int .i64 a.kind,.string a.c.s.name,.int .i64 a.c.s.depth,.int .i64 a.c.s.low,.int .i64 a.c.s.high,.int .i64 a.c.s.len,.slice a.c.al a.c.s.lines.length a.c.cl,.int .i64 a.c.s.pipe,.int .i64 a.c.s.arbor,.int .i64 a.c.s.purch,.int .i64 a.c.s.most,.int .i64 a.c.s.brake,.slice a.c.ai a.c.s.items.length a.c.ci,.slice a.c.ab a.c.s.bricks.length a.c.cb] 71)) (w.alloc (.cells #[.int .i64 a.kind,.string a.c.s.name,.int .i64 a.c.s.depth,.int .i64 a.c.s.low,.int .i64 a.c.s.high,.int .i64 a.c.s.len,.slice a.c.al a.c.s.lines.length a.c.cl,.int .i64 a.c.s.pipe,.int .i64 a.c.s.arbor,.int .i64 a.c.s.purch,.int .i64 a.c.s.most,.int .i64 a.c.s.brake,.slice a.c.ai a.c.s.items.length a.c.ci,.slice a.c.ab a.c.s.bricks.length a.c.cb] 71)).heap.size (.slice (some ⟨w.heap.size,0,none⟩) 1 1) [a] := by
 refine ⟨⟨_,_,rfl,Nat.le_refl _,by unfold maxLen;decide,fun _ => ⟨w.heap.size,0,rfl,by simp,fun j u hu => ?_⟩⟩,fun t ht => ?_⟩
 ·rw [Nat.zero_add,(Blk.new w 71 #[.int .i64 a.kind,.string a.c.s.name,.int .i64 a.c.s.depth,.int .i64 a.c.s.low,.int .i64 a.c.s.high,.int .i64 a.c.s.len,.slice a.c.al a.c.s.lines.length a.c.cl,.int .i64 a.c.s.pipe,.int .i64 a.c.s.arbor,.int .i64 a.c.s.purch,.int .i64 a.c.s.most,.int .i64 a.c.s.brake,.slice a.c.ai a.c.s.items.length a.c.ci,.slice a.c.ab a.c.s.bricks.length a.c.cb]).cell j]
  rw [List.flatMap_cons,List.flatMap_nil,List.append_nil] at hu
  rw [List.getElem?_toArray]
  exact hu
 ·rw [List.mem_singleton] at ht
  subst ht
  exact ⟨hs,hn⟩
set_option maxRecDepth 100000 in
set_option maxHeartbeats 16000000 in
theorem lawOthersA (v0 : Value) (F : List ActC) (a : ActC) (w : World) (hpb : (a.kind.tmod 2 == 0) = true) (HArm : Hid ((putV (actsTo F F.length) a.c.s).1 ≠ 0)) (h0 : ActsAt w w.heap.size v0 F) (hs : SetAt w w.heap.size a.c.val a.c.s) (hn : SetNames a.c.s) (ht : Tab w) :
  Calls Tryz.prog 9 #[v0,a.val] w fun e w' => e = .returned (.bool true) ∧ Below w.heap.size w w' := by
 have HT := Lib.hid fun W (hb : Below w.heap.size w W) => ht.below hb
 have HLg0 := Lib.hid fun W (hb : Below w.heap.size w W) => large49 v0 F W ((h0.below hb (Nat.le_refl _)).mono hb.size)
 have HAc0 := Lib.hid fun t (hm : t ∈ F) W (hb : Below w.heap.size w W) => ((h0.2 t hm).1.below hb (Nat.le_refl _)).mono hb.size
 have HNm0 := Lib.hid fun t (hm : t ∈ F) => (h0.2 t hm).2
 have HXs := Lib.hid fun W (hb : Below w.heap.size w W) => (hs.below hb (Nat.le_refl _)).mono hb.size
 have HXn := Lib.hid hn
 have hba := (Below.refl _ w).alloc (Nat.le_refl _) (.cells #[.int .i64 a.kind,.string a.c.s.name,.int .i64 a.c.s.depth,.int .i64 a.c.s.low,.int .i64 a.c.s.high,.int .i64 a.c.s.len,.slice a.c.al a.c.s.lines.length a.c.cl,.int .i64 a.c.s.pipe,.int .i64 a.c.s.arbor,.int .i64 a.c.s.purch,.int .i64 a.c.s.most,.int .i64 a.c.s.brake,.slice a.c.ai a.c.s.items.length a.c.ci,.slice a.c.ab a.c.s.bricks.length a.c.cb] 71)
 have hAw := lawAwake49 (w.alloc (.cells #[.int .i64 a.kind,.string a.c.s.name,.int .i64 a.c.s.depth,.int .i64 a.c.s.low,.int .i64 a.c.s.high,.int .i64 a.c.s.len,.slice a.c.al a.c.s.lines.length a.c.cl,.int .i64 a.c.s.pipe,.int .i64 a.c.s.arbor,.int .i64 a.c.s.purch,.int .i64 a.c.s.most,.int .i64 a.c.s.brake,.slice a.c.ai a.c.s.items.length a.c.ci,.slice a.c.ab a.c.s.bricks.length a.c.cb] 71)) (HT.out _ hba)
 have HBa := Lib.hid hba
 have HXa := Lib.hid (Blk.new w 71 #[.int .i64 a.kind,.string a.c.s.name,.int .i64 a.c.s.depth,.int .i64 a.c.s.low,.int .i64 a.c.s.high,.int .i64 a.c.s.len,.slice a.c.al a.c.s.lines.length a.c.cl,.int .i64 a.c.s.pipe,.int .i64 a.c.s.arbor,.int .i64 a.c.s.purch,.int .i64 a.c.s.most,.int .i64 a.c.s.brake,.slice a.c.ai a.c.s.items.length a.c.ci,.slice a.c.ab a.c.s.bricks.length a.c.cb])
 obtain ⟨A0,c0,rfl,hc01,hc02,hcell0⟩ := h0.open_
 unfold maxLen at hc02
 have HC0 := Lib.hid hcell0
 clear hcell0 h0 ht hs hn hba
 unfold ActC.val ActC.cells SetC.cells
 go_enter Tryz.func9,Tryz.ntmps9
 go_wp2_with fail
 generalize (w.alloc (.cells #[.int .i64 a.kind,.string a.c.s.name,.int .i64 a.c.s.depth,.int .i64 a.c.s.low,.int .i64 a.c.s.high,.int .i64 a.c.s.len,.slice a.c.al a.c.s.lines.length a.c.cl,.int .i64 a.c.s.pipe,.int .i64 a.c.s.arbor,.int .i64 a.c.s.purch,.int .i64 a.c.s.most,.int .i64 a.c.s.brake,.slice a.c.ai a.c.s.items.length a.c.ci,.slice a.c.ab a.c.s.bricks.length a.c.cb] 71)) = w0 at *
 refine hAw.mono ?_
 rintro e w1 ⟨rfl,hb1⟩
 have HB1 := Lib.hid (HBa.out.trans (hb1.mono HBa.out.size))
 have HX1 := Lib.hid (HXa.out.below hb1 HXa.out.lt)
 have hLg := HLg0.out w1 HB1.out
 clear HLg0 hAw hb1 HBa HXa
 go_wp2_with fail
 refine hLg.mono ?_
 rintro e w2 ⟨q,rfl,hb2,h12⟩
 have HB2 := Lib.hid (HB1.out.trans (hb2.mono HB1.out.size))
 have HX2 := Lib.hid (HX1.out.below hb2 HX1.out.lt)
 have H12 := Lib.hid h12
 clear hb2 h12 hLg HB1 HX1
 cases q with
 | true =>
  go_wp2_with fail
  go_ret
  exact ⟨rfl,HB2.out⟩
 | false =>
  have HF12 := Lib.hid (H12.out rfl)
  have ha := (Below.refl w2.heap.size w2).alloc (Nat.le_refl _) (.cells #[.int .i64 a.kind,.string a.c.s.name,.int .i64 a.c.s.depth,.int .i64 a.c.s.low,.int .i64 a.c.s.high,.int .i64 a.c.s.len,.slice a.c.al a.c.s.lines.length a.c.cl,.int .i64 a.c.s.pipe,.int .i64 a.c.s.arbor,.int .i64 a.c.s.purch,.int .i64 a.c.s.most,.int .i64 a.c.s.brake,.slice a.c.ai a.c.s.items.length a.c.ci,.slice a.c.ab a.c.s.bricks.length a.c.cb] 71)
  have HB3 := Lib.hid (HB2.out.trans (ha.mono HB2.out.size))
  have HX3 := Lib.hid (HX2.out.below ha HX2.out.lt)
  have hLg := large49 (.slice (some ⟨w2.heap.size,0,none⟩) 1 1) [a] (w2.alloc (.cells #[.int .i64 a.kind,.string a.c.s.name,.int .i64 a.c.s.depth,.int .i64 a.c.s.low,.int .i64 a.c.s.high,.int .i64 a.c.s.len,.slice a.c.al a.c.s.lines.length a.c.cl,.int .i64 a.c.s.pipe,.int .i64 a.c.s.arbor,.int .i64 a.c.s.purch,.int .i64 a.c.s.most,.int .i64 a.c.s.brake,.slice a.c.ai a.c.s.items.length a.c.ci,.slice a.c.ab a.c.s.bricks.length a.c.cb] 71)) (acts_one w2 a (HXs.out _ HB3.out) HXn.out)
  clear H12 ha
  have p0 := HX2.out.cell 0
  have p1 := HX2.out.cell 1
  have p2 := HX2.out.cell 2
  have p3 := HX2.out.cell 3
  have p4 := HX2.out.cell 4
  have p5 := HX2.out.cell 5
  have p6 := HX2.out.cell 6
  have p7 := HX2.out.cell 7
  have p8 := HX2.out.cell 8
  have p9 := HX2.out.cell 9
  have p10 := HX2.out.cell 10
  have p11 := HX2.out.cell 11
  have p12 := HX2.out.cell 12
  have p13 := HX2.out.cell 13
  simp only [List.getElem?_toArray,List.getElem?_cons_succ,List.getElem?_cons_zero] at p0 p1 p2 p3 p4 p5 p6 p7 p8 p9 p10 p11 p12 p13
  go_wp2_with fail
  refine hLg.mono ?_
  rintro e w4 ⟨q,rfl,hb4,-⟩
  have HB4 := Lib.hid (HB3.out.trans (hb4.mono HB3.out.size))
  have HX4 := Lib.hid (HX3.out.below hb4 HX3.out.lt)
  clear hb4 hLg HB3 HX3 HB2 HX2 p0 p1 p2 p3 p4 p5 p6 p7 p8 p9 p10 p11 p12 p13
  cases q with
  | true =>
   go_wp2_with fail
   go_ret
   exact ⟨rfl,HB4.out⟩
  | false =>
   go_wp2_with fail
   refine (stNew w.heap.size w4 HB4.out.size).mono ?_
   rintro e w3 ⟨D,rfl,hb3,hS3⟩
   have HB3 := Lib.hid (HB4.out.trans (hb3.mono HB4.out.size))
   have HX3 := Lib.hid (HX4.out.below hb3 HX4.out.lt)
   have HS3 := Lib.hid hS3
   clear hb3 hS3 HB4 HX4
   go_wp2_with fail
   go_loopw [43] (fun x wr => ∃ (j : Nat) (M : Nat → Prop) (r : StR),j ≤ F.length ∧ x = .int .i64 j ∧ Below w.heap.size w wr ∧ StoreAt wr w.heap.size D M (actsTo F j) r ∧ Blk wr w.heap.size 71 #[.int .i64 a.kind,.string a.c.s.name,.int .i64 a.c.s.depth,.int .i64 a.c.s.low,.int .i64 a.c.s.high,.int .i64 a.c.s.len,.slice a.c.al a.c.s.lines.length a.c.cl,.int .i64 a.c.s.pipe,.int .i64 a.c.s.arbor,.int .i64 a.c.s.purch,.int .i64 a.c.s.most,.int .i64 a.c.s.brake,.slice a.c.ai a.c.s.items.length a.c.ci,.slice a.c.ab a.c.s.bricks.length a.c.cb]) (fun x _ => F.length - (intOf x).toNat)
   case atStart => exact ⟨0,_,_,Nat.zero_le _,rfl,HB3.out,HS3.out,HX3.out⟩
   case round =>
    obtain ⟨j,M,r,hj,rfl,hbel,hS,hX⟩ := hrel
    have HBl := Lib.hid hbel
    have HX := Lib.hid hX
    clear hbel hX
    by_cases hlt : j < F.length
    ·obtain ⟨b,off,rfl,hb,hcell⟩ := HC0.out j hlt
     have h0 := (HBl.out.cell (p := ⟨b,off + j * 14,none⟩) hb).trans (hcell j hlt 0 _ rfl)
     have h1 := (HBl.out.cell (p := ⟨b,off + j * 14 + 1,none⟩) hb).trans (hcell j hlt 1 _ rfl)
     have h2 := (HBl.out.cell (p := ⟨b,off + j * 14 + 2,none⟩) hb).trans (hcell j hlt 2 _ rfl)
     have h3 := (HBl.out.cell (p := ⟨b,off + j * 14 + 3,none⟩) hb).trans (hcell j hlt 3 _ rfl)
     have h4 := (HBl.out.cell (p := ⟨b,off + j * 14 + 4,none⟩) hb).trans (hcell j hlt 4 _ rfl)
     have h5 := (HBl.out.cell (p := ⟨b,off + j * 14 + 5,none⟩) hb).trans (hcell j hlt 5 _ rfl)
     have h6 := (HBl.out.cell (p := ⟨b,off + j * 14 + 6,none⟩) hb).trans (hcell j hlt 6 _ rfl)
     have h7 := (HBl.out.cell (p := ⟨b,off + j * 14 + 7,none⟩) hb).trans (hcell j hlt 7 _ rfl)
     have h8 := (HBl.out.cell (p := ⟨b,off + j * 14 + 8,none⟩) hb).trans (hcell j hlt 8 _ rfl)
     have h9 := (HBl.out.cell (p := ⟨b,off + j * 14 + 9,none⟩) hb).trans (hcell j hlt 9 _ rfl)
     have h10 := (HBl.out.cell (p := ⟨b,off + j * 14 + 10,none⟩) hb).trans (hcell j hlt 10 _ rfl)
     have h11 := (HBl.out.cell (p := ⟨b,off + j * 14 + 11,none⟩) hb).trans (hcell j hlt 11 _ rfl)
     have h12 := (HBl.out.cell (p := ⟨b,off + j * 14 + 12,none⟩) hb).trans (hcell j hlt 12 _ rfl)
     have h13 := (HBl.out.cell (p := ⟨b,off + j * 14 + 13,none⟩) hb).trans (hcell j hlt 13 _ rfl)
     clear hcell
     have hbel := HBl.out
     have ha := fun o => (Below.refl wr.heap.size wr).alloc (Nat.le_refl _) o
     have hm := List.getElem_mem hlt
     obtain ⟨g1,g2,-⟩ := actsTo_ok F j hj
     have hsm := g2.mono (Nat.le_trans hj (Nat.le_trans HF12.out (by decide : 12 ≤ 1000)))
     have HE := Lib.hid (actsTo_succ hlt)
     have HP := Lib.hid fun o => plain49 w.heap.size D M (actsTo F j) r F[j] (wr.alloc o) (hS.below (ha o)) g1 (HT.out _ (hbel.trans ((ha o).mono hbel.size))) (HAc0.out _ hm _ (hbel.trans ((ha o).mono hbel.size))) (HNm0.out _ hm) hsm
     have HBe := Lib.hid fun o => hbel.trans ((ha o).mono hbel.size)
     have HXe := Lib.hid fun o => HX.out.below (ha o) HX.out.lt
     clear ha hm g1 g2 hsm hS hbel
     generalize F[j] = t at *
     have hP := HP.out (.cells #[.int .i64 t.kind,.string t.c.s.name,.int .i64 t.c.s.depth,.int .i64 t.c.s.low,.int .i64 t.c.s.high,.int .i64 t.c.s.len,.slice t.c.al t.c.s.lines.length t.c.cl,.int .i64 t.c.s.pipe,.int .i64 t.c.s.arbor,.int .i64 t.c.s.purch,.int .i64 t.c.s.most,.int .i64 t.c.s.brake,.slice t.c.ai t.c.s.items.length t.c.ci,.slice t.c.ab t.c.s.bricks.length t.c.cb] 71)
     clear HP
     go_wp2_with fail
     refine hP.mono ?_
     rintro e w5 ⟨rfl,hc5,M5,r5,hS5,-⟩
     rw [← HE.out] at hS5
     have HS5 := Lib.hid hS5
     have HB5 := Lib.hid ((HBe.out _).trans hc5.bel)
     have HX5 := Lib.hid ((HXe.out _).chg hc5 (by decide) (by decide))
     clear hS5 hc5 hP HBe HE HXe h0 h1 h2 h3 h4 h5 h6 h7 h8 h9 h10 h11 h12 h13
     go_wp2_with fail
     go_roundw
     case rel => exact ⟨j + 1,M5,r5,by omega,by go_num,HB5.out,HS5.out,HX5.out⟩
     case measure => simp [intOf];omega
    ·have hje : j = F.length := by omega
     subst hje
     obtain ⟨g1,g2,g3⟩ := actsTo_ok F F.length (Nat.le_refl _)
     have hbel := HBl.out
     have hn := (stNames w.heap.size D M (actsTo F F.length) r wr hS g1)
     have HS := Lib.hid hS
     have HB := Lib.hid hbel
     have HG1 := Lib.hid g1
     have HG2 := Lib.hid (g2.mono HF12.out)
     have HN12 := Lib.hid (Nat.le_trans g3.sets HF12.out)
     have hgt : decide (F.length < (actsTo F F.length).sets.length) = false := decide_eq_false (by have := g3.sets;omega)
     clear g1 g2 g3 hS hbel HC0 HS3 HB3 HX3 HAc0 HNm0 HBl
     generalize actsTo F F.length = st at *
     go_wp2_with fail
     refine hn.mono ?_
     rintro e w6 ⟨hb6,v6,rfl,ho6⟩
     obtain ⟨A6,c6,rfl⟩ := own_formB ho6
     obtain ⟨_,_,e6,hq1,hq2,-⟩ := Flat.of_own ho6
     injection e6 with e61 _ e62
     subst e61 e62
     unfold maxLen at hq2
     have HI6 : Hid (Und49 w w6 D (.slice A6 st.sets.length c6) (.slice none 0 0) M st r st.sets [] 12) := ⟨HB.out.trans (hb6.mono HB.out.size),HS.out.below hb6,HG1.out,HG2.out,own_mono ho6 HB.out.size,SavedAt.nil⟩
     have HX6 := Lib.hid (HX.out.below hb6 HX.out.lt)
     clear ho6 hb6 hn HS HB HG1 HG2 HX
     have hSl := HN12.out
     clear HN12
     obtain ⟨S,hSe⟩ : ∃ S,st.sets = S := ⟨_,rfl⟩
     rw [hSe] at HI6 hgt hSl hq1
     rw [hSe]
     have HSE := Lib.hid hSe
     clear hSe
     go_wp2_with fail
     go_loopw [60,9,10] (fun x sv kv wq => ∃ (j : Nat) (LS : List SetC),j ≤ S.length ∧ x = .int .i64 j ∧ Und49 w wq D (.slice A6 S.length c6) sv M st r S LS 12 ∧ LS.map SetC.s = S.take j ∧ KnownRow wq w.heap.size M kv j ((S.take j).map fun y => decide (y ∈ st.known)) ∧ Blk wq w.heap.size 71 #[.int .i64 a.kind,.string a.c.s.name,.int .i64 a.c.s.depth,.int .i64 a.c.s.low,.int .i64 a.c.s.high,.int .i64 a.c.s.len,.slice a.c.al a.c.s.lines.length a.c.cl,.int .i64 a.c.s.pipe,.int .i64 a.c.s.arbor,.int .i64 a.c.s.purch,.int .i64 a.c.s.most,.int .i64 a.c.s.brake,.slice a.c.ai a.c.s.items.length a.c.ci,.slice a.c.ab a.c.s.bricks.length a.c.cb]) (fun x _ _ _ => S.length - (intOf x).toNat)
     case atStart => exact ⟨0,_,Nat.zero_le _,rfl,HI6.out,rfl,KnownRow.nil,HX6.out⟩
     case round =>
      clear HI6 HX6
      obtain ⟨j,LS,hj,rfl,hI,hls,hkr,hX⟩ := hrel
      have hlsl : LS.length = j := by have := congrArg List.length hls;simpa [Nat.min_eq_left hj] using this
      obtain ⟨As,cs,rfl,-⟩ := hI.saved.open_
      obtain ⟨Ak,ck,rfl⟩ := own_formB hkr.own
      by_cases hlt : j < S.length
      ·have hlt' : j < st.sets.length := by rw [HSE.out];exact hlt
       obtain ⟨b,off,rfl,hcell⟩ := names_cell hI.names rfl hlt
       obtain ⟨x,hx,hxe,f1,f2⟩ := oth_round hI.ok hlt'
       have hxe' : S[j] = x := by rw [← hxe];congr 1;exact HSE.out.symm
       have HTk : Hid (S.take (j + 1) = S.take j ++ [x]) := by rw [← hxe'];exact take_snoc S j hlt
       rw [hxe'] at hcell
       have hG := (stGet w.heap.size D M st r x.name _ hI.store hI.ok).mono fun _ _ hp => get_at hp f1
       have HI := Lib.hid hI
       have HF2 := Lib.hid f2
       have HLs := Lib.hid hls
       have HLl := Lib.hid hlsl
       have HKr := Lib.hid hkr
       have HX := Lib.hid hX
       clear hI f1 f2 hls hxe hxe' hx hlsl hkr hX
       go_wp2_with fail
       refine hG.mono ?_
       rintro e w7 ⟨hb7,⟨s,al,cl,ai,ci,ab,cb⟩,rfl,hs,ho7⟩
       simp only at hs
       subst hs
       have ha := (Below.refl w7.heap.size w7).alloc (Nat.le_refl _) (.cells #[.string s.name,.int .i64 s.depth,.int .i64 s.low,.int .i64 s.high,.int .i64 s.len,.slice al s.lines.length cl,.int .i64 s.pipe,.int .i64 s.arbor,.int .i64 s.purch,.int .i64 s.most,.int .i64 s.brake,.slice ai s.items.length ci,.slice ab s.bricks.length cb] 26)
       have hb7a := hb7.trans (ha.mono hb7.size)
       have hI8 := HI.out.below hb7a
       have HI8 := Lib.hid hI8
       have HK8 := Lib.hid (HKr.out.below hb7a)
       have HX8 := Lib.hid (HX.out.below hb7a HX.out.lt)
       have HY8 := Lib.hid (Blk.new w7 26 #[.string s.name,.int .i64 s.depth,.int .i64 s.low,.int .i64 s.high,.int .i64 s.len,.slice al s.lines.length cl,.int .i64 s.pipe,.int .i64 s.arbor,.int .i64 s.purch,.int .i64 s.most,.int .i64 s.brake,.slice ai s.items.length ci,.slice ab s.bricks.length cb])
       have HO8 := Lib.hid ((own_mono3 ho7 HI.out.bel.size).chg (ChgS.of_below ha (Nat.zero_le _)))
       have hF := stFresh w.heap.size D M st r s.name _ hI8.store hI8.ok (HT.out _ hI8.bel)
       rw [HF2.out] at hF
       clear ha hb7 hb7a ho7 hG HI hI8 HKr HX
       unfold SetC.val setVal at *
       go_wp2_with fail
       refine hF.mono ?_
       rintro e w9 ⟨rfl,hb9⟩
       have HI9 := Lib.hid (HI8.out.below hb9)
       have HK9 := Lib.hid (HK8.out.below hb9)
       have HX9 := Lib.hid (HX8.out.below hb9 HX8.out.lt)
       have HY9 := Lib.hid (HY8.out.below hb9 HY8.out.lt)
       have HO9 := Lib.hid (HO8.out.chg (ChgS.of_below hb9 (Nat.zero_le _)))
       clear hb9 hF HI8 HK8 HX8 HY8 HO8
       have p0 := HY9.out.cell 0
       have p1 := HY9.out.cell 1
       have p2 := HY9.out.cell 2
       have p3 := HY9.out.cell 3
       have p4 := HY9.out.cell 4
       have p5 := HY9.out.cell 5
       have p6 := HY9.out.cell 6
       have p7 := HY9.out.cell 7
       have p8 := HY9.out.cell 8
       have p9 := HY9.out.cell 9
       have p10 := HY9.out.cell 10
       have p11 := HY9.out.cell 11
       have p12 := HY9.out.cell 12
       simp only [List.getElem?_toArray,List.getElem?_cons_succ,List.getElem?_cons_zero] at p0 p1 p2 p3 p4 p5 p6 p7 p8 p9 p10 p11 p12
       have ha := (Below.refl w9.heap.size w9).alloc (Nat.le_refl _) (.cells #[.string s.name,.int .i64 s.depth,.int .i64 s.low,.int .i64 s.high,.int .i64 s.len,.slice al s.lines.length cl,.int .i64 s.pipe,.int .i64 s.arbor,.int .i64 s.purch,.int .i64 s.most,.int .i64 s.brake,.slice ai s.items.length ci,.slice ab s.bricks.length cb] 26)
       have HIa := Lib.hid (HI9.out.below ha)
       have HKa := Lib.hid (HK9.out.below ha)
       have HXa := Lib.hid (HX9.out.below ha HX9.out.lt)
       have HOa := Lib.hid (HO9.out.chg (ChgS.of_below ha (Nat.zero_le _)))
       have Hnew := Lib.hid (World.news_of_block (Blk.new w9 26 #[.string s.name,.int .i64 s.depth,.int .i64 s.low,.int .i64 s.high,.int .i64 s.len,.slice al s.lines.length cl,.int .i64 s.pipe,.int .i64 s.arbor,.int .i64 s.purch,.int .i64 s.most,.int .i64 s.brake,.slice ai s.items.length ci,.slice ab s.bricks.length cb]))
       have hsz := HIa.out.bel.size
       have HOw := Lib.hid HIa.out.saved.own
       have hls12 : LS.length ≤ 12 := by have := HLl.out;omega
       have hj12 : j ≤ 12 := by omega
       generalize hbk : decide (s ∈ st.known) = bk at *
       have HBk := Lib.hid hbk
       obtain ⟨iF,hiF,hzF0,hzF1,hzF2⟩ := info_parts info_setc
       clear ha HI9 HX9 HO9 HK9 HY9 hbk
       go_wp2_with (first
        | (at_builtin;refine wpList_append_lies _ rfl (.tmp 82) (.tmp 84) 66 rfl w.heap.size 26 iF (.agg #[.string ⟨#[]⟩,.int .i64 0,.int .i64 0,.int .i64 0,.int .i64 0,.slice none 0 0,.int .i64 0,.int .i64 0,.int .i64 0,.int .i64 0,.int .i64 0,.slice none 0 0,.slice none 0 0]) 13 160 Tryz.underlying66 hiF hzF0 hzF1 hzF2 rfl (by decide) _ _ _ rfl HOw.out ⟨w9.heap.size,0,none⟩ 1 1 [.string s.name,.int .i64 s.depth,.int .i64 s.low,.int .i64 s.high,.int .i64 s.len,.slice al s.lines.length cl,.int .i64 s.pipe,.int .i64 s.arbor,.int .i64 s.purch,.int .i64 s.most,.int .i64 s.brake,.slice ai s.items.length ci,.slice ab s.bricks.length cb] rfl rfl Hnew.out (by simp [Value.oneCell']) (by decide) (by unfold maxLen;omega) (by omega) hsz _ rfl ?_;intro g' cap' w10 hown' hgrow hgg hgl;have HP10 : Hid (SavedAt w10 w.heap.size M (.slice (some ⟨g',0,none⟩) (LS.length + 1) cap') (LS ++ [(⟨s,al,cl,ai,ci,ab,cb⟩ : SetC)])) := HIa.out.saved.push HOa.out rfl HIa.out.store.lt (Nat.le_refl _) hown' hgrow hgg;have HI10 : Hid (Und49 w w10 D (.slice (some ⟨b,off,none⟩) S.length c6) (.slice (some ⟨g',0,none⟩) (LS.length + 1) cap') M st r S (LS ++ [(⟨s,al,cl,ai,ci,ab,cb⟩ : SetC)]) 12) := ⟨HIa.out.bel.grown hgrow hsz (fun k e => (HOw.out.lt k e).1),store_rowE HIa.out.store HOw.out (by decide) (by decide) HIa.out.saved.out hgrow,HIa.out.ok,HIa.out.small,row_row HOw.out hgrow HIa.out.names (by decide),HP10.out⟩;have HK10 : Hid (KnownRow w10 w.heap.size M (.slice Ak j ck) j ((S.take j).map fun y => decide (y ∈ st.known))) := HKa.out.row HOw.out hgrow (by decide);have HX10 := Lib.hid (blk_row HOw.out hgrow HXa.out (by decide));have hsz10 := HI10.out.bel.size;clear hown' hgrow hgg hgl)
        | (at_builtin;refine wpList_push _ rfl (.tmp 86) (.tmp 88) 85 rfl w.heap.size 4 info_boolK Tryz.underlying85 rfl _ j _ rfl HK10.out.own (.bool bk) rfl rfl (by unfold maxLen;omega) (by omega) hsz10 ?_;intro g3 cap3 w11 hown3 hgrow3 hbg hgg3;have HK11 := Lib.hid (HK10.out.push HI10.out.store.lt hown3 hgrow3 hgg3);have HI11 : Hid (Und49 w w11 D (.slice (some ⟨b,off,none⟩) S.length c6) (.slice (some ⟨g',0,none⟩) (LS.length + 1) cap') M st r S (LS ++ [(⟨s,al,cl,ai,ci,ab,cb⟩ : SetC)]) 12) := ⟨HI10.out.bel.grown hgrow3 hsz10 (fun k e => (HK10.out.own.lt k e).1),store_rowE HI10.out.store HK10.out.own (by decide) (by decide) HK10.out.out hgrow3,HI10.out.ok,HI10.out.small,row_row HK10.out.own hgrow3 HI10.out.names (by decide),HI10.out.saved.row HK10.out.own hgrow3 (by decide) (by decide) (by decide) (by decide)⟩;have HX11 := Lib.hid (blk_row HK10.out.own hgrow3 HX10.out (by decide));clear hown3 hgrow3 hbg hgg3))
       have HLs2 : Hid ((LS ++ [(⟨s,al,cl,ai,ci,ab,cb⟩ : SetC)]).map SetC.s = S.take (j + 1)) := by rw [List.map_append,HLs.out,HTk.out];rfl
       have HK12 : Hid (KnownRow w11 w.heap.size M (.slice (some ⟨g3,0,none⟩) (j + 1) cap3) (j + 1) ((S.take (j + 1)).map fun y => decide (y ∈ st.known))) := by rw [HTk.out,List.map_append,List.map_cons,List.map_nil,HBk.out];exact HK11.out
       clear HP10 HI10 HK10 HX10 HIa HOa Hnew HOw hsz hsz10 HKa HXa HK11 p0 p1 p2 p3 p4 p5 p6 p7 p8 p9 p10 p11 p12
       go_wp2_with fail
       go_roundw
       case rel => exact ⟨j + 1,_,by omega,by go_num,HI11.out,HLs2.out,HK12.out,HX11.out⟩
       case measure => simp [intOf];omega
      ·have hje : j = S.length := by omega
       subst hje
       have HLs : Hid (LS.map SetC.s = S) := by rw [List.take_length] at hls;exact hls
       have HK : Hid (KnownRow wr w.heap.size M (.slice Ak S.length ck) S.length (S.map fun y => decide (y ∈ st.known))) := by rw [List.take_length] at hkr;exact hkr
       have HI := Lib.hid hI
       have HX := Lib.hid hX
       have HL3 := Lib.hid hlsl
       clear hI hls hkr hX hlsl
       have p0 := HX.out.cell 0
       have p1 := HX.out.cell 1
       have p2 := HX.out.cell 2
       have p3 := HX.out.cell 3
       have p4 := HX.out.cell 4
       have p5 := HX.out.cell 5
       have p6 := HX.out.cell 6
       have p7 := HX.out.cell 7
       have p8 := HX.out.cell 8
       have p9 := HX.out.cell 9
       have p10 := HX.out.cell 10
       have p11 := HX.out.cell 11
       have p12 := HX.out.cell 12
       have p13 := HX.out.cell 13
       simp only [List.getElem?_toArray,List.getElem?_cons_succ,List.getElem?_cons_zero] at p0 p1 p2 p3 p4 p5 p6 p7 p8 p9 p10 p11 p12 p13
       go_upto_region 29 with fail
       clear p0 p1 p2 p3 p4 p5 p6 p7 p8 p9 p10 p11 p12 p13
       have p0 := HX.out.cell 0
       have p1 := HX.out.cell 1
       have p2 := HX.out.cell 2
       have p3 := HX.out.cell 3
       have p4 := HX.out.cell 4
       have p5 := HX.out.cell 5
       have p6 := HX.out.cell 6
       have p7 := HX.out.cell 7
       have p8 := HX.out.cell 8
       have p9 := HX.out.cell 9
       have p10 := HX.out.cell 10
       have p11 := HX.out.cell 11
       have p12 := HX.out.cell 12
       have p13 := HX.out.cell 13
       simp only [List.getElem?_toArray,List.getElem?_cons_succ,List.getElem?_cons_zero] at p0 p1 p2 p3 p4 p5 p6 p7 p8 p9 p10 p11 p12 p13
       have hE := (stPut w.heap.size D M st r a.c.val a.c.s _ HI.out.store HI.out.ok (HXs.out _ HI.out.bel) HXn.out (Nat.le_trans HI.out.small.past (by decide))).mono fun _ _ hp => act_put hp
       obtain ⟨hO,hW⟩ := oth_put st a.c.s
       have HOk := Lib.hid (HI.out.ok.putV a.c.s)
       have HSm := Lib.hid (by have := HI.out.small.act 0 a.c.s;rwa [act0 rfl] at this : StSmall (putV st a.c.s).2 (12 + 1))
       generalize putV st a.c.s = o at *
       obtain ⟨er,st'⟩ := o
       simp only at hE hO hW HOk HSm
       have HO := Lib.hid hO
       have HW := Lib.hid hW
       clear hO hW
       go_wp2_with fail
       refine hE.mono ?_
       rintro e w7 ⟨rfl,hact⟩
       have HK7 := Lib.hid (own_chg HK.out.own hact.1 (by decide) (by decide))
       have HX7 := Lib.hid (HX.out.chg hact.1 (by decide) (by decide))
       obtain ⟨M',r',hI7⟩ := HI.out.act hact (n' := 12 + 1) HOk.out HSm.out
       have HI7 := Lib.hid hI7
       have hCl := cloneStr (.slice A6 S.length c6) (S.map SetT.name) w7 (by simpa [RowAt] using Flat.of_own hI7.names) (by simp;omega)
       clear hact hI7 hE HI HX HK HOk HSm p0 p1 p2 p3 p4 p5 p6 p7 p8 p9 p10 p11 p12 p13
       go_wp2_with fail
       refine hCl.mono ?_
       rintro e w8 ⟨v8,rfl,ho8,hb8⟩
       obtain ⟨A8,c8,rfl⟩ := own_formB ho8
       rw [List.length_map] at ho8
       have HB8 := Lib.hid hb8
       have HO8 := Lib.hid ho8
       have HX8 := HX7.out.below hb8 HX7.out.lt
       have hIx := indexStr (.slice A6 S.length c6) (S.map SetT.name) a.c.s.name w8.heap.size w8 (by simpa [RowAt] using Flat.of_own (own_belowL HI7.out.names hb8))
       rw [idx_names] at hIx
       clear hb8 ho8 hCl
       have p0 := HX8.cell 0
       have p1 := HX8.cell 1
       have p2 := HX8.cell 2
       have p3 := HX8.cell 3
       have p4 := HX8.cell 4
       have p5 := HX8.cell 5
       have p6 := HX8.cell 6
       have p7 := HX8.cell 7
       have p8 := HX8.cell 8
       have p9 := HX8.cell 9
       have p10 := HX8.cell 10
       have p11 := HX8.cell 11
       have p12 := HX8.cell 12
       have p13 := HX8.cell 13
       simp only [List.getElem?_toArray,List.getElem?_cons_succ,List.getElem?_cons_zero] at p0 p1 p2 p3 p4 p5 p6 p7 p8 p9 p10 p11 p12 p13
       go_wp2_with fail
       refine hIx.mono ?_
       rintro e w8' ⟨rfl,rfl⟩
       clear hIx
       rcases HW.out with ⟨he,hst⟩ | ⟨he,⟨k,hi,hnm⟩ | ⟨hi,hnm⟩⟩
       ·clear HW HArm
        have be : (er == 0) = false := by simpa using he
        have bn : (er != 0) = true := by rw [bne,be];rfl
        have HNm : Hid (st'.sets.map SetT.name = S.map SetT.name) := by rw [hst];exact congrArg (List.map SetT.name) HSE.out
        generalize idxOf (idxS S a.c.s.name) = ix at *
        clear he hst
        have HI10 := Lib.hid (HI7.out.below HB8.out)
        have HX10 := Lib.hid HX8
        have HK10 := Lib.hid (own_belowL HK7.out HB8.out)
        have HW10 : Hid (RowAt Value.string w8 w8.heap.size (.slice A8 S.length c8) (st'.sets.map SetT.name)) := by unfold Hid;rw [HNm.out];simpa [RowAt] using Flat.of_own HO8.out
        clear HI7 HB8 HO8 HX8 HX7 HK7
        have hN := stNames w.heap.size D M' st' r' w8 HI10.out.store HI10.out.ok
        clear p0 p1 p2 p3 p4 p5 p6 p7 p8 p9 p10 p11 p12 p13
        go_wp2_with fail
        refine hN.mono ?_
        rintro e w12 ⟨hb12,v12,rfl,ho12⟩
        obtain ⟨A12,c12,rfl⟩ := own_formB ho12
        have hEq := equalStr (.slice A12 st'.sets.length c12) _ (st'.sets.map SetT.name) (st'.sets.map SetT.name) w12.heap.size w12 (by simpa [RowAt] using Flat.of_own ho12) ((HW10.out.below hb12 (Nat.le_refl _)).mono hb12.size)
        rw [decide_eq_true rfl] at hEq
        have HI12 := Lib.hid (HI10.out.below hb12)
        have HX12 := Lib.hid (HX10.out.below hb12 HX10.out.lt)
        have HK12 := Lib.hid (own_belowL HK10.out hb12)
        clear hb12 ho12 hN HI10 HX10 HK10 HW10
        go_wp2_with fail
        refine hEq.mono ?_
        rintro e w13 ⟨rfl,nq,rfl⟩
        have hbn := below_drewN (Below.refl w12.heap.size w12) nq
        have HI13 := Lib.hid (HI12.out.below hbn)
        have HX13 := Lib.hid (HX12.out.below hbn HX12.out.lt)
        have HK13 := Lib.hid (own_belowL HK12.out hbn)
        clear hEq hbn HI12 HX12 HK12
        go_wp2_with fail
        go_loopw [149] (fun x wq => ∃ i : Nat,i ≤ S.length ∧ x = .int .i64 i ∧ Und49 w wq D (.slice A6 S.length c6) (.slice As LS.length cs) M' st' r' S LS (12 + 1) ∧ wq.ownsRow w.heap.size 4 1 (.slice Ak S.length ck) S.length ((S.map fun y => decide (y ∈ st.known)).map Value.bool) ∧ Blk wq w.heap.size 71 #[.int .i64 a.kind,.string a.c.s.name,.int .i64 a.c.s.depth,.int .i64 a.c.s.low,.int .i64 a.c.s.high,.int .i64 a.c.s.len,.slice a.c.al a.c.s.lines.length a.c.cl,.int .i64 a.c.s.pipe,.int .i64 a.c.s.arbor,.int .i64 a.c.s.purch,.int .i64 a.c.s.most,.int .i64 a.c.s.brake,.slice a.c.ai a.c.s.items.length a.c.ci,.slice a.c.ab a.c.s.bricks.length a.c.cb]) (fun x _ => S.length - (intOf x).toNat)
        case atStart => exact ⟨0,Nat.zero_le _,rfl,HI13.out,HK13.out,HX13.out⟩
        case round =>
         clear HI13 HK13 HX13
         obtain ⟨i,hi,rfl,hI,hkr,hX⟩ := hrel
         have p0 := hX.cell 0
         have p1 := hX.cell 1
         have p2 := hX.cell 2
         have p3 := hX.cell 3
         have p4 := hX.cell 4
         have p5 := hX.cell 5
         have p6 := hX.cell 6
         have p7 := hX.cell 7
         have p8 := hX.cell 8
         have p9 := hX.cell 9
         have p10 := hX.cell 10
         have p11 := hX.cell 11
         have p12 := hX.cell 12
         have p13 := hX.cell 13
         simp only [List.getElem?_toArray,List.getElem?_cons_succ,List.getElem?_cons_zero] at p0 p1 p2 p3 p4 p5 p6 p7 p8 p9 p10 p11 p12 p13
         by_cases hlt : i < S.length
         ·obtain ⟨b,off,rfl,hcell⟩ := names_cell hI.names rfl hlt
          have hmem : S[i] ∈ st.sets := by rw [HSE.out];exact List.getElem_mem hlt
          obtain ⟨y,hy⟩ : ∃ y,S[i] = y := ⟨_,rfl⟩
          rw [hy] at hcell hmem
          obtain ⟨f1,f2⟩ := HO.out.others hI.ok hmem (fun h => absurd h.2 (by simpa using be))
          rcases Classical.em (y.name = a.c.s.name) with hne | hne
          case' inl => have hnm : (y.name.toList == a.c.s.name.toList) = true := by rw [str_beq];exact decide_eq_true hne
          case' inr => have hnm : (y.name.toList == a.c.s.name.toList) = false := by rw [str_beq];exact decide_eq_false hne
          all_goals
           clear hne
           have hG := (stGet w.heap.size D M' st' r' y.name _ hI.store hI.ok).mono fun _ _ hp => get_at hp f1
           have HI := Lib.hid hI
           have HK := Lib.hid hkr
           have HX := Lib.hid hX
           have HF2 := Lib.hid f2
           have HY := Lib.hid hy
           clear hI hkr hX f1 f2 hmem hy
           go_wp2_with fail
           refine hG.mono ?_
           rintro e w7 ⟨hb7,⟨s,al,cl,ai,ci,ab,cb⟩,rfl,hs,ho7⟩
           simp only at hs
           subst hs
           have ha := (Below.refl w7.heap.size w7).alloc (Nat.le_refl _) (.cells #[.string s.name,.int .i64 s.depth,.int .i64 s.low,.int .i64 s.high,.int .i64 s.len,.slice al s.lines.length cl,.int .i64 s.pipe,.int .i64 s.arbor,.int .i64 s.purch,.int .i64 s.most,.int .i64 s.brake,.slice ai s.items.length ci,.slice ab s.bricks.length cb] 26)
           have hb7a := hb7.trans (ha.mono hb7.size)
           have hI8 := HI.out.below hb7a
           have HI8 := Lib.hid hI8
           have HK8 := Lib.hid (own_belowL HK.out hb7a)
           have HX8 := Lib.hid (HX.out.below hb7a HX.out.lt)
           have HY8 := Lib.hid (Blk.new w7 26 #[.string s.name,.int .i64 s.depth,.int .i64 s.low,.int .i64 s.high,.int .i64 s.len,.slice al s.lines.length cl,.int .i64 s.pipe,.int .i64 s.arbor,.int .i64 s.purch,.int .i64 s.most,.int .i64 s.brake,.slice ai s.items.length ci,.slice ab s.bricks.length cb])
           have HO8 := Lib.hid ((own_mono3 ho7 HI.out.bel.size).chg (ChgS.of_below ha (Nat.zero_le _)))
           have hF := stFresh w.heap.size D M' st' r' s.name _ hI8.store hI8.ok (HT.out _ hI8.bel)
           rw [HF2.out] at hF
           clear ha hb7 hb7a ho7 hG HI hI8 HK HX p0 p1 p2 p3 p4 p5 p6 p7 p8 p9 p10 p11 p12 p13
           unfold SetC.val setVal at *
           go_wp2_with fail
           refine hF.mono ?_
           rintro e w10 ⟨rfl,hb9⟩
           have hI10 := HI8.out.below hb9
           have HI10 := Lib.hid hI10
           have HK10 := Lib.hid (own_belowL HK8.out hb9)
           have HX10 := Lib.hid (HX8.out.below hb9 HX8.out.lt)
           have HY10 := Lib.hid (HY8.out.below hb9 HY8.out.lt)
           have HO10 := Lib.hid (HO8.out.chg (ChgS.of_below hb9 (Nat.zero_le _)))
           clear hb9 hF HI8 HK8 HX8 HY8 HO8
           have hil : i < LS.length := by have := HL3.out;omega
           obtain ⟨_,_,e,hsv⟩ := hI10.saved.open_
           injection e with e1 _ e2
           subst e1 e2
           obtain ⟨b2,off2,rfl,hb2,hsc⟩ := hsv i hil
           have hcm := hI10.saved.sets _ (List.getElem_mem hil)
           have hcs : LS[i].s = s := by
            have h1 : (LS.map SetC.s)[i]? = S[i]? := by rw [HLs.out]
            rw [List.getElem?_map,List.getElem?_eq_getElem hil,List.getElem?_eq_getElem hlt,HY.out] at h1
            simpa using h1
           generalize LS[i] = z at *
           obtain ⟨s',al',cl',ai',ci',ab',cb'⟩ := z
           simp only at hcs
           subst hcs
           have HHE := Lib.hid fun W (hb : Below w10.heap.size w10 W) => refSame21 (setVal s' al cl ai ci ab cb) (setVal s' al' cl' ai' ci' ab' cb') s' s' W ((HO10.out.chg (ChgS.of_below hb (Nat.zero_le _))).set) ((hcm.chg (ChgS.of_below hb (Nat.zero_le _))).set)
           rw [decide_eq_true rfl] at HHE
           unfold setVal at HHE
           have hSm := fun x => HeldB.call HHE.out x
           obtain ⟨b3,rfl,hkc⟩ := bool_cell HK10.out (by simp) (by simpa using hlt)
           rw [show ((S.map fun y => decide (y ∈ st.known))[i]'(by simpa using hlt)) = decide (s' ∈ st.known) by rw [List.getElem_map,HY.out]] at hkc
           have hk0 := HeldB.cell hkc
           generalize decide (s' ∈ st.known) = bk at *
           have nb : (!(bk == bk)) = false := by cases bk <;> rfl
           have nb2 : (bk != bk) = false := by cases bk <;> rfl
           have x0 := hsc 0 _ rfl;rw [Nat.add_zero] at x0
           have x1 := hsc 1 _ rfl
           have x2 := hsc 2 _ rfl
           have x3 := hsc 3 _ rfl
           have x4 := hsc 4 _ rfl
           have x5 := hsc 5 _ rfl
           have x6 := hsc 6 _ rfl
           have x7 := hsc 7 _ rfl
           have x8 := hsc 8 _ rfl
           have x9 := hsc 9 _ rfl
           have x10 := hsc 10 _ rfl
           have x11 := hsc 11 _ rfl
           have x12 := hsc 12 _ rfl
           have z0 := HY10.out.cell 0
           have z1 := HY10.out.cell 1
           have z2 := HY10.out.cell 2
           have z3 := HY10.out.cell 3
           have z4 := HY10.out.cell 4
           have z5 := HY10.out.cell 5
           have z6 := HY10.out.cell 6
           have z7 := HY10.out.cell 7
           have z8 := HY10.out.cell 8
           have z9 := HY10.out.cell 9
           have z10 := HY10.out.cell 10
           have z11 := HY10.out.cell 11
           have z12 := HY10.out.cell 12
           simp only [List.getElem?_toArray,List.getElem?_cons_succ,List.getElem?_cons_zero] at z0 z1 z2 z3 z4 z5 z6 z7 z8 z9 z10 z11 z12
           have p0 := HeldB.cell x0
           have p1 := HeldB.cell x1
           have p2 := HeldB.cell x2
           have p3 := HeldB.cell x3
           have p4 := HeldB.cell x4
           have p5 := HeldB.cell x5
           have p6 := HeldB.cell x6
           have p7 := HeldB.cell x7
           have p8 := HeldB.cell x8
           have p9 := HeldB.cell x9
           have p10 := HeldB.cell x10
           have p11 := HeldB.cell x11
           have p12 := HeldB.cell x12
           have q0 := HeldB.cell z0
           have q1 := HeldB.cell z1
           have q2 := HeldB.cell z2
           have q3 := HeldB.cell z3
           have q4 := HeldB.cell z4
           have q5 := HeldB.cell z5
           have q6 := HeldB.cell z6
           have q7 := HeldB.cell z7
           have q8 := HeldB.cell z8
           have q9 := HeldB.cell z9
           have q10 := HeldB.cell z10
           have q11 := HeldB.cell z11
           have q12 := HeldB.cell z12
           clear hsc hcm hI10 HHE HY hkc x0 x1 x2 x3 x4 x5 x6 x7 x8 x9 x10 x11 x12 z0 z1 z2 z3 z4 z5 z6 z7 z8 z9 z10 z11 z12
           go_wp2_with fail
           refine wp_region_heldb (by kernel_rfl) (by kernel_rfl) ?_
           repeat (go_big_quiet_step ((go_at_call 29;exact hSm _)))
           refine wpQuiet_nil ?_
           rintro _ ⟨⟨w11,hb11⟩,rfl⟩
           have HI11 := Lib.hid (HI10.out.below hb11)
           have HK11 := Lib.hid (own_belowL HK10.out hb11)
           have HX11 := Lib.hid (HX10.out.below hb11 HX10.out.lt)
           clear hb11 p0 p1 p2 p3 p4 p5 p6 p7 p8 p9 p10 p11 p12 q0 q1 q2 q3 q4 q5 q6 q7 q8 q9 q10 q11 q12 hSm HI10 HX10 HO10 HK10 HY10 hk0 nb nb2
           go_wp2_with fail
           go_roundw
           case rel => exact ⟨i + 1,by omega,by go_num,HI11.out,HK11.out,HX11.out⟩
           case measure => simp [intOf];omega
         ·have hie : i = S.length := by omega
          subst hie
          have HI := Lib.hid hI
          have HX := Lib.hid hX
          have hG := stGet w.heap.size D M' st' r' a.c.s.name _ hI.store hI.ok
          clear hI hkr hX
          go_wp2_with fail
          refine hG.mono ?_
          rintro e w7 ⟨hb7,⟨s,al,cl,ai,ci,ab,cb⟩,rfl,hs,ho7⟩
          have ha := (Below.refl w7.heap.size w7).alloc (Nat.le_refl _) (.cells #[.string s.name,.int .i64 s.depth,.int .i64 s.low,.int .i64 s.high,.int .i64 s.len,.slice al s.lines.length cl,.int .i64 s.pipe,.int .i64 s.arbor,.int .i64 s.purch,.int .i64 s.most,.int .i64 s.brake,.slice ai s.items.length ci,.slice ab s.bricks.length cb] 26)
          have HB8 := Lib.hid (HI.out.below (hb7.trans (ha.mono hb7.size))).bel
          clear hb7 ha ho7 hG hs p0 p1 p2 p3 p4 p5 p6 p7 p8 p9 p10 p11 p12 p13
          generalize (getS st' a.c.s.name).2 = ge at *
          unfold SetC.val setVal at *
          go_wp2_with fail
          go_ret
          exact ⟨rfl,HB8.out⟩
       ·exact absurd he HArm.out
       ·exact absurd he HArm.out
set_option maxRecDepth 100000 in
set_option maxHeartbeats 16000000 in
theorem lawOthersB (v0 : Value) (F : List ActC) (a : ActC) (w : World) (hpb : (a.kind.tmod 2 == 0) = true) (HArm : Hid ((putV (actsTo F F.length) a.c.s).1 = 0 ∧ ∃ k,idxS (actsTo F F.length).sets a.c.s.name = some k)) (h0 : ActsAt w w.heap.size v0 F) (hs : SetAt w w.heap.size a.c.val a.c.s) (hn : SetNames a.c.s) (ht : Tab w) :
  Calls Tryz.prog 9 #[v0,a.val] w fun e w' => e = .returned (.bool true) ∧ Below w.heap.size w w' := by
 have HT := Lib.hid fun W (hb : Below w.heap.size w W) => ht.below hb
 have HLg0 := Lib.hid fun W (hb : Below w.heap.size w W) => large49 v0 F W ((h0.below hb (Nat.le_refl _)).mono hb.size)
 have HAc0 := Lib.hid fun t (hm : t ∈ F) W (hb : Below w.heap.size w W) => ((h0.2 t hm).1.below hb (Nat.le_refl _)).mono hb.size
 have HNm0 := Lib.hid fun t (hm : t ∈ F) => (h0.2 t hm).2
 have HXs := Lib.hid fun W (hb : Below w.heap.size w W) => (hs.below hb (Nat.le_refl _)).mono hb.size
 have HXn := Lib.hid hn
 have hba := (Below.refl _ w).alloc (Nat.le_refl _) (.cells #[.int .i64 a.kind,.string a.c.s.name,.int .i64 a.c.s.depth,.int .i64 a.c.s.low,.int .i64 a.c.s.high,.int .i64 a.c.s.len,.slice a.c.al a.c.s.lines.length a.c.cl,.int .i64 a.c.s.pipe,.int .i64 a.c.s.arbor,.int .i64 a.c.s.purch,.int .i64 a.c.s.most,.int .i64 a.c.s.brake,.slice a.c.ai a.c.s.items.length a.c.ci,.slice a.c.ab a.c.s.bricks.length a.c.cb] 71)
 have hAw := lawAwake49 (w.alloc (.cells #[.int .i64 a.kind,.string a.c.s.name,.int .i64 a.c.s.depth,.int .i64 a.c.s.low,.int .i64 a.c.s.high,.int .i64 a.c.s.len,.slice a.c.al a.c.s.lines.length a.c.cl,.int .i64 a.c.s.pipe,.int .i64 a.c.s.arbor,.int .i64 a.c.s.purch,.int .i64 a.c.s.most,.int .i64 a.c.s.brake,.slice a.c.ai a.c.s.items.length a.c.ci,.slice a.c.ab a.c.s.bricks.length a.c.cb] 71)) (HT.out _ hba)
 have HBa := Lib.hid hba
 have HXa := Lib.hid (Blk.new w 71 #[.int .i64 a.kind,.string a.c.s.name,.int .i64 a.c.s.depth,.int .i64 a.c.s.low,.int .i64 a.c.s.high,.int .i64 a.c.s.len,.slice a.c.al a.c.s.lines.length a.c.cl,.int .i64 a.c.s.pipe,.int .i64 a.c.s.arbor,.int .i64 a.c.s.purch,.int .i64 a.c.s.most,.int .i64 a.c.s.brake,.slice a.c.ai a.c.s.items.length a.c.ci,.slice a.c.ab a.c.s.bricks.length a.c.cb])
 obtain ⟨A0,c0,rfl,hc01,hc02,hcell0⟩ := h0.open_
 unfold maxLen at hc02
 have HC0 := Lib.hid hcell0
 clear hcell0 h0 ht hs hn hba
 unfold ActC.val ActC.cells SetC.cells
 go_enter Tryz.func9,Tryz.ntmps9
 go_wp2_with fail
 generalize (w.alloc (.cells #[.int .i64 a.kind,.string a.c.s.name,.int .i64 a.c.s.depth,.int .i64 a.c.s.low,.int .i64 a.c.s.high,.int .i64 a.c.s.len,.slice a.c.al a.c.s.lines.length a.c.cl,.int .i64 a.c.s.pipe,.int .i64 a.c.s.arbor,.int .i64 a.c.s.purch,.int .i64 a.c.s.most,.int .i64 a.c.s.brake,.slice a.c.ai a.c.s.items.length a.c.ci,.slice a.c.ab a.c.s.bricks.length a.c.cb] 71)) = w0 at *
 refine hAw.mono ?_
 rintro e w1 ⟨rfl,hb1⟩
 have HB1 := Lib.hid (HBa.out.trans (hb1.mono HBa.out.size))
 have HX1 := Lib.hid (HXa.out.below hb1 HXa.out.lt)
 have hLg := HLg0.out w1 HB1.out
 clear HLg0 hAw hb1 HBa HXa
 go_wp2_with fail
 refine hLg.mono ?_
 rintro e w2 ⟨q,rfl,hb2,h12⟩
 have HB2 := Lib.hid (HB1.out.trans (hb2.mono HB1.out.size))
 have HX2 := Lib.hid (HX1.out.below hb2 HX1.out.lt)
 have H12 := Lib.hid h12
 clear hb2 h12 hLg HB1 HX1
 cases q with
 | true =>
  go_wp2_with fail
  go_ret
  exact ⟨rfl,HB2.out⟩
 | false =>
  have HF12 := Lib.hid (H12.out rfl)
  have ha := (Below.refl w2.heap.size w2).alloc (Nat.le_refl _) (.cells #[.int .i64 a.kind,.string a.c.s.name,.int .i64 a.c.s.depth,.int .i64 a.c.s.low,.int .i64 a.c.s.high,.int .i64 a.c.s.len,.slice a.c.al a.c.s.lines.length a.c.cl,.int .i64 a.c.s.pipe,.int .i64 a.c.s.arbor,.int .i64 a.c.s.purch,.int .i64 a.c.s.most,.int .i64 a.c.s.brake,.slice a.c.ai a.c.s.items.length a.c.ci,.slice a.c.ab a.c.s.bricks.length a.c.cb] 71)
  have HB3 := Lib.hid (HB2.out.trans (ha.mono HB2.out.size))
  have HX3 := Lib.hid (HX2.out.below ha HX2.out.lt)
  have hLg := large49 (.slice (some ⟨w2.heap.size,0,none⟩) 1 1) [a] (w2.alloc (.cells #[.int .i64 a.kind,.string a.c.s.name,.int .i64 a.c.s.depth,.int .i64 a.c.s.low,.int .i64 a.c.s.high,.int .i64 a.c.s.len,.slice a.c.al a.c.s.lines.length a.c.cl,.int .i64 a.c.s.pipe,.int .i64 a.c.s.arbor,.int .i64 a.c.s.purch,.int .i64 a.c.s.most,.int .i64 a.c.s.brake,.slice a.c.ai a.c.s.items.length a.c.ci,.slice a.c.ab a.c.s.bricks.length a.c.cb] 71)) (acts_one w2 a (HXs.out _ HB3.out) HXn.out)
  clear H12 ha
  have p0 := HX2.out.cell 0
  have p1 := HX2.out.cell 1
  have p2 := HX2.out.cell 2
  have p3 := HX2.out.cell 3
  have p4 := HX2.out.cell 4
  have p5 := HX2.out.cell 5
  have p6 := HX2.out.cell 6
  have p7 := HX2.out.cell 7
  have p8 := HX2.out.cell 8
  have p9 := HX2.out.cell 9
  have p10 := HX2.out.cell 10
  have p11 := HX2.out.cell 11
  have p12 := HX2.out.cell 12
  have p13 := HX2.out.cell 13
  simp only [List.getElem?_toArray,List.getElem?_cons_succ,List.getElem?_cons_zero] at p0 p1 p2 p3 p4 p5 p6 p7 p8 p9 p10 p11 p12 p13
  go_wp2_with fail
  refine hLg.mono ?_
  rintro e w4 ⟨q,rfl,hb4,-⟩
  have HB4 := Lib.hid (HB3.out.trans (hb4.mono HB3.out.size))
  have HX4 := Lib.hid (HX3.out.below hb4 HX3.out.lt)
  clear hb4 hLg HB3 HX3 HB2 HX2 p0 p1 p2 p3 p4 p5 p6 p7 p8 p9 p10 p11 p12 p13
  cases q with
  | true =>
   go_wp2_with fail
   go_ret
   exact ⟨rfl,HB4.out⟩
  | false =>
   go_wp2_with fail
   refine (stNew w.heap.size w4 HB4.out.size).mono ?_
   rintro e w3 ⟨D,rfl,hb3,hS3⟩
   have HB3 := Lib.hid (HB4.out.trans (hb3.mono HB4.out.size))
   have HX3 := Lib.hid (HX4.out.below hb3 HX4.out.lt)
   have HS3 := Lib.hid hS3
   clear hb3 hS3 HB4 HX4
   go_wp2_with fail
   go_loopw [43] (fun x wr => ∃ (j : Nat) (M : Nat → Prop) (r : StR),j ≤ F.length ∧ x = .int .i64 j ∧ Below w.heap.size w wr ∧ StoreAt wr w.heap.size D M (actsTo F j) r ∧ Blk wr w.heap.size 71 #[.int .i64 a.kind,.string a.c.s.name,.int .i64 a.c.s.depth,.int .i64 a.c.s.low,.int .i64 a.c.s.high,.int .i64 a.c.s.len,.slice a.c.al a.c.s.lines.length a.c.cl,.int .i64 a.c.s.pipe,.int .i64 a.c.s.arbor,.int .i64 a.c.s.purch,.int .i64 a.c.s.most,.int .i64 a.c.s.brake,.slice a.c.ai a.c.s.items.length a.c.ci,.slice a.c.ab a.c.s.bricks.length a.c.cb]) (fun x _ => F.length - (intOf x).toNat)
   case atStart => exact ⟨0,_,_,Nat.zero_le _,rfl,HB3.out,HS3.out,HX3.out⟩
   case round =>
    obtain ⟨j,M,r,hj,rfl,hbel,hS,hX⟩ := hrel
    have HBl := Lib.hid hbel
    have HX := Lib.hid hX
    clear hbel hX
    by_cases hlt : j < F.length
    ·obtain ⟨b,off,rfl,hb,hcell⟩ := HC0.out j hlt
     have h0 := (HBl.out.cell (p := ⟨b,off + j * 14,none⟩) hb).trans (hcell j hlt 0 _ rfl)
     have h1 := (HBl.out.cell (p := ⟨b,off + j * 14 + 1,none⟩) hb).trans (hcell j hlt 1 _ rfl)
     have h2 := (HBl.out.cell (p := ⟨b,off + j * 14 + 2,none⟩) hb).trans (hcell j hlt 2 _ rfl)
     have h3 := (HBl.out.cell (p := ⟨b,off + j * 14 + 3,none⟩) hb).trans (hcell j hlt 3 _ rfl)
     have h4 := (HBl.out.cell (p := ⟨b,off + j * 14 + 4,none⟩) hb).trans (hcell j hlt 4 _ rfl)
     have h5 := (HBl.out.cell (p := ⟨b,off + j * 14 + 5,none⟩) hb).trans (hcell j hlt 5 _ rfl)
     have h6 := (HBl.out.cell (p := ⟨b,off + j * 14 + 6,none⟩) hb).trans (hcell j hlt 6 _ rfl)
     have h7 := (HBl.out.cell (p := ⟨b,off + j * 14 + 7,none⟩) hb).trans (hcell j hlt 7 _ rfl)
     have h8 := (HBl.out.cell (p := ⟨b,off + j * 14 + 8,none⟩) hb).trans (hcell j hlt 8 _ rfl)
     have h9 := (HBl.out.cell (p := ⟨b,off + j * 14 + 9,none⟩) hb).trans (hcell j hlt 9 _ rfl)
     have h10 := (HBl.out.cell (p := ⟨b,off + j * 14 + 10,none⟩) hb).trans (hcell j hlt 10 _ rfl)
     have h11 := (HBl.out.cell (p := ⟨b,off + j * 14 + 11,none⟩) hb).trans (hcell j hlt 11 _ rfl)
     have h12 := (HBl.out.cell (p := ⟨b,off + j * 14 + 12,none⟩) hb).trans (hcell j hlt 12 _ rfl)
     have h13 := (HBl.out.cell (p := ⟨b,off + j * 14 + 13,none⟩) hb).trans (hcell j hlt 13 _ rfl)
     clear hcell
     have hbel := HBl.out
     have ha := fun o => (Below.refl wr.heap.size wr).alloc (Nat.le_refl _) o
     have hm := List.getElem_mem hlt
     obtain ⟨g1,g2,-⟩ := actsTo_ok F j hj
     have hsm := g2.mono (Nat.le_trans hj (Nat.le_trans HF12.out (by decide : 12 ≤ 1000)))
     have HE := Lib.hid (actsTo_succ hlt)
     have HP := Lib.hid fun o => plain49 w.heap.size D M (actsTo F j) r F[j] (wr.alloc o) (hS.below (ha o)) g1 (HT.out _ (hbel.trans ((ha o).mono hbel.size))) (HAc0.out _ hm _ (hbel.trans ((ha o).mono hbel.size))) (HNm0.out _ hm) hsm
     have HBe := Lib.hid fun o => hbel.trans ((ha o).mono hbel.size)
     have HXe := Lib.hid fun o => HX.out.below (ha o) HX.out.lt
     clear ha hm g1 g2 hsm hS hbel
     generalize F[j] = t at *
     have hP := HP.out (.cells #[.int .i64 t.kind,.string t.c.s.name,.int .i64 t.c.s.depth,.int .i64 t.c.s.low,.int .i64 t.c.s.high,.int .i64 t.c.s.len,.slice t.c.al t.c.s.lines.length t.c.cl,.int .i64 t.c.s.pipe,.int .i64 t.c.s.arbor,.int .i64 t.c.s.purch,.int .i64 t.c.s.most,.int .i64 t.c.s.brake,.slice t.c.ai t.c.s.items.length t.c.ci,.slice t.c.ab t.c.s.bricks.length t.c.cb] 71)
     clear HP
     go_wp2_with fail
     refine hP.mono ?_
     rintro e w5 ⟨rfl,hc5,M5,r5,hS5,-⟩
     rw [← HE.out] at hS5
     have HS5 := Lib.hid hS5
     have HB5 := Lib.hid ((HBe.out _).trans hc5.bel)
     have HX5 := Lib.hid ((HXe.out _).chg hc5 (by decide) (by decide))
     clear hS5 hc5 hP HBe HE HXe h0 h1 h2 h3 h4 h5 h6 h7 h8 h9 h10 h11 h12 h13
     go_wp2_with fail
     go_roundw
     case rel => exact ⟨j + 1,M5,r5,by omega,by go_num,HB5.out,HS5.out,HX5.out⟩
     case measure => simp [intOf];omega
    ·have hje : j = F.length := by omega
     subst hje
     obtain ⟨g1,g2,g3⟩ := actsTo_ok F F.length (Nat.le_refl _)
     have hbel := HBl.out
     have hn := (stNames w.heap.size D M (actsTo F F.length) r wr hS g1)
     have HS := Lib.hid hS
     have HB := Lib.hid hbel
     have HG1 := Lib.hid g1
     have HG2 := Lib.hid (g2.mono HF12.out)
     have HN12 := Lib.hid (Nat.le_trans g3.sets HF12.out)
     have hgt : decide (F.length < (actsTo F F.length).sets.length) = false := decide_eq_false (by have := g3.sets;omega)
     clear g1 g2 g3 hS hbel HC0 HS3 HB3 HX3 HAc0 HNm0 HBl
     generalize actsTo F F.length = st at *
     go_wp2_with fail
     refine hn.mono ?_
     rintro e w6 ⟨hb6,v6,rfl,ho6⟩
     obtain ⟨A6,c6,rfl⟩ := own_formB ho6
     obtain ⟨_,_,e6,hq1,hq2,-⟩ := Flat.of_own ho6
     injection e6 with e61 _ e62
     subst e61 e62
     unfold maxLen at hq2
     have HI6 : Hid (Und49 w w6 D (.slice A6 st.sets.length c6) (.slice none 0 0) M st r st.sets [] 12) := ⟨HB.out.trans (hb6.mono HB.out.size),HS.out.below hb6,HG1.out,HG2.out,own_mono ho6 HB.out.size,SavedAt.nil⟩
     have HX6 := Lib.hid (HX.out.below hb6 HX.out.lt)
     clear ho6 hb6 hn HS HB HG1 HG2 HX
     have hSl := HN12.out
     clear HN12
     obtain ⟨S,hSe⟩ : ∃ S,st.sets = S := ⟨_,rfl⟩
     rw [hSe] at HI6 hgt hSl hq1
     rw [hSe]
     have HSE := Lib.hid hSe
     clear hSe
     go_wp2_with fail
     go_loopw [60,9,10] (fun x sv kv wq => ∃ (j : Nat) (LS : List SetC),j ≤ S.length ∧ x = .int .i64 j ∧ Und49 w wq D (.slice A6 S.length c6) sv M st r S LS 12 ∧ LS.map SetC.s = S.take j ∧ KnownRow wq w.heap.size M kv j ((S.take j).map fun y => decide (y ∈ st.known)) ∧ Blk wq w.heap.size 71 #[.int .i64 a.kind,.string a.c.s.name,.int .i64 a.c.s.depth,.int .i64 a.c.s.low,.int .i64 a.c.s.high,.int .i64 a.c.s.len,.slice a.c.al a.c.s.lines.length a.c.cl,.int .i64 a.c.s.pipe,.int .i64 a.c.s.arbor,.int .i64 a.c.s.purch,.int .i64 a.c.s.most,.int .i64 a.c.s.brake,.slice a.c.ai a.c.s.items.length a.c.ci,.slice a.c.ab a.c.s.bricks.length a.c.cb]) (fun x _ _ _ => S.length - (intOf x).toNat)
     case atStart => exact ⟨0,_,Nat.zero_le _,rfl,HI6.out,rfl,KnownRow.nil,HX6.out⟩
     case round =>
      clear HI6 HX6
      obtain ⟨j,LS,hj,rfl,hI,hls,hkr,hX⟩ := hrel
      have hlsl : LS.length = j := by have := congrArg List.length hls;simpa [Nat.min_eq_left hj] using this
      obtain ⟨As,cs,rfl,-⟩ := hI.saved.open_
      obtain ⟨Ak,ck,rfl⟩ := own_formB hkr.own
      by_cases hlt : j < S.length
      ·have hlt' : j < st.sets.length := by rw [HSE.out];exact hlt
       obtain ⟨b,off,rfl,hcell⟩ := names_cell hI.names rfl hlt
       obtain ⟨x,hx,hxe,f1,f2⟩ := oth_round hI.ok hlt'
       have hxe' : S[j] = x := by rw [← hxe];congr 1;exact HSE.out.symm
       have HTk : Hid (S.take (j + 1) = S.take j ++ [x]) := by rw [← hxe'];exact take_snoc S j hlt
       rw [hxe'] at hcell
       have hG := (stGet w.heap.size D M st r x.name _ hI.store hI.ok).mono fun _ _ hp => get_at hp f1
       have HI := Lib.hid hI
       have HF2 := Lib.hid f2
       have HLs := Lib.hid hls
       have HLl := Lib.hid hlsl
       have HKr := Lib.hid hkr
       have HX := Lib.hid hX
       clear hI f1 f2 hls hxe hxe' hx hlsl hkr hX
       go_wp2_with fail
       refine hG.mono ?_
       rintro e w7 ⟨hb7,⟨s,al,cl,ai,ci,ab,cb⟩,rfl,hs,ho7⟩
       simp only at hs
       subst hs
       have ha := (Below.refl w7.heap.size w7).alloc (Nat.le_refl _) (.cells #[.string s.name,.int .i64 s.depth,.int .i64 s.low,.int .i64 s.high,.int .i64 s.len,.slice al s.lines.length cl,.int .i64 s.pipe,.int .i64 s.arbor,.int .i64 s.purch,.int .i64 s.most,.int .i64 s.brake,.slice ai s.items.length ci,.slice ab s.bricks.length cb] 26)
       have hb7a := hb7.trans (ha.mono hb7.size)
       have hI8 := HI.out.below hb7a
       have HI8 := Lib.hid hI8
       have HK8 := Lib.hid (HKr.out.below hb7a)
       have HX8 := Lib.hid (HX.out.below hb7a HX.out.lt)
       have HY8 := Lib.hid (Blk.new w7 26 #[.string s.name,.int .i64 s.depth,.int .i64 s.low,.int .i64 s.high,.int .i64 s.len,.slice al s.lines.length cl,.int .i64 s.pipe,.int .i64 s.arbor,.int .i64 s.purch,.int .i64 s.most,.int .i64 s.brake,.slice ai s.items.length ci,.slice ab s.bricks.length cb])
       have HO8 := Lib.hid ((own_mono3 ho7 HI.out.bel.size).chg (ChgS.of_below ha (Nat.zero_le _)))
       have hF := stFresh w.heap.size D M st r s.name _ hI8.store hI8.ok (HT.out _ hI8.bel)
       rw [HF2.out] at hF
       clear ha hb7 hb7a ho7 hG HI hI8 HKr HX
       unfold SetC.val setVal at *
       go_wp2_with fail
       refine hF.mono ?_
       rintro e w9 ⟨rfl,hb9⟩
       have HI9 := Lib.hid (HI8.out.below hb9)
       have HK9 := Lib.hid (HK8.out.below hb9)
       have HX9 := Lib.hid (HX8.out.below hb9 HX8.out.lt)
       have HY9 := Lib.hid (HY8.out.below hb9 HY8.out.lt)
       have HO9 := Lib.hid (HO8.out.chg (ChgS.of_below hb9 (Nat.zero_le _)))
       clear hb9 hF HI8 HK8 HX8 HY8 HO8
       have p0 := HY9.out.cell 0
       have p1 := HY9.out.cell 1
       have p2 := HY9.out.cell 2
       have p3 := HY9.out.cell 3
       have p4 := HY9.out.cell 4
       have p5 := HY9.out.cell 5
       have p6 := HY9.out.cell 6
       have p7 := HY9.out.cell 7
       have p8 := HY9.out.cell 8
       have p9 := HY9.out.cell 9
       have p10 := HY9.out.cell 10
       have p11 := HY9.out.cell 11
       have p12 := HY9.out.cell 12
       simp only [List.getElem?_toArray,List.getElem?_cons_succ,List.getElem?_cons_zero] at p0 p1 p2 p3 p4 p5 p6 p7 p8 p9 p10 p11 p12
       have ha := (Below.refl w9.heap.size w9).alloc (Nat.le_refl _) (.cells #[.string s.name,.int .i64 s.depth,.int .i64 s.low,.int .i64 s.high,.int .i64 s.len,.slice al s.lines.length cl,.int .i64 s.pipe,.int .i64 s.arbor,.int .i64 s.purch,.int .i64 s.most,.int .i64 s.brake,.slice ai s.items.length ci,.slice ab s.bricks.length cb] 26)
       have HIa := Lib.hid (HI9.out.below ha)
       have HKa := Lib.hid (HK9.out.below ha)
       have HXa := Lib.hid (HX9.out.below ha HX9.out.lt)
       have HOa := Lib.hid (HO9.out.chg (ChgS.of_below ha (Nat.zero_le _)))
       have Hnew := Lib.hid (World.news_of_block (Blk.new w9 26 #[.string s.name,.int .i64 s.depth,.int .i64 s.low,.int .i64 s.high,.int .i64 s.len,.slice al s.lines.length cl,.int .i64 s.pipe,.int .i64 s.arbor,.int .i64 s.purch,.int .i64 s.most,.int .i64 s.brake,.slice ai s.items.length ci,.slice ab s.bricks.length cb]))
       have hsz := HIa.out.bel.size
       have HOw := Lib.hid HIa.out.saved.own
       have hls12 : LS.length ≤ 12 := by have := HLl.out;omega
       have hj12 : j ≤ 12 := by omega
       generalize hbk : decide (s ∈ st.known) = bk at *
       have HBk := Lib.hid hbk
       obtain ⟨iF,hiF,hzF0,hzF1,hzF2⟩ := info_parts info_setc
       clear ha HI9 HX9 HO9 HK9 HY9 hbk
       go_wp2_with (first
        | (at_builtin;refine wpList_append_lies _ rfl (.tmp 82) (.tmp 84) 66 rfl w.heap.size 26 iF (.agg #[.string ⟨#[]⟩,.int .i64 0,.int .i64 0,.int .i64 0,.int .i64 0,.slice none 0 0,.int .i64 0,.int .i64 0,.int .i64 0,.int .i64 0,.int .i64 0,.slice none 0 0,.slice none 0 0]) 13 160 Tryz.underlying66 hiF hzF0 hzF1 hzF2 rfl (by decide) _ _ _ rfl HOw.out ⟨w9.heap.size,0,none⟩ 1 1 [.string s.name,.int .i64 s.depth,.int .i64 s.low,.int .i64 s.high,.int .i64 s.len,.slice al s.lines.length cl,.int .i64 s.pipe,.int .i64 s.arbor,.int .i64 s.purch,.int .i64 s.most,.int .i64 s.brake,.slice ai s.items.length ci,.slice ab s.bricks.length cb] rfl rfl Hnew.out (by simp [Value.oneCell']) (by decide) (by unfold maxLen;omega) (by omega) hsz _ rfl ?_;intro g' cap' w10 hown' hgrow hgg hgl;have HP10 : Hid (SavedAt w10 w.heap.size M (.slice (some ⟨g',0,none⟩) (LS.length + 1) cap') (LS ++ [(⟨s,al,cl,ai,ci,ab,cb⟩ : SetC)])) := HIa.out.saved.push HOa.out rfl HIa.out.store.lt (Nat.le_refl _) hown' hgrow hgg;have HI10 : Hid (Und49 w w10 D (.slice (some ⟨b,off,none⟩) S.length c6) (.slice (some ⟨g',0,none⟩) (LS.length + 1) cap') M st r S (LS ++ [(⟨s,al,cl,ai,ci,ab,cb⟩ : SetC)]) 12) := ⟨HIa.out.bel.grown hgrow hsz (fun k e => (HOw.out.lt k e).1),store_rowE HIa.out.store HOw.out (by decide) (by decide) HIa.out.saved.out hgrow,HIa.out.ok,HIa.out.small,row_row HOw.out hgrow HIa.out.names (by decide),HP10.out⟩;have HK10 : Hid (KnownRow w10 w.heap.size M (.slice Ak j ck) j ((S.take j).map fun y => decide (y ∈ st.known))) := HKa.out.row HOw.out hgrow (by decide);have HX10 := Lib.hid (blk_row HOw.out hgrow HXa.out (by decide));have hsz10 := HI10.out.bel.size;clear hown' hgrow hgg hgl)
        | (at_builtin;refine wpList_push _ rfl (.tmp 86) (.tmp 88) 85 rfl w.heap.size 4 info_boolK Tryz.underlying85 rfl _ j _ rfl HK10.out.own (.bool bk) rfl rfl (by unfold maxLen;omega) (by omega) hsz10 ?_;intro g3 cap3 w11 hown3 hgrow3 hbg hgg3;have HK11 := Lib.hid (HK10.out.push HI10.out.store.lt hown3 hgrow3 hgg3);have HI11 : Hid (Und49 w w11 D (.slice (some ⟨b,off,none⟩) S.length c6) (.slice (some ⟨g',0,none⟩) (LS.length + 1) cap') M st r S (LS ++ [(⟨s,al,cl,ai,ci,ab,cb⟩ : SetC)]) 12) := ⟨HI10.out.bel.grown hgrow3 hsz10 (fun k e => (HK10.out.own.lt k e).1),store_rowE HI10.out.store HK10.out.own (by decide) (by decide) HK10.out.out hgrow3,HI10.out.ok,HI10.out.small,row_row HK10.out.own hgrow3 HI10.out.names (by decide),HI10.out.saved.row HK10.out.own hgrow3 (by decide) (by decide) (by decide) (by decide)⟩;have HX11 := Lib.hid (blk_row HK10.out.own hgrow3 HX10.out (by decide));clear hown3 hgrow3 hbg hgg3))
       have HLs2 : Hid ((LS ++ [(⟨s,al,cl,ai,ci,ab,cb⟩ : SetC)]).map SetC.s = S.take (j + 1)) := by rw [List.map_append,HLs.out,HTk.out];rfl
       have HK12 : Hid (KnownRow w11 w.heap.size M (.slice (some ⟨g3,0,none⟩) (j + 1) cap3) (j + 1) ((S.take (j + 1)).map fun y => decide (y ∈ st.known))) := by rw [HTk.out,List.map_append,List.map_cons,List.map_nil,HBk.out];exact HK11.out
       clear HP10 HI10 HK10 HX10 HIa HOa Hnew HOw hsz hsz10 HKa HXa HK11 p0 p1 p2 p3 p4 p5 p6 p7 p8 p9 p10 p11 p12
       go_wp2_with fail
       go_roundw
       case rel => exact ⟨j + 1,_,by omega,by go_num,HI11.out,HLs2.out,HK12.out,HX11.out⟩
       case measure => simp [intOf];omega
      ·have hje : j = S.length := by omega
       subst hje
       have HLs : Hid (LS.map SetC.s = S) := by rw [List.take_length] at hls;exact hls
       have HK : Hid (KnownRow wr w.heap.size M (.slice Ak S.length ck) S.length (S.map fun y => decide (y ∈ st.known))) := by rw [List.take_length] at hkr;exact hkr
       have HI := Lib.hid hI
       have HX := Lib.hid hX
       have HL3 := Lib.hid hlsl
       clear hI hls hkr hX hlsl
       have p0 := HX.out.cell 0
       have p1 := HX.out.cell 1
       have p2 := HX.out.cell 2
       have p3 := HX.out.cell 3
       have p4 := HX.out.cell 4
       have p5 := HX.out.cell 5
       have p6 := HX.out.cell 6
       have p7 := HX.out.cell 7
       have p8 := HX.out.cell 8
       have p9 := HX.out.cell 9
       have p10 := HX.out.cell 10
       have p11 := HX.out.cell 11
       have p12 := HX.out.cell 12
       have p13 := HX.out.cell 13
       simp only [List.getElem?_toArray,List.getElem?_cons_succ,List.getElem?_cons_zero] at p0 p1 p2 p3 p4 p5 p6 p7 p8 p9 p10 p11 p12 p13
       go_upto_region 29 with fail
       clear p0 p1 p2 p3 p4 p5 p6 p7 p8 p9 p10 p11 p12 p13
       have p0 := HX.out.cell 0
       have p1 := HX.out.cell 1
       have p2 := HX.out.cell 2
       have p3 := HX.out.cell 3
       have p4 := HX.out.cell 4
       have p5 := HX.out.cell 5
       have p6 := HX.out.cell 6
       have p7 := HX.out.cell 7
       have p8 := HX.out.cell 8
       have p9 := HX.out.cell 9
       have p10 := HX.out.cell 10
       have p11 := HX.out.cell 11
       have p12 := HX.out.cell 12
       have p13 := HX.out.cell 13
       simp only [List.getElem?_toArray,List.getElem?_cons_succ,List.getElem?_cons_zero] at p0 p1 p2 p3 p4 p5 p6 p7 p8 p9 p10 p11 p12 p13
       have hE := (stPut w.heap.size D M st r a.c.val a.c.s _ HI.out.store HI.out.ok (HXs.out _ HI.out.bel) HXn.out (Nat.le_trans HI.out.small.past (by decide))).mono fun _ _ hp => act_put hp
       obtain ⟨hO,hW⟩ := oth_put st a.c.s
       have HOk := Lib.hid (HI.out.ok.putV a.c.s)
       have HSm := Lib.hid (by have := HI.out.small.act 0 a.c.s;rwa [act0 rfl] at this : StSmall (putV st a.c.s).2 (12 + 1))
       generalize putV st a.c.s = o at *
       obtain ⟨er,st'⟩ := o
       simp only at hE hO hW HOk HSm
       have HO := Lib.hid hO
       have HW := Lib.hid hW
       clear hO hW
       go_wp2_with fail
       refine hE.mono ?_
       rintro e w7 ⟨rfl,hact⟩
       have HK7 := Lib.hid (own_chg HK.out.own hact.1 (by decide) (by decide))
       have HX7 := Lib.hid (HX.out.chg hact.1 (by decide) (by decide))
       obtain ⟨M',r',hI7⟩ := HI.out.act hact (n' := 12 + 1) HOk.out HSm.out
       have HI7 := Lib.hid hI7
       have hCl := cloneStr (.slice A6 S.length c6) (S.map SetT.name) w7 (by simpa [RowAt] using Flat.of_own hI7.names) (by simp;omega)
       clear hact hI7 hE HI HX HK HOk HSm p0 p1 p2 p3 p4 p5 p6 p7 p8 p9 p10 p11 p12 p13
       go_wp2_with fail
       refine hCl.mono ?_
       rintro e w8 ⟨v8,rfl,ho8,hb8⟩
       obtain ⟨A8,c8,rfl⟩ := own_formB ho8
       rw [List.length_map] at ho8
       have HB8 := Lib.hid hb8
       have HO8 := Lib.hid ho8
       have HX8 := HX7.out.below hb8 HX7.out.lt
       have hIx := indexStr (.slice A6 S.length c6) (S.map SetT.name) a.c.s.name w8.heap.size w8 (by simpa [RowAt] using Flat.of_own (own_belowL HI7.out.names hb8))
       rw [idx_names] at hIx
       clear hb8 ho8 hCl
       have p0 := HX8.cell 0
       have p1 := HX8.cell 1
       have p2 := HX8.cell 2
       have p3 := HX8.cell 3
       have p4 := HX8.cell 4
       have p5 := HX8.cell 5
       have p6 := HX8.cell 6
       have p7 := HX8.cell 7
       have p8 := HX8.cell 8
       have p9 := HX8.cell 9
       have p10 := HX8.cell 10
       have p11 := HX8.cell 11
       have p12 := HX8.cell 12
       have p13 := HX8.cell 13
       simp only [List.getElem?_toArray,List.getElem?_cons_succ,List.getElem?_cons_zero] at p0 p1 p2 p3 p4 p5 p6 p7 p8 p9 p10 p11 p12 p13
       go_wp2_with fail
       refine hIx.mono ?_
       rintro e w8' ⟨rfl,rfl⟩
       clear hIx
       rcases HW.out with ⟨he,hst⟩ | ⟨he,⟨k,hi,hnm⟩ | ⟨hi,hnm⟩⟩
       ·exact absurd HArm.out.1 he
       ·clear HW HArm
        have be : (er == 0) = true := by rw [he];rfl
        have bn : (er != 0) = false := by rw [bne,be];rfl
        rw [HSE.out] at hnm hi
        rw [hi]
        have HNm := Lib.hid hnm
        rw [show idxOf (some k) = (k : Int) from rfl]
        clear he hnm hi
        have HI10 := Lib.hid (HI7.out.below HB8.out)
        have HX10 := Lib.hid HX8
        have HK10 := Lib.hid (own_belowL HK7.out HB8.out)
        have HW10 : Hid (RowAt Value.string w8 w8.heap.size (.slice A8 S.length c8) (st'.sets.map SetT.name)) := by unfold Hid;rw [HNm.out];simpa [RowAt] using Flat.of_own HO8.out
        clear HI7 HB8 HO8 HX8 HX7 HK7
        have hN := stNames w.heap.size D M' st' r' w8 HI10.out.store HI10.out.ok
        clear p0 p1 p2 p3 p4 p5 p6 p7 p8 p9 p10 p11 p12 p13
        go_wp2_with fail
        refine hN.mono ?_
        rintro e w12 ⟨hb12,v12,rfl,ho12⟩
        obtain ⟨A12,c12,rfl⟩ := own_formB ho12
        have hEq := equalStr (.slice A12 st'.sets.length c12) _ (st'.sets.map SetT.name) (st'.sets.map SetT.name) w12.heap.size w12 (by simpa [RowAt] using Flat.of_own ho12) ((HW10.out.below hb12 (Nat.le_refl _)).mono hb12.size)
        rw [decide_eq_true rfl] at hEq
        have HI12 := Lib.hid (HI10.out.below hb12)
        have HX12 := Lib.hid (HX10.out.below hb12 HX10.out.lt)
        have HK12 := Lib.hid (own_belowL HK10.out hb12)
        clear hb12 ho12 hN HI10 HX10 HK10 HW10
        go_wp2_with fail
        refine hEq.mono ?_
        rintro e w13 ⟨rfl,nq,rfl⟩
        have hbn := below_drewN (Below.refl w12.heap.size w12) nq
        have HI13 := Lib.hid (HI12.out.below hbn)
        have HX13 := Lib.hid (HX12.out.below hbn HX12.out.lt)
        have HK13 := Lib.hid (own_belowL HK12.out hbn)
        clear hEq hbn HI12 HX12 HK12
        go_wp2_with fail
        go_loopw [149] (fun x wq => ∃ i : Nat,i ≤ S.length ∧ x = .int .i64 i ∧ Und49 w wq D (.slice A6 S.length c6) (.slice As LS.length cs) M' st' r' S LS (12 + 1) ∧ wq.ownsRow w.heap.size 4 1 (.slice Ak S.length ck) S.length ((S.map fun y => decide (y ∈ st.known)).map Value.bool) ∧ Blk wq w.heap.size 71 #[.int .i64 a.kind,.string a.c.s.name,.int .i64 a.c.s.depth,.int .i64 a.c.s.low,.int .i64 a.c.s.high,.int .i64 a.c.s.len,.slice a.c.al a.c.s.lines.length a.c.cl,.int .i64 a.c.s.pipe,.int .i64 a.c.s.arbor,.int .i64 a.c.s.purch,.int .i64 a.c.s.most,.int .i64 a.c.s.brake,.slice a.c.ai a.c.s.items.length a.c.ci,.slice a.c.ab a.c.s.bricks.length a.c.cb]) (fun x _ => S.length - (intOf x).toNat)
        case atStart => exact ⟨0,Nat.zero_le _,rfl,HI13.out,HK13.out,HX13.out⟩
        case round =>
         clear HI13 HK13 HX13
         obtain ⟨i,hi,rfl,hI,hkr,hX⟩ := hrel
         have p0 := hX.cell 0
         have p1 := hX.cell 1
         have p2 := hX.cell 2
         have p3 := hX.cell 3
         have p4 := hX.cell 4
         have p5 := hX.cell 5
         have p6 := hX.cell 6
         have p7 := hX.cell 7
         have p8 := hX.cell 8
         have p9 := hX.cell 9
         have p10 := hX.cell 10
         have p11 := hX.cell 11
         have p12 := hX.cell 12
         have p13 := hX.cell 13
         simp only [List.getElem?_toArray,List.getElem?_cons_succ,List.getElem?_cons_zero] at p0 p1 p2 p3 p4 p5 p6 p7 p8 p9 p10 p11 p12 p13
         by_cases hlt : i < S.length
         ·obtain ⟨b,off,rfl,hcell⟩ := names_cell hI.names rfl hlt
          have hmem : S[i] ∈ st.sets := by rw [HSE.out];exact List.getElem_mem hlt
          obtain ⟨y,hy⟩ : ∃ y,S[i] = y := ⟨_,rfl⟩
          rw [hy] at hcell hmem
          by_cases hne : y.name = a.c.s.name
          ·have hnm : (y.name.toList == a.c.s.name.toList) = true := by rw [str_beq];exact decide_eq_true hne
           have HI := Lib.hid hI
           have HK := Lib.hid hkr
           have HX := Lib.hid hX
           clear hI hkr hX hmem hy hne
           go_wp2_with fail
           go_roundw
           case rel => exact ⟨i + 1,by omega,by go_num,HI.out,HK.out,HX.out⟩
           case measure => simp [intOf];omega
          have hnm : (y.name.toList == a.c.s.name.toList) = false := by rw [str_beq];exact decide_eq_false hne
          obtain ⟨f1,f2⟩ := HO.out.others hI.ok hmem (fun h => hne h.1)
          clear hne
          have hG := (stGet w.heap.size D M' st' r' y.name _ hI.store hI.ok).mono fun _ _ hp => get_at hp f1
          have HI := Lib.hid hI
          have HK := Lib.hid hkr
          have HX := Lib.hid hX
          have HF2 := Lib.hid f2
          have HY := Lib.hid hy
          clear hI hkr hX f1 f2 hmem hy
          go_wp2_with fail
          refine hG.mono ?_
          rintro e w7 ⟨hb7,⟨s,al,cl,ai,ci,ab,cb⟩,rfl,hs,ho7⟩
          simp only at hs
          subst hs
          have ha := (Below.refl w7.heap.size w7).alloc (Nat.le_refl _) (.cells #[.string s.name,.int .i64 s.depth,.int .i64 s.low,.int .i64 s.high,.int .i64 s.len,.slice al s.lines.length cl,.int .i64 s.pipe,.int .i64 s.arbor,.int .i64 s.purch,.int .i64 s.most,.int .i64 s.brake,.slice ai s.items.length ci,.slice ab s.bricks.length cb] 26)
          have hb7a := hb7.trans (ha.mono hb7.size)
          have hI8 := HI.out.below hb7a
          have HI8 := Lib.hid hI8
          have HK8 := Lib.hid (own_belowL HK.out hb7a)
          have HX8 := Lib.hid (HX.out.below hb7a HX.out.lt)
          have HY8 := Lib.hid (Blk.new w7 26 #[.string s.name,.int .i64 s.depth,.int .i64 s.low,.int .i64 s.high,.int .i64 s.len,.slice al s.lines.length cl,.int .i64 s.pipe,.int .i64 s.arbor,.int .i64 s.purch,.int .i64 s.most,.int .i64 s.brake,.slice ai s.items.length ci,.slice ab s.bricks.length cb])
          have HO8 := Lib.hid ((own_mono3 ho7 HI.out.bel.size).chg (ChgS.of_below ha (Nat.zero_le _)))
          have hF := stFresh w.heap.size D M' st' r' s.name _ hI8.store hI8.ok (HT.out _ hI8.bel)
          rw [HF2.out] at hF
          clear ha hb7 hb7a ho7 hG HI hI8 HK HX p0 p1 p2 p3 p4 p5 p6 p7 p8 p9 p10 p11 p12 p13
          unfold SetC.val setVal at *
          go_wp2_with fail
          refine hF.mono ?_
          rintro e w10 ⟨rfl,hb9⟩
          have hI10 := HI8.out.below hb9
          have HI10 := Lib.hid hI10
          have HK10 := Lib.hid (own_belowL HK8.out hb9)
          have HX10 := Lib.hid (HX8.out.below hb9 HX8.out.lt)
          have HY10 := Lib.hid (HY8.out.below hb9 HY8.out.lt)
          have HO10 := Lib.hid (HO8.out.chg (ChgS.of_below hb9 (Nat.zero_le _)))
          clear hb9 hF HI8 HK8 HX8 HY8 HO8
          have hil : i < LS.length := by have := HL3.out;omega
          obtain ⟨_,_,e,hsv⟩ := hI10.saved.open_
          injection e with e1 _ e2
          subst e1 e2
          obtain ⟨b2,off2,rfl,hb2,hsc⟩ := hsv i hil
          have hcm := hI10.saved.sets _ (List.getElem_mem hil)
          have hcs : LS[i].s = s := by
           have h1 : (LS.map SetC.s)[i]? = S[i]? := by rw [HLs.out]
           rw [List.getElem?_map,List.getElem?_eq_getElem hil,List.getElem?_eq_getElem hlt,HY.out] at h1
           simpa using h1
          generalize LS[i] = z at *
          obtain ⟨s',al',cl',ai',ci',ab',cb'⟩ := z
          simp only at hcs
          subst hcs
          have HHE := Lib.hid fun W (hb : Below w10.heap.size w10 W) => refSame21 (setVal s' al cl ai ci ab cb) (setVal s' al' cl' ai' ci' ab' cb') s' s' W ((HO10.out.chg (ChgS.of_below hb (Nat.zero_le _))).set) ((hcm.chg (ChgS.of_below hb (Nat.zero_le _))).set)
          rw [decide_eq_true rfl] at HHE
          unfold setVal at HHE
          have hSm := fun x => HeldB.call HHE.out x
          obtain ⟨b3,rfl,hkc⟩ := bool_cell HK10.out (by simp) (by simpa using hlt)
          rw [show ((S.map fun y => decide (y ∈ st.known))[i]'(by simpa using hlt)) = decide (s' ∈ st.known) by rw [List.getElem_map,HY.out]] at hkc
          have hk0 := HeldB.cell hkc
          generalize decide (s' ∈ st.known) = bk at *
          have nb : (!(bk == bk)) = false := by cases bk <;> rfl
          have nb2 : (bk != bk) = false := by cases bk <;> rfl
          have x0 := hsc 0 _ rfl;rw [Nat.add_zero] at x0
          have x1 := hsc 1 _ rfl
          have x2 := hsc 2 _ rfl
          have x3 := hsc 3 _ rfl
          have x4 := hsc 4 _ rfl
          have x5 := hsc 5 _ rfl
          have x6 := hsc 6 _ rfl
          have x7 := hsc 7 _ rfl
          have x8 := hsc 8 _ rfl
          have x9 := hsc 9 _ rfl
          have x10 := hsc 10 _ rfl
          have x11 := hsc 11 _ rfl
          have x12 := hsc 12 _ rfl
          have z0 := HY10.out.cell 0
          have z1 := HY10.out.cell 1
          have z2 := HY10.out.cell 2
          have z3 := HY10.out.cell 3
          have z4 := HY10.out.cell 4
          have z5 := HY10.out.cell 5
          have z6 := HY10.out.cell 6
          have z7 := HY10.out.cell 7
          have z8 := HY10.out.cell 8
          have z9 := HY10.out.cell 9
          have z10 := HY10.out.cell 10
          have z11 := HY10.out.cell 11
          have z12 := HY10.out.cell 12
          simp only [List.getElem?_toArray,List.getElem?_cons_succ,List.getElem?_cons_zero] at z0 z1 z2 z3 z4 z5 z6 z7 z8 z9 z10 z11 z12
          have p0 := HeldB.cell x0
          have p1 := HeldB.cell x1
          have p2 := HeldB.cell x2
          have p3 := HeldB.cell x3
          have p4 := HeldB.cell x4
          have p5 := HeldB.cell x5
          have p6 := HeldB.cell x6
          have p7 := HeldB.cell x7
          have p8 := HeldB.cell x8
          have p9 := HeldB.cell x9
          have p10 := HeldB.cell x10
          have p11 := HeldB.cell x11
          have p12 := HeldB.cell x12
          have q0 := HeldB.cell z0
          have q1 := HeldB.cell z1
          have q2 := HeldB.cell z2
          have q3 := HeldB.cell z3
          have q4 := HeldB.cell z4
          have q5 := HeldB.cell z5
          have q6 := HeldB.cell z6
          have q7 := HeldB.cell z7
          have q8 := HeldB.cell z8
          have q9 := HeldB.cell z9
          have q10 := HeldB.cell z10
          have q11 := HeldB.cell z11
          have q12 := HeldB.cell z12
          clear hsc hcm hI10 HHE HY hkc x0 x1 x2 x3 x4 x5 x6 x7 x8 x9 x10 x11 x12 z0 z1 z2 z3 z4 z5 z6 z7 z8 z9 z10 z11 z12
          go_wp2_with fail
          refine wp_region_heldb (by kernel_rfl) (by kernel_rfl) ?_
          repeat (go_big_quiet_step ((go_at_call 29;exact hSm _)))
          refine wpQuiet_nil ?_
          rintro _ ⟨⟨w11,hb11⟩,rfl⟩
          have HI11 := Lib.hid (HI10.out.below hb11)
          have HK11 := Lib.hid (own_belowL HK10.out hb11)
          have HX11 := Lib.hid (HX10.out.below hb11 HX10.out.lt)
          clear hb11 p0 p1 p2 p3 p4 p5 p6 p7 p8 p9 p10 p11 p12 q0 q1 q2 q3 q4 q5 q6 q7 q8 q9 q10 q11 q12 hSm HI10 HX10 HO10 HK10 HY10 hk0 nb nb2
          go_wp2_with fail
          go_roundw
          case rel => exact ⟨i + 1,by omega,by go_num,HI11.out,HK11.out,HX11.out⟩
          case measure => simp [intOf];omega
         ·have hie : i = S.length := by omega
          subst hie
          have HI := Lib.hid hI
          have HX := Lib.hid hX
          have hG := stGet w.heap.size D M' st' r' a.c.s.name _ hI.store hI.ok
          have hG := hG.mono fun _ _ hp => get_at hp (HO.out.getLast hI.ok rfl (by simpa using be))
          clear hI hkr hX
          go_wp2_with fail
          refine hG.mono ?_
          rintro e w7 ⟨hb7,⟨s,al,cl,ai,ci,ab,cb⟩,rfl,hs,ho7⟩
          simp only at hs
          have ha := (Below.refl w7.heap.size w7).alloc (Nat.le_refl _) (.cells #[.string s.name,.int .i64 s.depth,.int .i64 s.low,.int .i64 s.high,.int .i64 s.len,.slice al s.lines.length cl,.int .i64 s.pipe,.int .i64 s.arbor,.int .i64 s.purch,.int .i64 s.most,.int .i64 s.brake,.slice ai s.items.length ci,.slice ab s.bricks.length cb] 26)
          have hb7a := hb7.trans (ha.mono hb7.size)
          have HI8 := Lib.hid (HI.out.below hb7a)
          have HX8 := HX.out.below hb7a HX.out.lt
          have HY8 := Blk.new w7 26 #[.string s.name,.int .i64 s.depth,.int .i64 s.low,.int .i64 s.high,.int .i64 s.len,.slice al s.lines.length cl,.int .i64 s.pipe,.int .i64 s.arbor,.int .i64 s.purch,.int .i64 s.most,.int .i64 s.brake,.slice ai s.items.length ci,.slice ab s.bricks.length cb]
          have hS8 := refSame21 (setVal s al cl ai ci ab cb) a.c.val s a.c.s _ ((ho7.chg (ChgS.of_below ha (Nat.zero_le _))).set) (HXs.out _ HI8.out.bel)
          rw [decide_eq_true hs] at hS8
          clear hb7 ha hb7a ho7 hG hs p0 p1 p2 p3 p4 p5 p6 p7 p8 p9 p10 p11 p12 p13
          have p0 := HX8.cell 0
          have p1 := HX8.cell 1
          have p2 := HX8.cell 2
          have p3 := HX8.cell 3
          have p4 := HX8.cell 4
          have p5 := HX8.cell 5
          have p6 := HX8.cell 6
          have p7 := HX8.cell 7
          have p8 := HX8.cell 8
          have p9 := HX8.cell 9
          have p10 := HX8.cell 10
          have p11 := HX8.cell 11
          have p12 := HX8.cell 12
          have p13 := HX8.cell 13
          simp only [List.getElem?_toArray,List.getElem?_cons_succ,List.getElem?_cons_zero] at p0 p1 p2 p3 p4 p5 p6 p7 p8 p9 p10 p11 p12 p13
          have q0 := HY8.cell 0
          have q1 := HY8.cell 1
          have q2 := HY8.cell 2
          have q3 := HY8.cell 3
          have q4 := HY8.cell 4
          have q5 := HY8.cell 5
          have q6 := HY8.cell 6
          have q7 := HY8.cell 7
          have q8 := HY8.cell 8
          have q9 := HY8.cell 9
          have q10 := HY8.cell 10
          have q11 := HY8.cell 11
          have q12 := HY8.cell 12
          simp only [List.getElem?_toArray,List.getElem?_cons_succ,List.getElem?_cons_zero] at q0 q1 q2 q3 q4 q5 q6 q7 q8 q9 q10 q11 q12
          unfold SetC.val setVal at *
          go_wp2_with fail
          refine hS8.mono ?_
          rintro e w9 ⟨rfl,hb9⟩
          have HB9 := Lib.hid (HI8.out.bel.trans (hb9.mono HI8.out.bel.size))
          go_wp2_with fail
          go_ret
          exact ⟨rfl,HB9.out⟩
       ·obtain ⟨k',hk'⟩ := HArm.out.2
        rw [hi] at hk'
        cases hk'
set_option maxRecDepth 100000 in
set_option maxHeartbeats 16000000 in
theorem lawOthersC (v0 : Value) (F : List ActC) (a : ActC) (w : World) (hpb : (a.kind.tmod 2 == 0) = true) (HArm : Hid ((putV (actsTo F F.length) a.c.s).1 = 0 ∧ idxS (actsTo F F.length).sets a.c.s.name = none)) (h0 : ActsAt w w.heap.size v0 F) (hs : SetAt w w.heap.size a.c.val a.c.s) (hn : SetNames a.c.s) (ht : Tab w) :
  Calls Tryz.prog 9 #[v0,a.val] w fun e w' => e = .returned (.bool true) ∧ Below w.heap.size w w' := by
 have HT := Lib.hid fun W (hb : Below w.heap.size w W) => ht.below hb
 have HLg0 := Lib.hid fun W (hb : Below w.heap.size w W) => large49 v0 F W ((h0.below hb (Nat.le_refl _)).mono hb.size)
 have HAc0 := Lib.hid fun t (hm : t ∈ F) W (hb : Below w.heap.size w W) => ((h0.2 t hm).1.below hb (Nat.le_refl _)).mono hb.size
 have HNm0 := Lib.hid fun t (hm : t ∈ F) => (h0.2 t hm).2
 have HXs := Lib.hid fun W (hb : Below w.heap.size w W) => (hs.below hb (Nat.le_refl _)).mono hb.size
 have HXn := Lib.hid hn
 have hba := (Below.refl _ w).alloc (Nat.le_refl _) (.cells #[.int .i64 a.kind,.string a.c.s.name,.int .i64 a.c.s.depth,.int .i64 a.c.s.low,.int .i64 a.c.s.high,.int .i64 a.c.s.len,.slice a.c.al a.c.s.lines.length a.c.cl,.int .i64 a.c.s.pipe,.int .i64 a.c.s.arbor,.int .i64 a.c.s.purch,.int .i64 a.c.s.most,.int .i64 a.c.s.brake,.slice a.c.ai a.c.s.items.length a.c.ci,.slice a.c.ab a.c.s.bricks.length a.c.cb] 71)
 have hAw := lawAwake49 (w.alloc (.cells #[.int .i64 a.kind,.string a.c.s.name,.int .i64 a.c.s.depth,.int .i64 a.c.s.low,.int .i64 a.c.s.high,.int .i64 a.c.s.len,.slice a.c.al a.c.s.lines.length a.c.cl,.int .i64 a.c.s.pipe,.int .i64 a.c.s.arbor,.int .i64 a.c.s.purch,.int .i64 a.c.s.most,.int .i64 a.c.s.brake,.slice a.c.ai a.c.s.items.length a.c.ci,.slice a.c.ab a.c.s.bricks.length a.c.cb] 71)) (HT.out _ hba)
 have HBa := Lib.hid hba
 have HXa := Lib.hid (Blk.new w 71 #[.int .i64 a.kind,.string a.c.s.name,.int .i64 a.c.s.depth,.int .i64 a.c.s.low,.int .i64 a.c.s.high,.int .i64 a.c.s.len,.slice a.c.al a.c.s.lines.length a.c.cl,.int .i64 a.c.s.pipe,.int .i64 a.c.s.arbor,.int .i64 a.c.s.purch,.int .i64 a.c.s.most,.int .i64 a.c.s.brake,.slice a.c.ai a.c.s.items.length a.c.ci,.slice a.c.ab a.c.s.bricks.length a.c.cb])
 obtain ⟨A0,c0,rfl,hc01,hc02,hcell0⟩ := h0.open_
 unfold maxLen at hc02
 have HC0 := Lib.hid hcell0
 clear hcell0 h0 ht hs hn hba
 unfold ActC.val ActC.cells SetC.cells
 go_enter Tryz.func9,Tryz.ntmps9
 go_wp2_with fail
 generalize (w.alloc (.cells #[.int .i64 a.kind,.string a.c.s.name,.int .i64 a.c.s.depth,.int .i64 a.c.s.low,.int .i64 a.c.s.high,.int .i64 a.c.s.len,.slice a.c.al a.c.s.lines.length a.c.cl,.int .i64 a.c.s.pipe,.int .i64 a.c.s.arbor,.int .i64 a.c.s.purch,.int .i64 a.c.s.most,.int .i64 a.c.s.brake,.slice a.c.ai a.c.s.items.length a.c.ci,.slice a.c.ab a.c.s.bricks.length a.c.cb] 71)) = w0 at *
 refine hAw.mono ?_
 rintro e w1 ⟨rfl,hb1⟩
 have HB1 := Lib.hid (HBa.out.trans (hb1.mono HBa.out.size))
 have HX1 := Lib.hid (HXa.out.below hb1 HXa.out.lt)
 have hLg := HLg0.out w1 HB1.out
 clear HLg0 hAw hb1 HBa HXa
 go_wp2_with fail
 refine hLg.mono ?_
 rintro e w2 ⟨q,rfl,hb2,h12⟩
 have HB2 := Lib.hid (HB1.out.trans (hb2.mono HB1.out.size))
 have HX2 := Lib.hid (HX1.out.below hb2 HX1.out.lt)
 have H12 := Lib.hid h12
 clear hb2 h12 hLg HB1 HX1
 cases q with
 | true =>
  go_wp2_with fail
  go_ret
  exact ⟨rfl,HB2.out⟩
 | false =>
  have HF12 := Lib.hid (H12.out rfl)
  have ha := (Below.refl w2.heap.size w2).alloc (Nat.le_refl _) (.cells #[.int .i64 a.kind,.string a.c.s.name,.int .i64 a.c.s.depth,.int .i64 a.c.s.low,.int .i64 a.c.s.high,.int .i64 a.c.s.len,.slice a.c.al a.c.s.lines.length a.c.cl,.int .i64 a.c.s.pipe,.int .i64 a.c.s.arbor,.int .i64 a.c.s.purch,.int .i64 a.c.s.most,.int .i64 a.c.s.brake,.slice a.c.ai a.c.s.items.length a.c.ci,.slice a.c.ab a.c.s.bricks.length a.c.cb] 71)
  have HB3 := Lib.hid (HB2.out.trans (ha.mono HB2.out.size))
  have HX3 := Lib.hid (HX2.out.below ha HX2.out.lt)
  have hLg := large49 (.slice (some ⟨w2.heap.size,0,none⟩) 1 1) [a] (w2.alloc (.cells #[.int .i64 a.kind,.string a.c.s.name,.int .i64 a.c.s.depth,.int .i64 a.c.s.low,.int .i64 a.c.s.high,.int .i64 a.c.s.len,.slice a.c.al a.c.s.lines.length a.c.cl,.int .i64 a.c.s.pipe,.int .i64 a.c.s.arbor,.int .i64 a.c.s.purch,.int .i64 a.c.s.most,.int .i64 a.c.s.brake,.slice a.c.ai a.c.s.items.length a.c.ci,.slice a.c.ab a.c.s.bricks.length a.c.cb] 71)) (acts_one w2 a (HXs.out _ HB3.out) HXn.out)
  clear H12 ha
  have p0 := HX2.out.cell 0
  have p1 := HX2.out.cell 1
  have p2 := HX2.out.cell 2
  have p3 := HX2.out.cell 3
  have p4 := HX2.out.cell 4
  have p5 := HX2.out.cell 5
  have p6 := HX2.out.cell 6
  have p7 := HX2.out.cell 7
  have p8 := HX2.out.cell 8
  have p9 := HX2.out.cell 9
  have p10 := HX2.out.cell 10
  have p11 := HX2.out.cell 11
  have p12 := HX2.out.cell 12
  have p13 := HX2.out.cell 13
  simp only [List.getElem?_toArray,List.getElem?_cons_succ,List.getElem?_cons_zero] at p0 p1 p2 p3 p4 p5 p6 p7 p8 p9 p10 p11 p12 p13
  go_wp2_with fail
  refine hLg.mono ?_
  rintro e w4 ⟨q,rfl,hb4,-⟩
  have HB4 := Lib.hid (HB3.out.trans (hb4.mono HB3.out.size))
  have HX4 := Lib.hid (HX3.out.below hb4 HX3.out.lt)
  clear hb4 hLg HB3 HX3 HB2 HX2 p0 p1 p2 p3 p4 p5 p6 p7 p8 p9 p10 p11 p12 p13
  cases q with
  | true =>
   go_wp2_with fail
   go_ret
   exact ⟨rfl,HB4.out⟩
  | false =>
   go_wp2_with fail
   refine (stNew w.heap.size w4 HB4.out.size).mono ?_
   rintro e w3 ⟨D,rfl,hb3,hS3⟩
   have HB3 := Lib.hid (HB4.out.trans (hb3.mono HB4.out.size))
   have HX3 := Lib.hid (HX4.out.below hb3 HX4.out.lt)
   have HS3 := Lib.hid hS3
   clear hb3 hS3 HB4 HX4
   go_wp2_with fail
   go_loopw [43] (fun x wr => ∃ (j : Nat) (M : Nat → Prop) (r : StR),j ≤ F.length ∧ x = .int .i64 j ∧ Below w.heap.size w wr ∧ StoreAt wr w.heap.size D M (actsTo F j) r ∧ Blk wr w.heap.size 71 #[.int .i64 a.kind,.string a.c.s.name,.int .i64 a.c.s.depth,.int .i64 a.c.s.low,.int .i64 a.c.s.high,.int .i64 a.c.s.len,.slice a.c.al a.c.s.lines.length a.c.cl,.int .i64 a.c.s.pipe,.int .i64 a.c.s.arbor,.int .i64 a.c.s.purch,.int .i64 a.c.s.most,.int .i64 a.c.s.brake,.slice a.c.ai a.c.s.items.length a.c.ci,.slice a.c.ab a.c.s.bricks.length a.c.cb]) (fun x _ => F.length - (intOf x).toNat)
   case atStart => exact ⟨0,_,_,Nat.zero_le _,rfl,HB3.out,HS3.out,HX3.out⟩
   case round =>
    obtain ⟨j,M,r,hj,rfl,hbel,hS,hX⟩ := hrel
    have HBl := Lib.hid hbel
    have HX := Lib.hid hX
    clear hbel hX
    by_cases hlt : j < F.length
    ·obtain ⟨b,off,rfl,hb,hcell⟩ := HC0.out j hlt
     have h0 := (HBl.out.cell (p := ⟨b,off + j * 14,none⟩) hb).trans (hcell j hlt 0 _ rfl)
     have h1 := (HBl.out.cell (p := ⟨b,off + j * 14 + 1,none⟩) hb).trans (hcell j hlt 1 _ rfl)
     have h2 := (HBl.out.cell (p := ⟨b,off + j * 14 + 2,none⟩) hb).trans (hcell j hlt 2 _ rfl)
     have h3 := (HBl.out.cell (p := ⟨b,off + j * 14 + 3,none⟩) hb).trans (hcell j hlt 3 _ rfl)
     have h4 := (HBl.out.cell (p := ⟨b,off + j * 14 + 4,none⟩) hb).trans (hcell j hlt 4 _ rfl)
     have h5 := (HBl.out.cell (p := ⟨b,off + j * 14 + 5,none⟩) hb).trans (hcell j hlt 5 _ rfl)
     have h6 := (HBl.out.cell (p := ⟨b,off + j * 14 + 6,none⟩) hb).trans (hcell j hlt 6 _ rfl)
     have h7 := (HBl.out.cell (p := ⟨b,off + j * 14 + 7,none⟩) hb).trans (hcell j hlt 7 _ rfl)
     have h8 := (HBl.out.cell (p := ⟨b,off + j * 14 + 8,none⟩) hb).trans (hcell j hlt 8 _ rfl)
     have h9 := (HBl.out.cell (p := ⟨b,off + j * 14 + 9,none⟩) hb).trans (hcell j hlt 9 _ rfl)
     have h10 := (HBl.out.cell (p := ⟨b,off + j * 14 + 10,none⟩) hb).trans (hcell j hlt 10 _ rfl)
     have h11 := (HBl.out.cell (p := ⟨b,off + j * 14 + 11,none⟩) hb).trans (hcell j hlt 11 _ rfl)
     have h12 := (HBl.out.cell (p := ⟨b,off + j * 14 + 12,none⟩) hb).trans (hcell j hlt 12 _ rfl)
     have h13 := (HBl.out.cell (p := ⟨b,off + j * 14 + 13,none⟩) hb).trans (hcell j hlt 13 _ rfl)
     clear hcell
     have hbel := HBl.out
     have ha := fun o => (Below.refl wr.heap.size wr).alloc (Nat.le_refl _) o
     have hm := List.getElem_mem hlt
     obtain ⟨g1,g2,-⟩ := actsTo_ok F j hj
     have hsm := g2.mono (Nat.le_trans hj (Nat.le_trans HF12.out (by decide : 12 ≤ 1000)))
     have HE := Lib.hid (actsTo_succ hlt)
     have HP := Lib.hid fun o => plain49 w.heap.size D M (actsTo F j) r F[j] (wr.alloc o) (hS.below (ha o)) g1 (HT.out _ (hbel.trans ((ha o).mono hbel.size))) (HAc0.out _ hm _ (hbel.trans ((ha o).mono hbel.size))) (HNm0.out _ hm) hsm
     have HBe := Lib.hid fun o => hbel.trans ((ha o).mono hbel.size)
     have HXe := Lib.hid fun o => HX.out.below (ha o) HX.out.lt
     clear ha hm g1 g2 hsm hS hbel
     generalize F[j] = t at *
     have hP := HP.out (.cells #[.int .i64 t.kind,.string t.c.s.name,.int .i64 t.c.s.depth,.int .i64 t.c.s.low,.int .i64 t.c.s.high,.int .i64 t.c.s.len,.slice t.c.al t.c.s.lines.length t.c.cl,.int .i64 t.c.s.pipe,.int .i64 t.c.s.arbor,.int .i64 t.c.s.purch,.int .i64 t.c.s.most,.int .i64 t.c.s.brake,.slice t.c.ai t.c.s.items.length t.c.ci,.slice t.c.ab t.c.s.bricks.length t.c.cb] 71)
     clear HP
     go_wp2_with fail
     refine hP.mono ?_
     rintro e w5 ⟨rfl,hc5,M5,r5,hS5,-⟩
     rw [← HE.out] at hS5
     have HS5 := Lib.hid hS5
     have HB5 := Lib.hid ((HBe.out _).trans hc5.bel)
     have HX5 := Lib.hid ((HXe.out _).chg hc5 (by decide) (by decide))
     clear hS5 hc5 hP HBe HE HXe h0 h1 h2 h3 h4 h5 h6 h7 h8 h9 h10 h11 h12 h13
     go_wp2_with fail
     go_roundw
     case rel => exact ⟨j + 1,M5,r5,by omega,by go_num,HB5.out,HS5.out,HX5.out⟩
     case measure => simp [intOf];omega
    ·have hje : j = F.length := by omega
     subst hje
     obtain ⟨g1,g2,g3⟩ := actsTo_ok F F.length (Nat.le_refl _)
     have hbel := HBl.out
     have hn := (stNames w.heap.size D M (actsTo F F.length) r wr hS g1)
     have HS := Lib.hid hS
     have HB := Lib.hid hbel
     have HG1 := Lib.hid g1
     have HG2 := Lib.hid (g2.mono HF12.out)
     have HN12 := Lib.hid (Nat.le_trans g3.sets HF12.out)
     have hgt : decide (F.length < (actsTo F F.length).sets.length) = false := decide_eq_false (by have := g3.sets;omega)
     clear g1 g2 g3 hS hbel HC0 HS3 HB3 HX3 HAc0 HNm0 HBl
     generalize actsTo F F.length = st at *
     go_wp2_with fail
     refine hn.mono ?_
     rintro e w6 ⟨hb6,v6,rfl,ho6⟩
     obtain ⟨A6,c6,rfl⟩ := own_formB ho6
     obtain ⟨_,_,e6,hq1,hq2,-⟩ := Flat.of_own ho6
     injection e6 with e61 _ e62
     subst e61 e62
     unfold maxLen at hq2
     have HI6 : Hid (Und49 w w6 D (.slice A6 st.sets.length c6) (.slice none 0 0) M st r st.sets [] 12) := ⟨HB.out.trans (hb6.mono HB.out.size),HS.out.below hb6,HG1.out,HG2.out,own_mono ho6 HB.out.size,SavedAt.nil⟩
     have HX6 := Lib.hid (HX.out.below hb6 HX.out.lt)
     clear ho6 hb6 hn HS HB HG1 HG2 HX
     have hSl := HN12.out
     clear HN12
     obtain ⟨S,hSe⟩ : ∃ S,st.sets = S := ⟨_,rfl⟩
     rw [hSe] at HI6 hgt hSl hq1
     rw [hSe]
     have HSE := Lib.hid hSe
     clear hSe
     go_wp2_with fail
     go_loopw [60,9,10] (fun x sv kv wq => ∃ (j : Nat) (LS : List SetC),j ≤ S.length ∧ x = .int .i64 j ∧ Und49 w wq D (.slice A6 S.length c6) sv M st r S LS 12 ∧ LS.map SetC.s = S.take j ∧ KnownRow wq w.heap.size M kv j ((S.take j).map fun y => decide (y ∈ st.known)) ∧ Blk wq w.heap.size 71 #[.int .i64 a.kind,.string a.c.s.name,.int .i64 a.c.s.depth,.int .i64 a.c.s.low,.int .i64 a.c.s.high,.int .i64 a.c.s.len,.slice a.c.al a.c.s.lines.length a.c.cl,.int .i64 a.c.s.pipe,.int .i64 a.c.s.arbor,.int .i64 a.c.s.purch,.int .i64 a.c.s.most,.int .i64 a.c.s.brake,.slice a.c.ai a.c.s.items.length a.c.ci,.slice a.c.ab a.c.s.bricks.length a.c.cb]) (fun x _ _ _ => S.length - (intOf x).toNat)
     case atStart => exact ⟨0,_,Nat.zero_le _,rfl,HI6.out,rfl,KnownRow.nil,HX6.out⟩
     case round =>
      clear HI6 HX6
      obtain ⟨j,LS,hj,rfl,hI,hls,hkr,hX⟩ := hrel
      have hlsl : LS.length = j := by have := congrArg List.length hls;simpa [Nat.min_eq_left hj] using this
      obtain ⟨As,cs,rfl,-⟩ := hI.saved.open_
      obtain ⟨Ak,ck,rfl⟩ := own_formB hkr.own
      by_cases hlt : j < S.length
      ·have hlt' : j < st.sets.length := by rw [HSE.out];exact hlt
       obtain ⟨b,off,rfl,hcell⟩ := names_cell hI.names rfl hlt
       obtain ⟨x,hx,hxe,f1,f2⟩ := oth_round hI.ok hlt'
       have hxe' : S[j] = x := by rw [← hxe];congr 1;exact HSE.out.symm
       have HTk : Hid (S.take (j + 1) = S.take j ++ [x]) := by rw [← hxe'];exact take_snoc S j hlt
       rw [hxe'] at hcell
       have hG := (stGet w.heap.size D M st r x.name _ hI.store hI.ok).mono fun _ _ hp => get_at hp f1
       have HI := Lib.hid hI
       have HF2 := Lib.hid f2
       have HLs := Lib.hid hls
       have HLl := Lib.hid hlsl
       have HKr := Lib.hid hkr
       have HX := Lib.hid hX
       clear hI f1 f2 hls hxe hxe' hx hlsl hkr hX
       go_wp2_with fail
       refine hG.mono ?_
       rintro e w7 ⟨hb7,⟨s,al,cl,ai,ci,ab,cb⟩,rfl,hs,ho7⟩
       simp only at hs
       subst hs
       have ha := (Below.refl w7.heap.size w7).alloc (Nat.le_refl _) (.cells #[.string s.name,.int .i64 s.depth,.int .i64 s.low,.int .i64 s.high,.int .i64 s.len,.slice al s.lines.length cl,.int .i64 s.pipe,.int .i64 s.arbor,.int .i64 s.purch,.int .i64 s.most,.int .i64 s.brake,.slice ai s.items.length ci,.slice ab s.bricks.length cb] 26)
       have hb7a := hb7.trans (ha.mono hb7.size)
       have hI8 := HI.out.below hb7a
       have HI8 := Lib.hid hI8
       have HK8 := Lib.hid (HKr.out.below hb7a)
       have HX8 := Lib.hid (HX.out.below hb7a HX.out.lt)
       have HY8 := Lib.hid (Blk.new w7 26 #[.string s.name,.int .i64 s.depth,.int .i64 s.low,.int .i64 s.high,.int .i64 s.len,.slice al s.lines.length cl,.int .i64 s.pipe,.int .i64 s.arbor,.int .i64 s.purch,.int .i64 s.most,.int .i64 s.brake,.slice ai s.items.length ci,.slice ab s.bricks.length cb])
       have HO8 := Lib.hid ((own_mono3 ho7 HI.out.bel.size).chg (ChgS.of_below ha (Nat.zero_le _)))
       have hF := stFresh w.heap.size D M st r s.name _ hI8.store hI8.ok (HT.out _ hI8.bel)
       rw [HF2.out] at hF
       clear ha hb7 hb7a ho7 hG HI hI8 HKr HX
       unfold SetC.val setVal at *
       go_wp2_with fail
       refine hF.mono ?_
       rintro e w9 ⟨rfl,hb9⟩
       have HI9 := Lib.hid (HI8.out.below hb9)
       have HK9 := Lib.hid (HK8.out.below hb9)
       have HX9 := Lib.hid (HX8.out.below hb9 HX8.out.lt)
       have HY9 := Lib.hid (HY8.out.below hb9 HY8.out.lt)
       have HO9 := Lib.hid (HO8.out.chg (ChgS.of_below hb9 (Nat.zero_le _)))
       clear hb9 hF HI8 HK8 HX8 HY8 HO8
       have p0 := HY9.out.cell 0
       have p1 := HY9.out.cell 1
       have p2 := HY9.out.cell 2
       have p3 := HY9.out.cell 3
       have p4 := HY9.out.cell 4
       have p5 := HY9.out.cell 5
       have p6 := HY9.out.cell 6
       have p7 := HY9.out.cell 7
       have p8 := HY9.out.cell 8
       have p9 := HY9.out.cell 9
       have p10 := HY9.out.cell 10
       have p11 := HY9.out.cell 11
       have p12 := HY9.out.cell 12
       simp only [List.getElem?_toArray,List.getElem?_cons_succ,List.getElem?_cons_zero] at p0 p1 p2 p3 p4 p5 p6 p7 p8 p9 p10 p11 p12
       have ha := (Below.refl w9.heap.size w9).alloc (Nat.le_refl _) (.cells #[.string s.name,.int .i64 s.depth,.int .i64 s.low,.int .i64 s.high,.int .i64 s.len,.slice al s.lines.length cl,.int .i64 s.pipe,.int .i64 s.arbor,.int .i64 s.purch,.int .i64 s.most,.int .i64 s.brake,.slice ai s.items.length ci,.slice ab s.bricks.length cb] 26)
       have HIa := Lib.hid (HI9.out.below ha)
       have HKa := Lib.hid (HK9.out.below ha)
       have HXa := Lib.hid (HX9.out.below ha HX9.out.lt)
       have HOa := Lib.hid (HO9.out.chg (ChgS.of_below ha (Nat.zero_le _)))
       have Hnew := Lib.hid (World.news_of_block (Blk.new w9 26 #[.string s.name,.int .i64 s.depth,.int .i64 s.low,.int .i64 s.high,.int .i64 s.len,.slice al s.lines.length cl,.int .i64 s.pipe,.int .i64 s.arbor,.int .i64 s.purch,.int .i64 s.most,.int .i64 s.brake,.slice ai s.items.length ci,.slice ab s.bricks.length cb]))
       have hsz := HIa.out.bel.size
       have HOw := Lib.hid HIa.out.saved.own
       have hls12 : LS.length ≤ 12 := by have := HLl.out;omega
       have hj12 : j ≤ 12 := by omega
       generalize hbk : decide (s ∈ st.known) = bk at *
       have HBk := Lib.hid hbk
       obtain ⟨iF,hiF,hzF0,hzF1,hzF2⟩ := info_parts info_setc
       clear ha HI9 HX9 HO9 HK9 HY9 hbk
       go_wp2_with (first
        | (at_builtin;refine wpList_append_lies _ rfl (.tmp 82) (.tmp 84) 66 rfl w.heap.size 26 iF (.agg #[.string ⟨#[]⟩,.int .i64 0,.int .i64 0,.int .i64 0,.int .i64 0,.slice none 0 0,.int .i64 0,.int .i64 0,.int .i64 0,.int .i64 0,.int .i64 0,.slice none 0 0,.slice none 0 0]) 13 160 Tryz.underlying66 hiF hzF0 hzF1 hzF2 rfl (by decide) _ _ _ rfl HOw.out ⟨w9.heap.size,0,none⟩ 1 1 [.string s.name,.int .i64 s.depth,.int .i64 s.low,.int .i64 s.high,.int .i64 s.len,.slice al s.lines.length cl,.int .i64 s.pipe,.int .i64 s.arbor,.int .i64 s.purch,.int .i64 s.most,.int .i64 s.brake,.slice ai s.items.length ci,.slice ab s.bricks.length cb] rfl rfl Hnew.out (by simp [Value.oneCell']) (by decide) (by unfold maxLen;omega) (by omega) hsz _ rfl ?_;intro g' cap' w10 hown' hgrow hgg hgl;have HP10 : Hid (SavedAt w10 w.heap.size M (.slice (some ⟨g',0,none⟩) (LS.length + 1) cap') (LS ++ [(⟨s,al,cl,ai,ci,ab,cb⟩ : SetC)])) := HIa.out.saved.push HOa.out rfl HIa.out.store.lt (Nat.le_refl _) hown' hgrow hgg;have HI10 : Hid (Und49 w w10 D (.slice (some ⟨b,off,none⟩) S.length c6) (.slice (some ⟨g',0,none⟩) (LS.length + 1) cap') M st r S (LS ++ [(⟨s,al,cl,ai,ci,ab,cb⟩ : SetC)]) 12) := ⟨HIa.out.bel.grown hgrow hsz (fun k e => (HOw.out.lt k e).1),store_rowE HIa.out.store HOw.out (by decide) (by decide) HIa.out.saved.out hgrow,HIa.out.ok,HIa.out.small,row_row HOw.out hgrow HIa.out.names (by decide),HP10.out⟩;have HK10 : Hid (KnownRow w10 w.heap.size M (.slice Ak j ck) j ((S.take j).map fun y => decide (y ∈ st.known))) := HKa.out.row HOw.out hgrow (by decide);have HX10 := Lib.hid (blk_row HOw.out hgrow HXa.out (by decide));have hsz10 := HI10.out.bel.size;clear hown' hgrow hgg hgl)
        | (at_builtin;refine wpList_push _ rfl (.tmp 86) (.tmp 88) 85 rfl w.heap.size 4 info_boolK Tryz.underlying85 rfl _ j _ rfl HK10.out.own (.bool bk) rfl rfl (by unfold maxLen;omega) (by omega) hsz10 ?_;intro g3 cap3 w11 hown3 hgrow3 hbg hgg3;have HK11 := Lib.hid (HK10.out.push HI10.out.store.lt hown3 hgrow3 hgg3);have HI11 : Hid (Und49 w w11 D (.slice (some ⟨b,off,none⟩) S.length c6) (.slice (some ⟨g',0,none⟩) (LS.length + 1) cap') M st r S (LS ++ [(⟨s,al,cl,ai,ci,ab,cb⟩ : SetC)]) 12) := ⟨HI10.out.bel.grown hgrow3 hsz10 (fun k e => (HK10.out.own.lt k e).1),store_rowE HI10.out.store HK10.out.own (by decide) (by decide) HK10.out.out hgrow3,HI10.out.ok,HI10.out.small,row_row HK10.out.own hgrow3 HI10.out.names (by decide),HI10.out.saved.row HK10.out.own hgrow3 (by decide) (by decide) (by decide) (by decide)⟩;have HX11 := Lib.hid (blk_row HK10.out.own hgrow3 HX10.out (by decide));clear hown3 hgrow3 hbg hgg3))
       have HLs2 : Hid ((LS ++ [(⟨s,al,cl,ai,ci,ab,cb⟩ : SetC)]).map SetC.s = S.take (j + 1)) := by rw [List.map_append,HLs.out,HTk.out];rfl
       have HK12 : Hid (KnownRow w11 w.heap.size M (.slice (some ⟨g3,0,none⟩) (j + 1) cap3) (j + 1) ((S.take (j + 1)).map fun y => decide (y ∈ st.known))) := by rw [HTk.out,List.map_append,List.map_cons,List.map_nil,HBk.out];exact HK11.out
       clear HP10 HI10 HK10 HX10 HIa HOa Hnew HOw hsz hsz10 HKa HXa HK11 p0 p1 p2 p3 p4 p5 p6 p7 p8 p9 p10 p11 p12
       go_wp2_with fail
       go_roundw
       case rel => exact ⟨j + 1,_,by omega,by go_num,HI11.out,HLs2.out,HK12.out,HX11.out⟩
       case measure => simp [intOf];omega
      ·have hje : j = S.length := by omega
       subst hje
       have HLs : Hid (LS.map SetC.s = S) := by rw [List.take_length] at hls;exact hls
       have HK : Hid (KnownRow wr w.heap.size M (.slice Ak S.length ck) S.length (S.map fun y => decide (y ∈ st.known))) := by rw [List.take_length] at hkr;exact hkr
       have HI := Lib.hid hI
       have HX := Lib.hid hX
       have HL3 := Lib.hid hlsl
       clear hI hls hkr hX hlsl
       have p0 := HX.out.cell 0
       have p1 := HX.out.cell 1
       have p2 := HX.out.cell 2
       have p3 := HX.out.cell 3
       have p4 := HX.out.cell 4
       have p5 := HX.out.cell 5
       have p6 := HX.out.cell 6
       have p7 := HX.out.cell 7
       have p8 := HX.out.cell 8
       have p9 := HX.out.cell 9
       have p10 := HX.out.cell 10
       have p11 := HX.out.cell 11
       have p12 := HX.out.cell 12
       have p13 := HX.out.cell 13
       simp only [List.getElem?_toArray,List.getElem?_cons_succ,List.getElem?_cons_zero] at p0 p1 p2 p3 p4 p5 p6 p7 p8 p9 p10 p11 p12 p13
       go_upto_region 29 with fail
       clear p0 p1 p2 p3 p4 p5 p6 p7 p8 p9 p10 p11 p12 p13
       have p0 := HX.out.cell 0
       have p1 := HX.out.cell 1
       have p2 := HX.out.cell 2
       have p3 := HX.out.cell 3
       have p4 := HX.out.cell 4
       have p5 := HX.out.cell 5
       have p6 := HX.out.cell 6
       have p7 := HX.out.cell 7
       have p8 := HX.out.cell 8
       have p9 := HX.out.cell 9
       have p10 := HX.out.cell 10
       have p11 := HX.out.cell 11
       have p12 := HX.out.cell 12
       have p13 := HX.out.cell 13
       simp only [List.getElem?_toArray,List.getElem?_cons_succ,List.getElem?_cons_zero] at p0 p1 p2 p3 p4 p5 p6 p7 p8 p9 p10 p11 p12 p13
       have hE := (stPut w.heap.size D M st r a.c.val a.c.s _ HI.out.store HI.out.ok (HXs.out _ HI.out.bel) HXn.out (Nat.le_trans HI.out.small.past (by decide))).mono fun _ _ hp => act_put hp
       obtain ⟨hO,hW⟩ := oth_put st a.c.s
       have HOk := Lib.hid (HI.out.ok.putV a.c.s)
       have HSm := Lib.hid (by have := HI.out.small.act 0 a.c.s;rwa [act0 rfl] at this : StSmall (putV st a.c.s).2 (12 + 1))
       generalize putV st a.c.s = o at *
       obtain ⟨er,st'⟩ := o
       simp only at hE hO hW HOk HSm
       have HO := Lib.hid hO
       have HW := Lib.hid hW
       clear hO hW
       go_wp2_with fail
       refine hE.mono ?_
       rintro e w7 ⟨rfl,hact⟩
       have HK7 := Lib.hid (own_chg HK.out.own hact.1 (by decide) (by decide))
       have HX7 := Lib.hid (HX.out.chg hact.1 (by decide) (by decide))
       obtain ⟨M',r',hI7⟩ := HI.out.act hact (n' := 12 + 1) HOk.out HSm.out
       have HI7 := Lib.hid hI7
       have hCl := cloneStr (.slice A6 S.length c6) (S.map SetT.name) w7 (by simpa [RowAt] using Flat.of_own hI7.names) (by simp;omega)
       clear hact hI7 hE HI HX HK HOk HSm p0 p1 p2 p3 p4 p5 p6 p7 p8 p9 p10 p11 p12 p13
       go_wp2_with fail
       refine hCl.mono ?_
       rintro e w8 ⟨v8,rfl,ho8,hb8⟩
       obtain ⟨A8,c8,rfl⟩ := own_formB ho8
       rw [List.length_map] at ho8
       have HB8 := Lib.hid hb8
       have HO8 := Lib.hid ho8
       have HX8 := HX7.out.below hb8 HX7.out.lt
       have hIx := indexStr (.slice A6 S.length c6) (S.map SetT.name) a.c.s.name w8.heap.size w8 (by simpa [RowAt] using Flat.of_own (own_belowL HI7.out.names hb8))
       rw [idx_names] at hIx
       clear hb8 ho8 hCl
       have p0 := HX8.cell 0
       have p1 := HX8.cell 1
       have p2 := HX8.cell 2
       have p3 := HX8.cell 3
       have p4 := HX8.cell 4
       have p5 := HX8.cell 5
       have p6 := HX8.cell 6
       have p7 := HX8.cell 7
       have p8 := HX8.cell 8
       have p9 := HX8.cell 9
       have p10 := HX8.cell 10
       have p11 := HX8.cell 11
       have p12 := HX8.cell 12
       have p13 := HX8.cell 13
       simp only [List.getElem?_toArray,List.getElem?_cons_succ,List.getElem?_cons_zero] at p0 p1 p2 p3 p4 p5 p6 p7 p8 p9 p10 p11 p12 p13
       go_wp2_with fail
       refine hIx.mono ?_
       rintro e w8' ⟨rfl,rfl⟩
       clear hIx
       rcases HW.out with ⟨he,hst⟩ | ⟨he,⟨k,hi,hnm⟩ | ⟨hi,hnm⟩⟩
       ·exact absurd HArm.out.1 he
       ·rw [HArm.out.2] at hi
        cases hi
       ·clear HW HArm
        have be : (er == 0) = true := by rw [he];rfl
        have bn : (er != 0) = false := by rw [bne,be];rfl
        rw [HSE.out] at hnm hi
        rw [hi]
        have HNm := Lib.hid hnm
        rw [show idxOf none = -1 from rfl]
        clear he hnm hi
        have ha := (Below.refl w8.heap.size w8).alloc (Nat.le_refl _) (.cells #[.string a.c.s.name] 9)
        have hsz8 := Nat.le_trans HI7.out.bel.size HB8.out.size
        have HX8 := Lib.hid HX8
        go_wp2_with (at_builtin;refine wpList_push _ rfl (.tmp 136) (.tmp 140) 58 rfl w7.heap.size 9 info_strS Tryz.underlying58 rfl _ S.length _ rfl HO8.out (.string a.c.s.name) rfl rfl (by unfold maxLen;omega) (by omega) HB8.out.size ?_;intro g9 cap9 w9 hown9 hgrow9 hbg9 hgg9;have HB9 : Hid (Below w7.heap.size w7 w9) := Lib.hid (HB8.out.grown hgrow9 HB8.out.size (fun k e => (HO8.out.lt k e).1));have HO9 := Lib.hid hown9;clear hown9 hgrow9 hbg9 hgg9)
        have HI10 := Lib.hid (HI7.out.below HB9.out)
        have HX10 := Lib.hid (HX7.out.below HB9.out HX7.out.lt)
        have HK10 := Lib.hid (own_belowL HK7.out HB9.out)
        have HW10 : Hid (RowAt Value.string w9 w9.heap.size (.slice (some ⟨g9,0,none⟩) (S.length + 1) cap9) (st'.sets.map SetT.name)) := by unfold Hid;rw [HNm.out];simpa [RowAt] using Flat.of_own HO9.out
        clear HI7 HB8 HO8 HX8 HX7 HK7 HB9 HO9 ha hsz8
        have hN := stNames w.heap.size D M' st' r' w9 HI10.out.store HI10.out.ok
        clear p0 p1 p2 p3 p4 p5 p6 p7 p8 p9 p10 p11 p12 p13
        go_wp2_with fail
        refine hN.mono ?_
        rintro e w12 ⟨hb12,v12,rfl,ho12⟩
        obtain ⟨A12,c12,rfl⟩ := own_formB ho12
        have hEq := equalStr (.slice A12 st'.sets.length c12) _ (st'.sets.map SetT.name) (st'.sets.map SetT.name) w12.heap.size w12 (by simpa [RowAt] using Flat.of_own ho12) ((HW10.out.below hb12 (Nat.le_refl _)).mono hb12.size)
        rw [decide_eq_true rfl] at hEq
        have HI12 := Lib.hid (HI10.out.below hb12)
        have HX12 := Lib.hid (HX10.out.below hb12 HX10.out.lt)
        have HK12 := Lib.hid (own_belowL HK10.out hb12)
        clear hb12 ho12 hN HI10 HX10 HK10 HW10
        go_wp2_with fail
        refine hEq.mono ?_
        rintro e w13 ⟨rfl,nq,rfl⟩
        have hbn := below_drewN (Below.refl w12.heap.size w12) nq
        have HI13 := Lib.hid (HI12.out.below hbn)
        have HX13 := Lib.hid (HX12.out.below hbn HX12.out.lt)
        have HK13 := Lib.hid (own_belowL HK12.out hbn)
        clear hEq hbn HI12 HX12 HK12
        go_wp2_with fail
        go_loopw [149] (fun x wq => ∃ i : Nat,i ≤ S.length ∧ x = .int .i64 i ∧ Und49 w wq D (.slice A6 S.length c6) (.slice As LS.length cs) M' st' r' S LS (12 + 1) ∧ wq.ownsRow w.heap.size 4 1 (.slice Ak S.length ck) S.length ((S.map fun y => decide (y ∈ st.known)).map Value.bool) ∧ Blk wq w.heap.size 71 #[.int .i64 a.kind,.string a.c.s.name,.int .i64 a.c.s.depth,.int .i64 a.c.s.low,.int .i64 a.c.s.high,.int .i64 a.c.s.len,.slice a.c.al a.c.s.lines.length a.c.cl,.int .i64 a.c.s.pipe,.int .i64 a.c.s.arbor,.int .i64 a.c.s.purch,.int .i64 a.c.s.most,.int .i64 a.c.s.brake,.slice a.c.ai a.c.s.items.length a.c.ci,.slice a.c.ab a.c.s.bricks.length a.c.cb]) (fun x _ => S.length - (intOf x).toNat)
        case atStart => exact ⟨0,Nat.zero_le _,rfl,HI13.out,HK13.out,HX13.out⟩
        case round =>
         clear HI13 HK13 HX13
         obtain ⟨i,hi,rfl,hI,hkr,hX⟩ := hrel
         have p0 := hX.cell 0
         have p1 := hX.cell 1
         have p2 := hX.cell 2
         have p3 := hX.cell 3
         have p4 := hX.cell 4
         have p5 := hX.cell 5
         have p6 := hX.cell 6
         have p7 := hX.cell 7
         have p8 := hX.cell 8
         have p9 := hX.cell 9
         have p10 := hX.cell 10
         have p11 := hX.cell 11
         have p12 := hX.cell 12
         have p13 := hX.cell 13
         simp only [List.getElem?_toArray,List.getElem?_cons_succ,List.getElem?_cons_zero] at p0 p1 p2 p3 p4 p5 p6 p7 p8 p9 p10 p11 p12 p13
         by_cases hlt : i < S.length
         ·obtain ⟨b,off,rfl,hcell⟩ := names_cell hI.names rfl hlt
          have hmem : S[i] ∈ st.sets := by rw [HSE.out];exact List.getElem_mem hlt
          obtain ⟨y,hy⟩ : ∃ y,S[i] = y := ⟨_,rfl⟩
          rw [hy] at hcell hmem
          by_cases hne : y.name = a.c.s.name
          ·have hnm : (y.name.toList == a.c.s.name.toList) = true := by rw [str_beq];exact decide_eq_true hne
           have HI := Lib.hid hI
           have HK := Lib.hid hkr
           have HX := Lib.hid hX
           clear hI hkr hX hmem hy hne
           go_wp2_with fail
           go_roundw
           case rel => exact ⟨i + 1,by omega,by go_num,HI.out,HK.out,HX.out⟩
           case measure => simp [intOf];omega
          have hnm : (y.name.toList == a.c.s.name.toList) = false := by rw [str_beq];exact decide_eq_false hne
          obtain ⟨f1,f2⟩ := HO.out.others hI.ok hmem (fun h => hne h.1)
          clear hne
          have hG := (stGet w.heap.size D M' st' r' y.name _ hI.store hI.ok).mono fun _ _ hp => get_at hp f1
          have HI := Lib.hid hI
          have HK := Lib.hid hkr
          have HX := Lib.hid hX
          have HF2 := Lib.hid f2
          have HY := Lib.hid hy
          clear hI hkr hX f1 f2 hmem hy
          go_wp2_with fail
          refine hG.mono ?_
          rintro e w7 ⟨hb7,⟨s,al,cl,ai,ci,ab,cb⟩,rfl,hs,ho7⟩
          simp only at hs
          subst hs
          have ha := (Below.refl w7.heap.size w7).alloc (Nat.le_refl _) (.cells #[.string s.name,.int .i64 s.depth,.int .i64 s.low,.int .i64 s.high,.int .i64 s.len,.slice al s.lines.length cl,.int .i64 s.pipe,.int .i64 s.arbor,.int .i64 s.purch,.int .i64 s.most,.int .i64 s.brake,.slice ai s.items.length ci,.slice ab s.bricks.length cb] 26)
          have hb7a := hb7.trans (ha.mono hb7.size)
          have hI8 := HI.out.below hb7a
          have HI8 := Lib.hid hI8
          have HK8 := Lib.hid (own_belowL HK.out hb7a)
          have HX8 := Lib.hid (HX.out.below hb7a HX.out.lt)
          have HY8 := Lib.hid (Blk.new w7 26 #[.string s.name,.int .i64 s.depth,.int .i64 s.low,.int .i64 s.high,.int .i64 s.len,.slice al s.lines.length cl,.int .i64 s.pipe,.int .i64 s.arbor,.int .i64 s.purch,.int .i64 s.most,.int .i64 s.brake,.slice ai s.items.length ci,.slice ab s.bricks.length cb])
          have HO8 := Lib.hid ((own_mono3 ho7 HI.out.bel.size).chg (ChgS.of_below ha (Nat.zero_le _)))
          have hF := stFresh w.heap.size D M' st' r' s.name _ hI8.store hI8.ok (HT.out _ hI8.bel)
          rw [HF2.out] at hF
          clear ha hb7 hb7a ho7 hG HI hI8 HK HX p0 p1 p2 p3 p4 p5 p6 p7 p8 p9 p10 p11 p12 p13
          unfold SetC.val setVal at *
          go_wp2_with fail
          refine hF.mono ?_
          rintro e w10 ⟨rfl,hb9⟩
          have hI10 := HI8.out.below hb9
          have HI10 := Lib.hid hI10
          have HK10 := Lib.hid (own_belowL HK8.out hb9)
          have HX10 := Lib.hid (HX8.out.below hb9 HX8.out.lt)
          have HY10 := Lib.hid (HY8.out.below hb9 HY8.out.lt)
          have HO10 := Lib.hid (HO8.out.chg (ChgS.of_below hb9 (Nat.zero_le _)))
          clear hb9 hF HI8 HK8 HX8 HY8 HO8
          have hil : i < LS.length := by have := HL3.out;omega
          obtain ⟨_,_,e,hsv⟩ := hI10.saved.open_
          injection e with e1 _ e2
          subst e1 e2
          obtain ⟨b2,off2,rfl,hb2,hsc⟩ := hsv i hil
          have hcm := hI10.saved.sets _ (List.getElem_mem hil)
          have hcs : LS[i].s = s := by
           have h1 : (LS.map SetC.s)[i]? = S[i]? := by rw [HLs.out]
           rw [List.getElem?_map,List.getElem?_eq_getElem hil,List.getElem?_eq_getElem hlt,HY.out] at h1
           simpa using h1
          generalize LS[i] = z at *
          obtain ⟨s',al',cl',ai',ci',ab',cb'⟩ := z
          simp only at hcs
          subst hcs
          have HHE := Lib.hid fun W (hb : Below w10.heap.size w10 W) => refSame21 (setVal s' al cl ai ci ab cb) (setVal s' al' cl' ai' ci' ab' cb') s' s' W ((HO10.out.chg (ChgS.of_below hb (Nat.zero_le _))).set) ((hcm.chg (ChgS.of_below hb (Nat.zero_le _))).set)
          rw [decide_eq_true rfl] at HHE
          unfold setVal at HHE
          have hSm := fun x => HeldB.call HHE.out x
          obtain ⟨b3,rfl,hkc⟩ := bool_cell HK10.out (by simp) (by simpa using hlt)
          rw [show ((S.map fun y => decide (y ∈ st.known))[i]'(by simpa using hlt)) = decide (s' ∈ st.known) by rw [List.getElem_map,HY.out]] at hkc
          have hk0 := HeldB.cell hkc
          generalize decide (s' ∈ st.known) = bk at *
          have nb : (!(bk == bk)) = false := by cases bk <;> rfl
          have nb2 : (bk != bk) = false := by cases bk <;> rfl
          have x0 := hsc 0 _ rfl;rw [Nat.add_zero] at x0
          have x1 := hsc 1 _ rfl
          have x2 := hsc 2 _ rfl
          have x3 := hsc 3 _ rfl
          have x4 := hsc 4 _ rfl
          have x5 := hsc 5 _ rfl
          have x6 := hsc 6 _ rfl
          have x7 := hsc 7 _ rfl
          have x8 := hsc 8 _ rfl
          have x9 := hsc 9 _ rfl
          have x10 := hsc 10 _ rfl
          have x11 := hsc 11 _ rfl
          have x12 := hsc 12 _ rfl
          have z0 := HY10.out.cell 0
          have z1 := HY10.out.cell 1
          have z2 := HY10.out.cell 2
          have z3 := HY10.out.cell 3
          have z4 := HY10.out.cell 4
          have z5 := HY10.out.cell 5
          have z6 := HY10.out.cell 6
          have z7 := HY10.out.cell 7
          have z8 := HY10.out.cell 8
          have z9 := HY10.out.cell 9
          have z10 := HY10.out.cell 10
          have z11 := HY10.out.cell 11
          have z12 := HY10.out.cell 12
          simp only [List.getElem?_toArray,List.getElem?_cons_succ,List.getElem?_cons_zero] at z0 z1 z2 z3 z4 z5 z6 z7 z8 z9 z10 z11 z12
          have p0 := HeldB.cell x0
          have p1 := HeldB.cell x1
          have p2 := HeldB.cell x2
          have p3 := HeldB.cell x3
          have p4 := HeldB.cell x4
          have p5 := HeldB.cell x5
          have p6 := HeldB.cell x6
          have p7 := HeldB.cell x7
          have p8 := HeldB.cell x8
          have p9 := HeldB.cell x9
          have p10 := HeldB.cell x10
          have p11 := HeldB.cell x11
          have p12 := HeldB.cell x12
          have q0 := HeldB.cell z0
          have q1 := HeldB.cell z1
          have q2 := HeldB.cell z2
          have q3 := HeldB.cell z3
          have q4 := HeldB.cell z4
          have q5 := HeldB.cell z5
          have q6 := HeldB.cell z6
          have q7 := HeldB.cell z7
          have q8 := HeldB.cell z8
          have q9 := HeldB.cell z9
          have q10 := HeldB.cell z10
          have q11 := HeldB.cell z11
          have q12 := HeldB.cell z12
          clear hsc hcm hI10 HHE HY hkc x0 x1 x2 x3 x4 x5 x6 x7 x8 x9 x10 x11 x12 z0 z1 z2 z3 z4 z5 z6 z7 z8 z9 z10 z11 z12
          go_wp2_with fail
          refine wp_region_heldb (by kernel_rfl) (by kernel_rfl) ?_
          repeat (go_big_quiet_step ((go_at_call 29;exact hSm _)))
          refine wpQuiet_nil ?_
          rintro _ ⟨⟨w11,hb11⟩,rfl⟩
          have HI11 := Lib.hid (HI10.out.below hb11)
          have HK11 := Lib.hid (own_belowL HK10.out hb11)
          have HX11 := Lib.hid (HX10.out.below hb11 HX10.out.lt)
          clear hb11 p0 p1 p2 p3 p4 p5 p6 p7 p8 p9 p10 p11 p12 q0 q1 q2 q3 q4 q5 q6 q7 q8 q9 q10 q11 q12 hSm HI10 HX10 HO10 HK10 HY10 hk0 nb nb2
          go_wp2_with fail
          go_roundw
          case rel => exact ⟨i + 1,by omega,by go_num,HI11.out,HK11.out,HX11.out⟩
          case measure => simp [intOf];omega
         ·have hie : i = S.length := by omega
          subst hie
          have HI := Lib.hid hI
          have HX := Lib.hid hX
          have hG := stGet w.heap.size D M' st' r' a.c.s.name _ hI.store hI.ok
          have hG := hG.mono fun _ _ hp => get_at hp (HO.out.getLast hI.ok rfl (by simpa using be))
          clear hI hkr hX
          go_wp2_with fail
          refine hG.mono ?_
          rintro e w7 ⟨hb7,⟨s,al,cl,ai,ci,ab,cb⟩,rfl,hs,ho7⟩
          simp only at hs
          have ha := (Below.refl w7.heap.size w7).alloc (Nat.le_refl _) (.cells #[.string s.name,.int .i64 s.depth,.int .i64 s.low,.int .i64 s.high,.int .i64 s.len,.slice al s.lines.length cl,.int .i64 s.pipe,.int .i64 s.arbor,.int .i64 s.purch,.int .i64 s.most,.int .i64 s.brake,.slice ai s.items.length ci,.slice ab s.bricks.length cb] 26)
          have hb7a := hb7.trans (ha.mono hb7.size)
          have HI8 := Lib.hid (HI.out.below hb7a)
          have HX8 := HX.out.below hb7a HX.out.lt
          have HY8 := Blk.new w7 26 #[.string s.name,.int .i64 s.depth,.int .i64 s.low,.int .i64 s.high,.int .i64 s.len,.slice al s.lines.length cl,.int .i64 s.pipe,.int .i64 s.arbor,.int .i64 s.purch,.int .i64 s.most,.int .i64 s.brake,.slice ai s.items.length ci,.slice ab s.bricks.length cb]
          have hS8 := refSame21 (setVal s al cl ai ci ab cb) a.c.val s a.c.s _ ((ho7.chg (ChgS.of_below ha (Nat.zero_le _))).set) (HXs.out _ HI8.out.bel)
          rw [decide_eq_true hs] at hS8
          clear hb7 ha hb7a ho7 hG hs p0 p1 p2 p3 p4 p5 p6 p7 p8 p9 p10 p11 p12 p13
          have p0 := HX8.cell 0
          have p1 := HX8.cell 1
          have p2 := HX8.cell 2
          have p3 := HX8.cell 3
          have p4 := HX8.cell 4
          have p5 := HX8.cell 5
          have p6 := HX8.cell 6
          have p7 := HX8.cell 7
          have p8 := HX8.cell 8
          have p9 := HX8.cell 9
          have p10 := HX8.cell 10
          have p11 := HX8.cell 11
          have p12 := HX8.cell 12
          have p13 := HX8.cell 13
          simp only [List.getElem?_toArray,List.getElem?_cons_succ,List.getElem?_cons_zero] at p0 p1 p2 p3 p4 p5 p6 p7 p8 p9 p10 p11 p12 p13
          have q0 := HY8.cell 0
          have q1 := HY8.cell 1
          have q2 := HY8.cell 2
          have q3 := HY8.cell 3
          have q4 := HY8.cell 4
          have q5 := HY8.cell 5
          have q6 := HY8.cell 6
          have q7 := HY8.cell 7
          have q8 := HY8.cell 8
          have q9 := HY8.cell 9
          have q10 := HY8.cell 10
          have q11 := HY8.cell 11
          have q12 := HY8.cell 12
          simp only [List.getElem?_toArray,List.getElem?_cons_succ,List.getElem?_cons_zero] at q0 q1 q2 q3 q4 q5 q6 q7 q8 q9 q10 q11 q12
          unfold SetC.val setVal at *
          go_wp2_with fail
          refine hS8.mono ?_
          rintro e w9 ⟨rfl,hb9⟩
          have HB9 := Lib.hid (HI8.out.bel.trans (hb9.mono HI8.out.bel.size))
          go_wp2_with fail
          go_ret
          exact ⟨rfl,HB9.out⟩
set_option maxRecDepth 100000 in
set_option maxHeartbeats 16000000 in
theorem lawOthersDrop (v0 : Value) (F : List ActC) (a : ActC) (w : World) (hpb : (a.kind.tmod 2 == 0) = false) (h0 : ActsAt w w.heap.size v0 F) (hs : SetAt w w.heap.size a.c.val a.c.s) (hn : SetNames a.c.s) (ht : Tab w) :
  Calls Tryz.prog 9 #[v0,a.val] w fun e w' => e = .returned (.bool true) ∧ Below w.heap.size w w' := by
 have HT := Lib.hid fun W (hb : Below w.heap.size w W) => ht.below hb
 have HLg0 := Lib.hid fun W (hb : Below w.heap.size w W) => large49 v0 F W ((h0.below hb (Nat.le_refl _)).mono hb.size)
 have HAc0 := Lib.hid fun t (hm : t ∈ F) W (hb : Below w.heap.size w W) => ((h0.2 t hm).1.below hb (Nat.le_refl _)).mono hb.size
 have HNm0 := Lib.hid fun t (hm : t ∈ F) => (h0.2 t hm).2
 have HXs := Lib.hid fun W (hb : Below w.heap.size w W) => (hs.below hb (Nat.le_refl _)).mono hb.size
 have HXn := Lib.hid hn
 have hba := (Below.refl _ w).alloc (Nat.le_refl _) (.cells #[.int .i64 a.kind,.string a.c.s.name,.int .i64 a.c.s.depth,.int .i64 a.c.s.low,.int .i64 a.c.s.high,.int .i64 a.c.s.len,.slice a.c.al a.c.s.lines.length a.c.cl,.int .i64 a.c.s.pipe,.int .i64 a.c.s.arbor,.int .i64 a.c.s.purch,.int .i64 a.c.s.most,.int .i64 a.c.s.brake,.slice a.c.ai a.c.s.items.length a.c.ci,.slice a.c.ab a.c.s.bricks.length a.c.cb] 71)
 have hAw := lawAwake49 (w.alloc (.cells #[.int .i64 a.kind,.string a.c.s.name,.int .i64 a.c.s.depth,.int .i64 a.c.s.low,.int .i64 a.c.s.high,.int .i64 a.c.s.len,.slice a.c.al a.c.s.lines.length a.c.cl,.int .i64 a.c.s.pipe,.int .i64 a.c.s.arbor,.int .i64 a.c.s.purch,.int .i64 a.c.s.most,.int .i64 a.c.s.brake,.slice a.c.ai a.c.s.items.length a.c.ci,.slice a.c.ab a.c.s.bricks.length a.c.cb] 71)) (HT.out _ hba)
 have HBa := Lib.hid hba
 have HXa := Lib.hid (Blk.new w 71 #[.int .i64 a.kind,.string a.c.s.name,.int .i64 a.c.s.depth,.int .i64 a.c.s.low,.int .i64 a.c.s.high,.int .i64 a.c.s.len,.slice a.c.al a.c.s.lines.length a.c.cl,.int .i64 a.c.s.pipe,.int .i64 a.c.s.arbor,.int .i64 a.c.s.purch,.int .i64 a.c.s.most,.int .i64 a.c.s.brake,.slice a.c.ai a.c.s.items.length a.c.ci,.slice a.c.ab a.c.s.bricks.length a.c.cb])
 obtain ⟨A0,c0,rfl,hc01,hc02,hcell0⟩ := h0.open_
 unfold maxLen at hc02
 have HC0 := Lib.hid hcell0
 clear hcell0 h0 ht hs hn hba
 unfold ActC.val ActC.cells SetC.cells
 go_enter Tryz.func9,Tryz.ntmps9
 go_wp2_with fail
 generalize (w.alloc (.cells #[.int .i64 a.kind,.string a.c.s.name,.int .i64 a.c.s.depth,.int .i64 a.c.s.low,.int .i64 a.c.s.high,.int .i64 a.c.s.len,.slice a.c.al a.c.s.lines.length a.c.cl,.int .i64 a.c.s.pipe,.int .i64 a.c.s.arbor,.int .i64 a.c.s.purch,.int .i64 a.c.s.most,.int .i64 a.c.s.brake,.slice a.c.ai a.c.s.items.length a.c.ci,.slice a.c.ab a.c.s.bricks.length a.c.cb] 71)) = w0 at *
 refine hAw.mono ?_
 rintro e w1 ⟨rfl,hb1⟩
 have HB1 := Lib.hid (HBa.out.trans (hb1.mono HBa.out.size))
 have HX1 := Lib.hid (HXa.out.below hb1 HXa.out.lt)
 have hLg := HLg0.out w1 HB1.out
 clear HLg0 hAw hb1 HBa HXa
 go_wp2_with fail
 refine hLg.mono ?_
 rintro e w2 ⟨q,rfl,hb2,h12⟩
 have HB2 := Lib.hid (HB1.out.trans (hb2.mono HB1.out.size))
 have HX2 := Lib.hid (HX1.out.below hb2 HX1.out.lt)
 have H12 := Lib.hid h12
 clear hb2 h12 hLg HB1 HX1
 cases q with
 | true =>
  go_wp2_with fail
  go_ret
  exact ⟨rfl,HB2.out⟩
 | false =>
  have HF12 := Lib.hid (H12.out rfl)
  have ha := (Below.refl w2.heap.size w2).alloc (Nat.le_refl _) (.cells #[.int .i64 a.kind,.string a.c.s.name,.int .i64 a.c.s.depth,.int .i64 a.c.s.low,.int .i64 a.c.s.high,.int .i64 a.c.s.len,.slice a.c.al a.c.s.lines.length a.c.cl,.int .i64 a.c.s.pipe,.int .i64 a.c.s.arbor,.int .i64 a.c.s.purch,.int .i64 a.c.s.most,.int .i64 a.c.s.brake,.slice a.c.ai a.c.s.items.length a.c.ci,.slice a.c.ab a.c.s.bricks.length a.c.cb] 71)
  have HB3 := Lib.hid (HB2.out.trans (ha.mono HB2.out.size))
  have HX3 := Lib.hid (HX2.out.below ha HX2.out.lt)
  have hLg := large49 (.slice (some ⟨w2.heap.size,0,none⟩) 1 1) [a] (w2.alloc (.cells #[.int .i64 a.kind,.string a.c.s.name,.int .i64 a.c.s.depth,.int .i64 a.c.s.low,.int .i64 a.c.s.high,.int .i64 a.c.s.len,.slice a.c.al a.c.s.lines.length a.c.cl,.int .i64 a.c.s.pipe,.int .i64 a.c.s.arbor,.int .i64 a.c.s.purch,.int .i64 a.c.s.most,.int .i64 a.c.s.brake,.slice a.c.ai a.c.s.items.length a.c.ci,.slice a.c.ab a.c.s.bricks.length a.c.cb] 71)) (acts_one w2 a (HXs.out _ HB3.out) HXn.out)
  clear H12 ha
  have p0 := HX2.out.cell 0
  have p1 := HX2.out.cell 1
  have p2 := HX2.out.cell 2
  have p3 := HX2.out.cell 3
  have p4 := HX2.out.cell 4
  have p5 := HX2.out.cell 5
  have p6 := HX2.out.cell 6
  have p7 := HX2.out.cell 7
  have p8 := HX2.out.cell 8
  have p9 := HX2.out.cell 9
  have p10 := HX2.out.cell 10
  have p11 := HX2.out.cell 11
  have p12 := HX2.out.cell 12
  have p13 := HX2.out.cell 13
  simp only [List.getElem?_toArray,List.getElem?_cons_succ,List.getElem?_cons_zero] at p0 p1 p2 p3 p4 p5 p6 p7 p8 p9 p10 p11 p12 p13
  go_wp2_with fail
  refine hLg.mono ?_
  rintro e w4 ⟨q,rfl,hb4,-⟩
  have HB4 := Lib.hid (HB3.out.trans (hb4.mono HB3.out.size))
  have HX4 := Lib.hid (HX3.out.below hb4 HX3.out.lt)
  clear hb4 hLg HB3 HX3 HB2 HX2 p0 p1 p2 p3 p4 p5 p6 p7 p8 p9 p10 p11 p12 p13
  cases q with
  | true =>
   go_wp2_with fail
   go_ret
   exact ⟨rfl,HB4.out⟩
  | false =>
   go_wp2_with fail
   refine (stNew w.heap.size w4 HB4.out.size).mono ?_
   rintro e w3 ⟨D,rfl,hb3,hS3⟩
   have HB3 := Lib.hid (HB4.out.trans (hb3.mono HB4.out.size))
   have HX3 := Lib.hid (HX4.out.below hb3 HX4.out.lt)
   have HS3 := Lib.hid hS3
   clear hb3 hS3 HB4 HX4
   go_wp2_with fail
   go_loopw [43] (fun x wr => ∃ (j : Nat) (M : Nat → Prop) (r : StR),j ≤ F.length ∧ x = .int .i64 j ∧ Below w.heap.size w wr ∧ StoreAt wr w.heap.size D M (actsTo F j) r ∧ Blk wr w.heap.size 71 #[.int .i64 a.kind,.string a.c.s.name,.int .i64 a.c.s.depth,.int .i64 a.c.s.low,.int .i64 a.c.s.high,.int .i64 a.c.s.len,.slice a.c.al a.c.s.lines.length a.c.cl,.int .i64 a.c.s.pipe,.int .i64 a.c.s.arbor,.int .i64 a.c.s.purch,.int .i64 a.c.s.most,.int .i64 a.c.s.brake,.slice a.c.ai a.c.s.items.length a.c.ci,.slice a.c.ab a.c.s.bricks.length a.c.cb]) (fun x _ => F.length - (intOf x).toNat)
   case atStart => exact ⟨0,_,_,Nat.zero_le _,rfl,HB3.out,HS3.out,HX3.out⟩
   case round =>
    obtain ⟨j,M,r,hj,rfl,hbel,hS,hX⟩ := hrel
    have HBl := Lib.hid hbel
    have HX := Lib.hid hX
    clear hbel hX
    by_cases hlt : j < F.length
    ·obtain ⟨b,off,rfl,hb,hcell⟩ := HC0.out j hlt
     have h0 := (HBl.out.cell (p := ⟨b,off + j * 14,none⟩) hb).trans (hcell j hlt 0 _ rfl)
     have h1 := (HBl.out.cell (p := ⟨b,off + j * 14 + 1,none⟩) hb).trans (hcell j hlt 1 _ rfl)
     have h2 := (HBl.out.cell (p := ⟨b,off + j * 14 + 2,none⟩) hb).trans (hcell j hlt 2 _ rfl)
     have h3 := (HBl.out.cell (p := ⟨b,off + j * 14 + 3,none⟩) hb).trans (hcell j hlt 3 _ rfl)
     have h4 := (HBl.out.cell (p := ⟨b,off + j * 14 + 4,none⟩) hb).trans (hcell j hlt 4 _ rfl)
     have h5 := (HBl.out.cell (p := ⟨b,off + j * 14 + 5,none⟩) hb).trans (hcell j hlt 5 _ rfl)
     have h6 := (HBl.out.cell (p := ⟨b,off + j * 14 + 6,none⟩) hb).trans (hcell j hlt 6 _ rfl)
     have h7 := (HBl.out.cell (p := ⟨b,off + j * 14 + 7,none⟩) hb).trans (hcell j hlt 7 _ rfl)
     have h8 := (HBl.out.cell (p := ⟨b,off + j * 14 + 8,none⟩) hb).trans (hcell j hlt 8 _ rfl)
     have h9 := (HBl.out.cell (p := ⟨b,off + j * 14 + 9,none⟩) hb).trans (hcell j hlt 9 _ rfl)
     have h10 := (HBl.out.cell (p := ⟨b,off + j * 14 + 10,none⟩) hb).trans (hcell j hlt 10 _ rfl)
     have h11 := (HBl.out.cell (p := ⟨b,off + j * 14 + 11,none⟩) hb).trans (hcell j hlt 11 _ rfl)
     have h12 := (HBl.out.cell (p := ⟨b,off + j * 14 + 12,none⟩) hb).trans (hcell j hlt 12 _ rfl)
     have h13 := (HBl.out.cell (p := ⟨b,off + j * 14 + 13,none⟩) hb).trans (hcell j hlt 13 _ rfl)
     clear hcell
     have hbel := HBl.out
     have ha := fun o => (Below.refl wr.heap.size wr).alloc (Nat.le_refl _) o
     have hm := List.getElem_mem hlt
     obtain ⟨g1,g2,-⟩ := actsTo_ok F j hj
     have hsm := g2.mono (Nat.le_trans hj (Nat.le_trans HF12.out (by decide : 12 ≤ 1000)))
     have HE := Lib.hid (actsTo_succ hlt)
     have HP := Lib.hid fun o => plain49 w.heap.size D M (actsTo F j) r F[j] (wr.alloc o) (hS.below (ha o)) g1 (HT.out _ (hbel.trans ((ha o).mono hbel.size))) (HAc0.out _ hm _ (hbel.trans ((ha o).mono hbel.size))) (HNm0.out _ hm) hsm
     have HBe := Lib.hid fun o => hbel.trans ((ha o).mono hbel.size)
     have HXe := Lib.hid fun o => HX.out.below (ha o) HX.out.lt
     clear ha hm g1 g2 hsm hS hbel
     generalize F[j] = t at *
     have hP := HP.out (.cells #[.int .i64 t.kind,.string t.c.s.name,.int .i64 t.c.s.depth,.int .i64 t.c.s.low,.int .i64 t.c.s.high,.int .i64 t.c.s.len,.slice t.c.al t.c.s.lines.length t.c.cl,.int .i64 t.c.s.pipe,.int .i64 t.c.s.arbor,.int .i64 t.c.s.purch,.int .i64 t.c.s.most,.int .i64 t.c.s.brake,.slice t.c.ai t.c.s.items.length t.c.ci,.slice t.c.ab t.c.s.bricks.length t.c.cb] 71)
     clear HP
     go_wp2_with fail
     refine hP.mono ?_
     rintro e w5 ⟨rfl,hc5,M5,r5,hS5,-⟩
     rw [← HE.out] at hS5
     have HS5 := Lib.hid hS5
     have HB5 := Lib.hid ((HBe.out _).trans hc5.bel)
     have HX5 := Lib.hid ((HXe.out _).chg hc5 (by decide) (by decide))
     clear hS5 hc5 hP HBe HE HXe h0 h1 h2 h3 h4 h5 h6 h7 h8 h9 h10 h11 h12 h13
     go_wp2_with fail
     go_roundw
     case rel => exact ⟨j + 1,M5,r5,by omega,by go_num,HB5.out,HS5.out,HX5.out⟩
     case measure => simp [intOf];omega
    ·have hje : j = F.length := by omega
     subst hje
     obtain ⟨g1,g2,g3⟩ := actsTo_ok F F.length (Nat.le_refl _)
     have hbel := HBl.out
     have hn := (stNames w.heap.size D M (actsTo F F.length) r wr hS g1)
     have HS := Lib.hid hS
     have HB := Lib.hid hbel
     have HG1 := Lib.hid g1
     have HG2 := Lib.hid (g2.mono HF12.out)
     have HN12 := Lib.hid (Nat.le_trans g3.sets HF12.out)
     have hgt : decide (F.length < (actsTo F F.length).sets.length) = false := decide_eq_false (by have := g3.sets;omega)
     clear g1 g2 g3 hS hbel HC0 HS3 HB3 HX3 HAc0 HNm0 HBl
     generalize actsTo F F.length = st at *
     go_wp2_with fail
     refine hn.mono ?_
     rintro e w6 ⟨hb6,v6,rfl,ho6⟩
     obtain ⟨A6,c6,rfl⟩ := own_formB ho6
     obtain ⟨_,_,e6,hq1,hq2,-⟩ := Flat.of_own ho6
     injection e6 with e61 _ e62
     subst e61 e62
     unfold maxLen at hq2
     have HI6 : Hid (Und49 w w6 D (.slice A6 st.sets.length c6) (.slice none 0 0) M st r st.sets [] 12) := ⟨HB.out.trans (hb6.mono HB.out.size),HS.out.below hb6,HG1.out,HG2.out,own_mono ho6 HB.out.size,SavedAt.nil⟩
     have HX6 := Lib.hid (HX.out.below hb6 HX.out.lt)
     clear ho6 hb6 hn HS HB HG1 HG2 HX
     have hSl := HN12.out
     clear HN12
     obtain ⟨S,hSe⟩ : ∃ S,st.sets = S := ⟨_,rfl⟩
     rw [hSe] at HI6 hgt hSl hq1
     rw [hSe]
     have HSE := Lib.hid hSe
     clear hSe
     go_wp2_with fail
     go_loopw [60,9,10] (fun x sv kv wq => ∃ (j : Nat) (LS : List SetC),j ≤ S.length ∧ x = .int .i64 j ∧ Und49 w wq D (.slice A6 S.length c6) sv M st r S LS 12 ∧ LS.map SetC.s = S.take j ∧ KnownRow wq w.heap.size M kv j ((S.take j).map fun y => decide (y ∈ st.known)) ∧ Blk wq w.heap.size 71 #[.int .i64 a.kind,.string a.c.s.name,.int .i64 a.c.s.depth,.int .i64 a.c.s.low,.int .i64 a.c.s.high,.int .i64 a.c.s.len,.slice a.c.al a.c.s.lines.length a.c.cl,.int .i64 a.c.s.pipe,.int .i64 a.c.s.arbor,.int .i64 a.c.s.purch,.int .i64 a.c.s.most,.int .i64 a.c.s.brake,.slice a.c.ai a.c.s.items.length a.c.ci,.slice a.c.ab a.c.s.bricks.length a.c.cb]) (fun x _ _ _ => S.length - (intOf x).toNat)
     case atStart => exact ⟨0,_,Nat.zero_le _,rfl,HI6.out,rfl,KnownRow.nil,HX6.out⟩
     case round =>
      clear HI6 HX6
      obtain ⟨j,LS,hj,rfl,hI,hls,hkr,hX⟩ := hrel
      have hlsl : LS.length = j := by have := congrArg List.length hls;simpa [Nat.min_eq_left hj] using this
      obtain ⟨As,cs,rfl,-⟩ := hI.saved.open_
      obtain ⟨Ak,ck,rfl⟩ := own_formB hkr.own
      by_cases hlt : j < S.length
      ·have hlt' : j < st.sets.length := by rw [HSE.out];exact hlt
       obtain ⟨b,off,rfl,hcell⟩ := names_cell hI.names rfl hlt
       obtain ⟨x,hx,hxe,f1,f2⟩ := oth_round hI.ok hlt'
       have hxe' : S[j] = x := by rw [← hxe];congr 1;exact HSE.out.symm
       have HTk : Hid (S.take (j + 1) = S.take j ++ [x]) := by rw [← hxe'];exact take_snoc S j hlt
       rw [hxe'] at hcell
       have hG := (stGet w.heap.size D M st r x.name _ hI.store hI.ok).mono fun _ _ hp => get_at hp f1
       have HI := Lib.hid hI
       have HF2 := Lib.hid f2
       have HLs := Lib.hid hls
       have HLl := Lib.hid hlsl
       have HKr := Lib.hid hkr
       have HX := Lib.hid hX
       clear hI f1 f2 hls hxe hxe' hx hlsl hkr hX
       go_wp2_with fail
       refine hG.mono ?_
       rintro e w7 ⟨hb7,⟨s,al,cl,ai,ci,ab,cb⟩,rfl,hs,ho7⟩
       simp only at hs
       subst hs
       have ha := (Below.refl w7.heap.size w7).alloc (Nat.le_refl _) (.cells #[.string s.name,.int .i64 s.depth,.int .i64 s.low,.int .i64 s.high,.int .i64 s.len,.slice al s.lines.length cl,.int .i64 s.pipe,.int .i64 s.arbor,.int .i64 s.purch,.int .i64 s.most,.int .i64 s.brake,.slice ai s.items.length ci,.slice ab s.bricks.length cb] 26)
       have hb7a := hb7.trans (ha.mono hb7.size)
       have hI8 := HI.out.below hb7a
       have HI8 := Lib.hid hI8
       have HK8 := Lib.hid (HKr.out.below hb7a)
       have HX8 := Lib.hid (HX.out.below hb7a HX.out.lt)
       have HY8 := Lib.hid (Blk.new w7 26 #[.string s.name,.int .i64 s.depth,.int .i64 s.low,.int .i64 s.high,.int .i64 s.len,.slice al s.lines.length cl,.int .i64 s.pipe,.int .i64 s.arbor,.int .i64 s.purch,.int .i64 s.most,.int .i64 s.brake,.slice ai s.items.length ci,.slice ab s.bricks.length cb])
       have HO8 := Lib.hid ((own_mono3 ho7 HI.out.bel.size).chg (ChgS.of_below ha (Nat.zero_le _)))
       have hF := stFresh w.heap.size D M st r s.name _ hI8.store hI8.ok (HT.out _ hI8.bel)
       rw [HF2.out] at hF
       clear ha hb7 hb7a ho7 hG HI hI8 HKr HX
       unfold SetC.val setVal at *
       go_wp2_with fail
       refine hF.mono ?_
       rintro e w9 ⟨rfl,hb9⟩
       have HI9 := Lib.hid (HI8.out.below hb9)
       have HK9 := Lib.hid (HK8.out.below hb9)
       have HX9 := Lib.hid (HX8.out.below hb9 HX8.out.lt)
       have HY9 := Lib.hid (HY8.out.below hb9 HY8.out.lt)
       have HO9 := Lib.hid (HO8.out.chg (ChgS.of_below hb9 (Nat.zero_le _)))
       clear hb9 hF HI8 HK8 HX8 HY8 HO8
       have p0 := HY9.out.cell 0
       have p1 := HY9.out.cell 1
       have p2 := HY9.out.cell 2
       have p3 := HY9.out.cell 3
       have p4 := HY9.out.cell 4
       have p5 := HY9.out.cell 5
       have p6 := HY9.out.cell 6
       have p7 := HY9.out.cell 7
       have p8 := HY9.out.cell 8
       have p9 := HY9.out.cell 9
       have p10 := HY9.out.cell 10
       have p11 := HY9.out.cell 11
       have p12 := HY9.out.cell 12
       simp only [List.getElem?_toArray,List.getElem?_cons_succ,List.getElem?_cons_zero] at p0 p1 p2 p3 p4 p5 p6 p7 p8 p9 p10 p11 p12
       have ha := (Below.refl w9.heap.size w9).alloc (Nat.le_refl _) (.cells #[.string s.name,.int .i64 s.depth,.int .i64 s.low,.int .i64 s.high,.int .i64 s.len,.slice al s.lines.length cl,.int .i64 s.pipe,.int .i64 s.arbor,.int .i64 s.purch,.int .i64 s.most,.int .i64 s.brake,.slice ai s.items.length ci,.slice ab s.bricks.length cb] 26)
       have HIa := Lib.hid (HI9.out.below ha)
       have HKa := Lib.hid (HK9.out.below ha)
       have HXa := Lib.hid (HX9.out.below ha HX9.out.lt)
       have HOa := Lib.hid (HO9.out.chg (ChgS.of_below ha (Nat.zero_le _)))
       have Hnew := Lib.hid (World.news_of_block (Blk.new w9 26 #[.string s.name,.int .i64 s.depth,.int .i64 s.low,.int .i64 s.high,.int .i64 s.len,.slice al s.lines.length cl,.int .i64 s.pipe,.int .i64 s.arbor,.int .i64 s.purch,.int .i64 s.most,.int .i64 s.brake,.slice ai s.items.length ci,.slice ab s.bricks.length cb]))
       have hsz := HIa.out.bel.size
       have HOw := Lib.hid HIa.out.saved.own
       have hls12 : LS.length ≤ 12 := by have := HLl.out;omega
       have hj12 : j ≤ 12 := by omega
       generalize hbk : decide (s ∈ st.known) = bk at *
       have HBk := Lib.hid hbk
       obtain ⟨iF,hiF,hzF0,hzF1,hzF2⟩ := info_parts info_setc
       clear ha HI9 HX9 HO9 HK9 HY9 hbk
       go_wp2_with (first
        | (at_builtin;refine wpList_append_lies _ rfl (.tmp 82) (.tmp 84) 66 rfl w.heap.size 26 iF (.agg #[.string ⟨#[]⟩,.int .i64 0,.int .i64 0,.int .i64 0,.int .i64 0,.slice none 0 0,.int .i64 0,.int .i64 0,.int .i64 0,.int .i64 0,.int .i64 0,.slice none 0 0,.slice none 0 0]) 13 160 Tryz.underlying66 hiF hzF0 hzF1 hzF2 rfl (by decide) _ _ _ rfl HOw.out ⟨w9.heap.size,0,none⟩ 1 1 [.string s.name,.int .i64 s.depth,.int .i64 s.low,.int .i64 s.high,.int .i64 s.len,.slice al s.lines.length cl,.int .i64 s.pipe,.int .i64 s.arbor,.int .i64 s.purch,.int .i64 s.most,.int .i64 s.brake,.slice ai s.items.length ci,.slice ab s.bricks.length cb] rfl rfl Hnew.out (by simp [Value.oneCell']) (by decide) (by unfold maxLen;omega) (by omega) hsz _ rfl ?_;intro g' cap' w10 hown' hgrow hgg hgl;have HP10 : Hid (SavedAt w10 w.heap.size M (.slice (some ⟨g',0,none⟩) (LS.length + 1) cap') (LS ++ [(⟨s,al,cl,ai,ci,ab,cb⟩ : SetC)])) := HIa.out.saved.push HOa.out rfl HIa.out.store.lt (Nat.le_refl _) hown' hgrow hgg;have HI10 : Hid (Und49 w w10 D (.slice (some ⟨b,off,none⟩) S.length c6) (.slice (some ⟨g',0,none⟩) (LS.length + 1) cap') M st r S (LS ++ [(⟨s,al,cl,ai,ci,ab,cb⟩ : SetC)]) 12) := ⟨HIa.out.bel.grown hgrow hsz (fun k e => (HOw.out.lt k e).1),store_rowE HIa.out.store HOw.out (by decide) (by decide) HIa.out.saved.out hgrow,HIa.out.ok,HIa.out.small,row_row HOw.out hgrow HIa.out.names (by decide),HP10.out⟩;have HK10 : Hid (KnownRow w10 w.heap.size M (.slice Ak j ck) j ((S.take j).map fun y => decide (y ∈ st.known))) := HKa.out.row HOw.out hgrow (by decide);have HX10 := Lib.hid (blk_row HOw.out hgrow HXa.out (by decide));have hsz10 := HI10.out.bel.size;clear hown' hgrow hgg hgl)
        | (at_builtin;refine wpList_push _ rfl (.tmp 86) (.tmp 88) 85 rfl w.heap.size 4 info_boolK Tryz.underlying85 rfl _ j _ rfl HK10.out.own (.bool bk) rfl rfl (by unfold maxLen;omega) (by omega) hsz10 ?_;intro g3 cap3 w11 hown3 hgrow3 hbg hgg3;have HK11 := Lib.hid (HK10.out.push HI10.out.store.lt hown3 hgrow3 hgg3);have HI11 : Hid (Und49 w w11 D (.slice (some ⟨b,off,none⟩) S.length c6) (.slice (some ⟨g',0,none⟩) (LS.length + 1) cap') M st r S (LS ++ [(⟨s,al,cl,ai,ci,ab,cb⟩ : SetC)]) 12) := ⟨HI10.out.bel.grown hgrow3 hsz10 (fun k e => (HK10.out.own.lt k e).1),store_rowE HI10.out.store HK10.out.own (by decide) (by decide) HK10.out.out hgrow3,HI10.out.ok,HI10.out.small,row_row HK10.out.own hgrow3 HI10.out.names (by decide),HI10.out.saved.row HK10.out.own hgrow3 (by decide) (by decide) (by decide) (by decide)⟩;have HX11 := Lib.hid (blk_row HK10.out.own hgrow3 HX10.out (by decide));clear hown3 hgrow3 hbg hgg3))
       have HLs2 : Hid ((LS ++ [(⟨s,al,cl,ai,ci,ab,cb⟩ : SetC)]).map SetC.s = S.take (j + 1)) := by rw [List.map_append,HLs.out,HTk.out];rfl
       have HK12 : Hid (KnownRow w11 w.heap.size M (.slice (some ⟨g3,0,none⟩) (j + 1) cap3) (j + 1) ((S.take (j + 1)).map fun y => decide (y ∈ st.known))) := by rw [HTk.out,List.map_append,List.map_cons,List.map_nil,HBk.out];exact HK11.out
       clear HP10 HI10 HK10 HX10 HIa HOa Hnew HOw hsz hsz10 HKa HXa HK11 p0 p1 p2 p3 p4 p5 p6 p7 p8 p9 p10 p11 p12
       go_wp2_with fail
       go_roundw
       case rel => exact ⟨j + 1,_,by omega,by go_num,HI11.out,HLs2.out,HK12.out,HX11.out⟩
       case measure => simp [intOf];omega
      ·have hje : j = S.length := by omega
       subst hje
       have HLs : Hid (LS.map SetC.s = S) := by rw [List.take_length] at hls;exact hls
       have HK : Hid (KnownRow wr w.heap.size M (.slice Ak S.length ck) S.length (S.map fun y => decide (y ∈ st.known))) := by rw [List.take_length] at hkr;exact hkr
       have HI := Lib.hid hI
       have HX := Lib.hid hX
       have HL3 := Lib.hid hlsl
       clear hI hls hkr hX hlsl
       have p0 := HX.out.cell 0
       have p1 := HX.out.cell 1
       have p2 := HX.out.cell 2
       have p3 := HX.out.cell 3
       have p4 := HX.out.cell 4
       have p5 := HX.out.cell 5
       have p6 := HX.out.cell 6
       have p7 := HX.out.cell 7
       have p8 := HX.out.cell 8
       have p9 := HX.out.cell 9
       have p10 := HX.out.cell 10
       have p11 := HX.out.cell 11
       have p12 := HX.out.cell 12
       have p13 := HX.out.cell 13
       simp only [List.getElem?_toArray,List.getElem?_cons_succ,List.getElem?_cons_zero] at p0 p1 p2 p3 p4 p5 p6 p7 p8 p9 p10 p11 p12 p13
       go_upto_region 29 with fail
       clear p0 p1 p2 p3 p4 p5 p6 p7 p8 p9 p10 p11 p12 p13
       have p0 := HX.out.cell 0
       have p1 := HX.out.cell 1
       have p2 := HX.out.cell 2
       have p3 := HX.out.cell 3
       have p4 := HX.out.cell 4
       have p5 := HX.out.cell 5
       have p6 := HX.out.cell 6
       have p7 := HX.out.cell 7
       have p8 := HX.out.cell 8
       have p9 := HX.out.cell 9
       have p10 := HX.out.cell 10
       have p11 := HX.out.cell 11
       have p12 := HX.out.cell 12
       have p13 := HX.out.cell 13
       simp only [List.getElem?_toArray,List.getElem?_cons_succ,List.getElem?_cons_zero] at p0 p1 p2 p3 p4 p5 p6 p7 p8 p9 p10 p11 p12 p13
       have hE := (stDrop w.heap.size D M st r a.c.s.name _ HI.out.store HI.out.ok (Nat.le_trans HI.out.small.past (by decide))).mono fun _ _ hp => act_put hp
       obtain ⟨hO,hW⟩ := oth_drop st a.c.s
       have HOk := Lib.hid (HI.out.ok.drop a.c.s.name)
       have HSm := Lib.hid (by have := HI.out.small.act 1 a.c.s;rwa [act1 rfl] at this : StSmall (dropSt st a.c.s.name).2 (12 + 1))
       generalize dropSt st a.c.s.name = o at *
       obtain ⟨er,st'⟩ := o
       simp only at hE hO hW HOk HSm
       have HO := Lib.hid hO
       have HW := Lib.hid hW
       clear hO hW
       go_wp2_with fail
       refine hE.mono ?_
       rintro e w7 ⟨rfl,hact⟩
       have HK7 := Lib.hid (own_chg HK.out.own hact.1 (by decide) (by decide))
       have HX7 := Lib.hid (HX.out.chg hact.1 (by decide) (by decide))
       obtain ⟨M',r',hI7⟩ := HI.out.act hact (n' := 12 + 1) HOk.out HSm.out
       have HI7 := Lib.hid hI7
       have hCl := cloneStr (.slice A6 S.length c6) (S.map SetT.name) w7 (by simpa [RowAt] using Flat.of_own hI7.names) (by simp;omega)
       clear hact hI7 hE HI HX HK HOk HSm p0 p1 p2 p3 p4 p5 p6 p7 p8 p9 p10 p11 p12 p13
       go_wp2_with fail
       refine hCl.mono ?_
       rintro e w8 ⟨v8,rfl,ho8,hb8⟩
       obtain ⟨A8,c8,rfl⟩ := own_formB ho8
       rw [List.length_map] at ho8
       have HB8 := Lib.hid hb8
       have HO8 := Lib.hid ho8
       have HX8 := HX7.out.below hb8 HX7.out.lt
       have hIx := indexStr (.slice A6 S.length c6) (S.map SetT.name) a.c.s.name w8.heap.size w8 (by simpa [RowAt] using Flat.of_own (own_belowL HI7.out.names hb8))
       rw [idx_names] at hIx
       clear hb8 ho8 hCl
       have p0 := HX8.cell 0
       have p1 := HX8.cell 1
       have p2 := HX8.cell 2
       have p3 := HX8.cell 3
       have p4 := HX8.cell 4
       have p5 := HX8.cell 5
       have p6 := HX8.cell 6
       have p7 := HX8.cell 7
       have p8 := HX8.cell 8
       have p9 := HX8.cell 9
       have p10 := HX8.cell 10
       have p11 := HX8.cell 11
       have p12 := HX8.cell 12
       have p13 := HX8.cell 13
       simp only [List.getElem?_toArray,List.getElem?_cons_succ,List.getElem?_cons_zero] at p0 p1 p2 p3 p4 p5 p6 p7 p8 p9 p10 p11 p12 p13
       go_wp2_with fail
       refine hIx.mono ?_
       rintro e w8' ⟨rfl,rfl⟩
       clear hIx
       rcases HW.out with ⟨he,hst⟩ | ⟨he,k,hk,hi,hnm⟩
       ·clear HW
        have be : (er == 0) = false := by rw [he];rfl
        have bn : (er != 0) = true := by rw [bne,be];rfl
        have HNm : Hid (st'.sets.map SetT.name = S.map SetT.name) := by rw [hst];exact congrArg (List.map SetT.name) HSE.out
        generalize idxOf (idxS S a.c.s.name) = ix at *
        clear he hst
        have HI10 := Lib.hid (HI7.out.below HB8.out)
        have HX10 := Lib.hid HX8
        have HK10 := Lib.hid (own_belowL HK7.out HB8.out)
        have HW10 : Hid (RowAt Value.string w8 w8.heap.size (.slice A8 S.length c8) (st'.sets.map SetT.name)) := by unfold Hid;rw [HNm.out];simpa [RowAt] using Flat.of_own HO8.out
        clear HI7 HB8 HO8 HX8 HX7 HK7
        have hN := stNames w.heap.size D M' st' r' w8 HI10.out.store HI10.out.ok
        clear p0 p1 p2 p3 p4 p5 p6 p7 p8 p9 p10 p11 p12 p13
        go_wp2_with fail
        refine hN.mono ?_
        rintro e w12 ⟨hb12,v12,rfl,ho12⟩
        obtain ⟨A12,c12,rfl⟩ := own_formB ho12
        have hEq := equalStr (.slice A12 st'.sets.length c12) _ (st'.sets.map SetT.name) (st'.sets.map SetT.name) w12.heap.size w12 (by simpa [RowAt] using Flat.of_own ho12) ((HW10.out.below hb12 (Nat.le_refl _)).mono hb12.size)
        rw [decide_eq_true rfl] at hEq
        have HI12 := Lib.hid (HI10.out.below hb12)
        have HX12 := Lib.hid (HX10.out.below hb12 HX10.out.lt)
        have HK12 := Lib.hid (own_belowL HK10.out hb12)
        clear hb12 ho12 hN HI10 HX10 HK10 HW10
        go_wp2_with fail
        refine hEq.mono ?_
        rintro e w13 ⟨rfl,nq,rfl⟩
        have hbn := below_drewN (Below.refl w12.heap.size w12) nq
        have HI13 := Lib.hid (HI12.out.below hbn)
        have HX13 := Lib.hid (HX12.out.below hbn HX12.out.lt)
        have HK13 := Lib.hid (own_belowL HK12.out hbn)
        clear hEq hbn HI12 HX12 HK12
        go_wp2_with fail
        go_loopw [149] (fun x wq => ∃ i : Nat,i ≤ S.length ∧ x = .int .i64 i ∧ Und49 w wq D (.slice A6 S.length c6) (.slice As LS.length cs) M' st' r' S LS (12 + 1) ∧ wq.ownsRow w.heap.size 4 1 (.slice Ak S.length ck) S.length ((S.map fun y => decide (y ∈ st.known)).map Value.bool) ∧ Blk wq w.heap.size 71 #[.int .i64 a.kind,.string a.c.s.name,.int .i64 a.c.s.depth,.int .i64 a.c.s.low,.int .i64 a.c.s.high,.int .i64 a.c.s.len,.slice a.c.al a.c.s.lines.length a.c.cl,.int .i64 a.c.s.pipe,.int .i64 a.c.s.arbor,.int .i64 a.c.s.purch,.int .i64 a.c.s.most,.int .i64 a.c.s.brake,.slice a.c.ai a.c.s.items.length a.c.ci,.slice a.c.ab a.c.s.bricks.length a.c.cb]) (fun x _ => S.length - (intOf x).toNat)
        case atStart => exact ⟨0,Nat.zero_le _,rfl,HI13.out,HK13.out,HX13.out⟩
        case round =>
         clear HI13 HK13 HX13
         obtain ⟨i,hi,rfl,hI,hkr,hX⟩ := hrel
         have p0 := hX.cell 0
         have p1 := hX.cell 1
         have p2 := hX.cell 2
         have p3 := hX.cell 3
         have p4 := hX.cell 4
         have p5 := hX.cell 5
         have p6 := hX.cell 6
         have p7 := hX.cell 7
         have p8 := hX.cell 8
         have p9 := hX.cell 9
         have p10 := hX.cell 10
         have p11 := hX.cell 11
         have p12 := hX.cell 12
         have p13 := hX.cell 13
         simp only [List.getElem?_toArray,List.getElem?_cons_succ,List.getElem?_cons_zero] at p0 p1 p2 p3 p4 p5 p6 p7 p8 p9 p10 p11 p12 p13
         by_cases hlt : i < S.length
         ·obtain ⟨b,off,rfl,hcell⟩ := names_cell hI.names rfl hlt
          have hmem : S[i] ∈ st.sets := by rw [HSE.out];exact List.getElem_mem hlt
          obtain ⟨y,hy⟩ : ∃ y,S[i] = y := ⟨_,rfl⟩
          rw [hy] at hcell hmem
          obtain ⟨f1,f2⟩ := HO.out.others hI.ok hmem (fun h => absurd h.2 (by simpa using be))
          rcases Classical.em (y.name = a.c.s.name) with hne | hne
          case' inl => have hnm : (y.name.toList == a.c.s.name.toList) = true := by rw [str_beq];exact decide_eq_true hne
          case' inr => have hnm : (y.name.toList == a.c.s.name.toList) = false := by rw [str_beq];exact decide_eq_false hne
          all_goals
           clear hne
           have hG := (stGet w.heap.size D M' st' r' y.name _ hI.store hI.ok).mono fun _ _ hp => get_at hp f1
           have HI := Lib.hid hI
           have HK := Lib.hid hkr
           have HX := Lib.hid hX
           have HF2 := Lib.hid f2
           have HY := Lib.hid hy
           clear hI hkr hX f1 f2 hmem hy
           go_wp2_with fail
           refine hG.mono ?_
           rintro e w7 ⟨hb7,⟨s,al,cl,ai,ci,ab,cb⟩,rfl,hs,ho7⟩
           simp only at hs
           subst hs
           have ha := (Below.refl w7.heap.size w7).alloc (Nat.le_refl _) (.cells #[.string s.name,.int .i64 s.depth,.int .i64 s.low,.int .i64 s.high,.int .i64 s.len,.slice al s.lines.length cl,.int .i64 s.pipe,.int .i64 s.arbor,.int .i64 s.purch,.int .i64 s.most,.int .i64 s.brake,.slice ai s.items.length ci,.slice ab s.bricks.length cb] 26)
           have hb7a := hb7.trans (ha.mono hb7.size)
           have hI8 := HI.out.below hb7a
           have HI8 := Lib.hid hI8
           have HK8 := Lib.hid (own_belowL HK.out hb7a)
           have HX8 := Lib.hid (HX.out.below hb7a HX.out.lt)
           have HY8 := Lib.hid (Blk.new w7 26 #[.string s.name,.int .i64 s.depth,.int .i64 s.low,.int .i64 s.high,.int .i64 s.len,.slice al s.lines.length cl,.int .i64 s.pipe,.int .i64 s.arbor,.int .i64 s.purch,.int .i64 s.most,.int .i64 s.brake,.slice ai s.items.length ci,.slice ab s.bricks.length cb])
           have HO8 := Lib.hid ((own_mono3 ho7 HI.out.bel.size).chg (ChgS.of_below ha (Nat.zero_le _)))
           have hF := stFresh w.heap.size D M' st' r' s.name _ hI8.store hI8.ok (HT.out _ hI8.bel)
           rw [HF2.out] at hF
           clear ha hb7 hb7a ho7 hG HI hI8 HK HX p0 p1 p2 p3 p4 p5 p6 p7 p8 p9 p10 p11 p12 p13
           unfold SetC.val setVal at *
           go_wp2_with fail
           refine hF.mono ?_
           rintro e w10 ⟨rfl,hb9⟩
           have hI10 := HI8.out.below hb9
           have HI10 := Lib.hid hI10
           have HK10 := Lib.hid (own_belowL HK8.out hb9)
           have HX10 := Lib.hid (HX8.out.below hb9 HX8.out.lt)
           have HY10 := Lib.hid (HY8.out.below hb9 HY8.out.lt)
           have HO10 := Lib.hid (HO8.out.chg (ChgS.of_below hb9 (Nat.zero_le _)))
           clear hb9 hF HI8 HK8 HX8 HY8 HO8
           have hil : i < LS.length := by have := HL3.out;omega
           obtain ⟨_,_,e,hsv⟩ := hI10.saved.open_
           injection e with e1 _ e2
           subst e1 e2
           obtain ⟨b2,off2,rfl,hb2,hsc⟩ := hsv i hil
           have hcm := hI10.saved.sets _ (List.getElem_mem hil)
           have hcs : LS[i].s = s := by
            have h1 : (LS.map SetC.s)[i]? = S[i]? := by rw [HLs.out]
            rw [List.getElem?_map,List.getElem?_eq_getElem hil,List.getElem?_eq_getElem hlt,HY.out] at h1
            simpa using h1
           generalize LS[i] = z at *
           obtain ⟨s',al',cl',ai',ci',ab',cb'⟩ := z
           simp only at hcs
           subst hcs
           have HHE := Lib.hid fun W (hb : Below w10.heap.size w10 W) => refSame21 (setVal s' al cl ai ci ab cb) (setVal s' al' cl' ai' ci' ab' cb') s' s' W ((HO10.out.chg (ChgS.of_below hb (Nat.zero_le _))).set) ((hcm.chg (ChgS.of_below hb (Nat.zero_le _))).set)
           rw [decide_eq_true rfl] at HHE
           unfold setVal at HHE
           have hSm := fun x => HeldB.call HHE.out x
           obtain ⟨b3,rfl,hkc⟩ := bool_cell HK10.out (by simp) (by simpa using hlt)
           rw [show ((S.map fun y => decide (y ∈ st.known))[i]'(by simpa using hlt)) = decide (s' ∈ st.known) by rw [List.getElem_map,HY.out]] at hkc
           have hk0 := HeldB.cell hkc
           generalize decide (s' ∈ st.known) = bk at *
           have nb : (!(bk == bk)) = false := by cases bk <;> rfl
           have nb2 : (bk != bk) = false := by cases bk <;> rfl
           have x0 := hsc 0 _ rfl;rw [Nat.add_zero] at x0
           have x1 := hsc 1 _ rfl
           have x2 := hsc 2 _ rfl
           have x3 := hsc 3 _ rfl
           have x4 := hsc 4 _ rfl
           have x5 := hsc 5 _ rfl
           have x6 := hsc 6 _ rfl
           have x7 := hsc 7 _ rfl
           have x8 := hsc 8 _ rfl
           have x9 := hsc 9 _ rfl
           have x10 := hsc 10 _ rfl
           have x11 := hsc 11 _ rfl
           have x12 := hsc 12 _ rfl
           have z0 := HY10.out.cell 0
           have z1 := HY10.out.cell 1
           have z2 := HY10.out.cell 2
           have z3 := HY10.out.cell 3
           have z4 := HY10.out.cell 4
           have z5 := HY10.out.cell 5
           have z6 := HY10.out.cell 6
           have z7 := HY10.out.cell 7
           have z8 := HY10.out.cell 8
           have z9 := HY10.out.cell 9
           have z10 := HY10.out.cell 10
           have z11 := HY10.out.cell 11
           have z12 := HY10.out.cell 12
           simp only [List.getElem?_toArray,List.getElem?_cons_succ,List.getElem?_cons_zero] at z0 z1 z2 z3 z4 z5 z6 z7 z8 z9 z10 z11 z12
           have p0 := HeldB.cell x0
           have p1 := HeldB.cell x1
           have p2 := HeldB.cell x2
           have p3 := HeldB.cell x3
           have p4 := HeldB.cell x4
           have p5 := HeldB.cell x5
           have p6 := HeldB.cell x6
           have p7 := HeldB.cell x7
           have p8 := HeldB.cell x8
           have p9 := HeldB.cell x9
           have p10 := HeldB.cell x10
           have p11 := HeldB.cell x11
           have p12 := HeldB.cell x12
           have q0 := HeldB.cell z0
           have q1 := HeldB.cell z1
           have q2 := HeldB.cell z2
           have q3 := HeldB.cell z3
           have q4 := HeldB.cell z4
           have q5 := HeldB.cell z5
           have q6 := HeldB.cell z6
           have q7 := HeldB.cell z7
           have q8 := HeldB.cell z8
           have q9 := HeldB.cell z9
           have q10 := HeldB.cell z10
           have q11 := HeldB.cell z11
           have q12 := HeldB.cell z12
           clear hsc hcm hI10 HHE HY hkc x0 x1 x2 x3 x4 x5 x6 x7 x8 x9 x10 x11 x12 z0 z1 z2 z3 z4 z5 z6 z7 z8 z9 z10 z11 z12
           go_wp2_with fail
           refine wp_region_heldb (by kernel_rfl) (by kernel_rfl) ?_
           repeat (go_big_quiet_step ((go_at_call 29;exact hSm _)))
           refine wpQuiet_nil ?_
           rintro _ ⟨⟨w11,hb11⟩,rfl⟩
           have HI11 := Lib.hid (HI10.out.below hb11)
           have HK11 := Lib.hid (own_belowL HK10.out hb11)
           have HX11 := Lib.hid (HX10.out.below hb11 HX10.out.lt)
           clear hb11 p0 p1 p2 p3 p4 p5 p6 p7 p8 p9 p10 p11 p12 q0 q1 q2 q3 q4 q5 q6 q7 q8 q9 q10 q11 q12 hSm HI10 HX10 HO10 HK10 HY10 hk0 nb nb2
           go_wp2_with fail
           go_roundw
           case rel => exact ⟨i + 1,by omega,by go_num,HI11.out,HK11.out,HX11.out⟩
           case measure => simp [intOf];omega
         ·have hie : i = S.length := by omega
          subst hie
          have HI := Lib.hid hI
          have HX := Lib.hid hX
          have hG := stGet w.heap.size D M' st' r' a.c.s.name _ hI.store hI.ok
          clear hI hkr hX
          go_wp2_with fail
          refine hG.mono ?_
          rintro e w7 ⟨hb7,⟨s,al,cl,ai,ci,ab,cb⟩,rfl,hs,ho7⟩
          have ha := (Below.refl w7.heap.size w7).alloc (Nat.le_refl _) (.cells #[.string s.name,.int .i64 s.depth,.int .i64 s.low,.int .i64 s.high,.int .i64 s.len,.slice al s.lines.length cl,.int .i64 s.pipe,.int .i64 s.arbor,.int .i64 s.purch,.int .i64 s.most,.int .i64 s.brake,.slice ai s.items.length ci,.slice ab s.bricks.length cb] 26)
          have HB8 := Lib.hid (HI.out.below (hb7.trans (ha.mono hb7.size))).bel
          clear hb7 ha ho7 hG hs p0 p1 p2 p3 p4 p5 p6 p7 p8 p9 p10 p11 p12 p13
          generalize (getS st' a.c.s.name).2 = ge at *
          unfold SetC.val setVal at *
          go_wp2_with fail
          go_ret
          exact ⟨rfl,HB8.out⟩
       ·clear HW
        have be : (er == 0) = true := by rw [he];rfl
        have bn : (er != 0) = false := by rw [bne,be];rfl
        rw [HSE.out] at hnm hi
        rw [hi]
        have HNm := Lib.hid hnm
        rw [HSE.out] at hk
        rw [show idxOf (some k) = (k : Int) from rfl]
        have hk0 : decide ((0 : Int) ≤ (k : Int)) = true := decide_eq_true (by omega)
        clear he hnm hi
        obtain ⟨g8,cap8,e8⟩ := own_some (by omega) HO8.out
        injection e8 with e81 _ e82
        subst e81 e82
        have hDl := deleteStrs w7.heap.size g8 c8 (S.map SetT.name) k w8 (by simpa using hk) (by simp;omega) (by rw [strCells_map,List.length_map];exact HO8.out)
        rw [List.length_map] at hDl
        have HX8 := Lib.hid HX8
        clear hk0
        go_wp2_with fail
        refine hDl.mono ?_
        rintro e w9 ⟨rfl,hfl9,hg9⟩
        have HB9 : Hid (Below w7.heap.size w7 w9) := Lib.hid (HB8.out.grown hg9 HB8.out.size (fun q e => (HO8.out.lt q e).1))
        have HI10 := Lib.hid (HI7.out.below HB9.out)
        have HX10 := Lib.hid (HX7.out.below HB9.out HX7.out.lt)
        have HK10 := Lib.hid (own_belowL HK7.out HB9.out)
        have HW10 : Hid (RowAt Value.string w9 w9.heap.size (.slice (some ⟨g8,0,none⟩) (S.length - 1) c8) (st'.sets.map SetT.name)) := by unfold Hid;rw [HNm.out];rw [strCells_map] at hfl9;simpa [RowAt,List.length_eraseIdx,hk] using hfl9
        clear HI7 HB8 HO8 HX8 HX7 HK7 HB9 hfl9 hg9 hDl
        have hN := stNames w.heap.size D M' st' r' w9 HI10.out.store HI10.out.ok
        clear p0 p1 p2 p3 p4 p5 p6 p7 p8 p9 p10 p11 p12 p13
        go_wp2_with fail
        refine hN.mono ?_
        rintro e w12 ⟨hb12,v12,rfl,ho12⟩
        obtain ⟨A12,c12,rfl⟩ := own_formB ho12
        have hEq := equalStr (.slice A12 st'.sets.length c12) _ (st'.sets.map SetT.name) (st'.sets.map SetT.name) w12.heap.size w12 (by simpa [RowAt] using Flat.of_own ho12) ((HW10.out.below hb12 (Nat.le_refl _)).mono hb12.size)
        rw [decide_eq_true rfl] at hEq
        have HI12 := Lib.hid (HI10.out.below hb12)
        have HX12 := Lib.hid (HX10.out.below hb12 HX10.out.lt)
        have HK12 := Lib.hid (own_belowL HK10.out hb12)
        clear hb12 ho12 hN HI10 HX10 HK10 HW10
        go_wp2_with fail
        refine hEq.mono ?_
        rintro e w13 ⟨rfl,nq,rfl⟩
        have hbn := below_drewN (Below.refl w12.heap.size w12) nq
        have HI13 := Lib.hid (HI12.out.below hbn)
        have HX13 := Lib.hid (HX12.out.below hbn HX12.out.lt)
        have HK13 := Lib.hid (own_belowL HK12.out hbn)
        clear hEq hbn HI12 HX12 HK12
        go_wp2_with fail
        go_loopw [149] (fun x wq => ∃ i : Nat,i ≤ S.length ∧ x = .int .i64 i ∧ Und49 w wq D (.slice A6 S.length c6) (.slice As LS.length cs) M' st' r' S LS (12 + 1) ∧ wq.ownsRow w.heap.size 4 1 (.slice Ak S.length ck) S.length ((S.map fun y => decide (y ∈ st.known)).map Value.bool) ∧ Blk wq w.heap.size 71 #[.int .i64 a.kind,.string a.c.s.name,.int .i64 a.c.s.depth,.int .i64 a.c.s.low,.int .i64 a.c.s.high,.int .i64 a.c.s.len,.slice a.c.al a.c.s.lines.length a.c.cl,.int .i64 a.c.s.pipe,.int .i64 a.c.s.arbor,.int .i64 a.c.s.purch,.int .i64 a.c.s.most,.int .i64 a.c.s.brake,.slice a.c.ai a.c.s.items.length a.c.ci,.slice a.c.ab a.c.s.bricks.length a.c.cb]) (fun x _ => S.length - (intOf x).toNat)
        case atStart => exact ⟨0,Nat.zero_le _,rfl,HI13.out,HK13.out,HX13.out⟩
        case round =>
         clear HI13 HK13 HX13
         obtain ⟨i,hi,rfl,hI,hkr,hX⟩ := hrel
         have p0 := hX.cell 0
         have p1 := hX.cell 1
         have p2 := hX.cell 2
         have p3 := hX.cell 3
         have p4 := hX.cell 4
         have p5 := hX.cell 5
         have p6 := hX.cell 6
         have p7 := hX.cell 7
         have p8 := hX.cell 8
         have p9 := hX.cell 9
         have p10 := hX.cell 10
         have p11 := hX.cell 11
         have p12 := hX.cell 12
         have p13 := hX.cell 13
         simp only [List.getElem?_toArray,List.getElem?_cons_succ,List.getElem?_cons_zero] at p0 p1 p2 p3 p4 p5 p6 p7 p8 p9 p10 p11 p12 p13
         by_cases hlt : i < S.length
         ·obtain ⟨b,off,rfl,hcell⟩ := names_cell hI.names rfl hlt
          have hmem : S[i] ∈ st.sets := by rw [HSE.out];exact List.getElem_mem hlt
          obtain ⟨y,hy⟩ : ∃ y,S[i] = y := ⟨_,rfl⟩
          rw [hy] at hcell hmem
          by_cases hne : y.name = a.c.s.name
          ·have hnm : (y.name.toList == a.c.s.name.toList) = true := by rw [str_beq];exact decide_eq_true hne
           have HI := Lib.hid hI
           have HK := Lib.hid hkr
           have HX := Lib.hid hX
           clear hI hkr hX hmem hy hne
           go_wp2_with fail
           go_roundw
           case rel => exact ⟨i + 1,by omega,by go_num,HI.out,HK.out,HX.out⟩
           case measure => simp [intOf];omega
          have hnm : (y.name.toList == a.c.s.name.toList) = false := by rw [str_beq];exact decide_eq_false hne
          obtain ⟨f1,f2⟩ := HO.out.others hI.ok hmem (fun h => hne h.1)
          clear hne
          have hG := (stGet w.heap.size D M' st' r' y.name _ hI.store hI.ok).mono fun _ _ hp => get_at hp f1
          have HI := Lib.hid hI
          have HK := Lib.hid hkr
          have HX := Lib.hid hX
          have HF2 := Lib.hid f2
          have HY := Lib.hid hy
          clear hI hkr hX f1 f2 hmem hy
          go_wp2_with fail
          refine hG.mono ?_
          rintro e w7 ⟨hb7,⟨s,al,cl,ai,ci,ab,cb⟩,rfl,hs,ho7⟩
          simp only at hs
          subst hs
          have ha := (Below.refl w7.heap.size w7).alloc (Nat.le_refl _) (.cells #[.string s.name,.int .i64 s.depth,.int .i64 s.low,.int .i64 s.high,.int .i64 s.len,.slice al s.lines.length cl,.int .i64 s.pipe,.int .i64 s.arbor,.int .i64 s.purch,.int .i64 s.most,.int .i64 s.brake,.slice ai s.items.length ci,.slice ab s.bricks.length cb] 26)
          have hb7a := hb7.trans (ha.mono hb7.size)
          have hI8 := HI.out.below hb7a
          have HI8 := Lib.hid hI8
          have HK8 := Lib.hid (own_belowL HK.out hb7a)
          have HX8 := Lib.hid (HX.out.below hb7a HX.out.lt)
          have HY8 := Lib.hid (Blk.new w7 26 #[.string s.name,.int .i64 s.depth,.int .i64 s.low,.int .i64 s.high,.int .i64 s.len,.slice al s.lines.length cl,.int .i64 s.pipe,.int .i64 s.arbor,.int .i64 s.purch,.int .i64 s.most,.int .i64 s.brake,.slice ai s.items.length ci,.slice ab s.bricks.length cb])
          have HO8 := Lib.hid ((own_mono3 ho7 HI.out.bel.size).chg (ChgS.of_below ha (Nat.zero_le _)))
          have hF := stFresh w.heap.size D M' st' r' s.name _ hI8.store hI8.ok (HT.out _ hI8.bel)
          rw [HF2.out] at hF
          clear ha hb7 hb7a ho7 hG HI hI8 HK HX p0 p1 p2 p3 p4 p5 p6 p7 p8 p9 p10 p11 p12 p13
          unfold SetC.val setVal at *
          go_wp2_with fail
          refine hF.mono ?_
          rintro e w10 ⟨rfl,hb9⟩
          have hI10 := HI8.out.below hb9
          have HI10 := Lib.hid hI10
          have HK10 := Lib.hid (own_belowL HK8.out hb9)
          have HX10 := Lib.hid (HX8.out.below hb9 HX8.out.lt)
          have HY10 := Lib.hid (HY8.out.below hb9 HY8.out.lt)
          have HO10 := Lib.hid (HO8.out.chg (ChgS.of_below hb9 (Nat.zero_le _)))
          clear hb9 hF HI8 HK8 HX8 HY8 HO8
          have hil : i < LS.length := by have := HL3.out;omega
          obtain ⟨_,_,e,hsv⟩ := hI10.saved.open_
          injection e with e1 _ e2
          subst e1 e2
          obtain ⟨b2,off2,rfl,hb2,hsc⟩ := hsv i hil
          have hcm := hI10.saved.sets _ (List.getElem_mem hil)
          have hcs : LS[i].s = s := by
           have h1 : (LS.map SetC.s)[i]? = S[i]? := by rw [HLs.out]
           rw [List.getElem?_map,List.getElem?_eq_getElem hil,List.getElem?_eq_getElem hlt,HY.out] at h1
           simpa using h1
          generalize LS[i] = z at *
          obtain ⟨s',al',cl',ai',ci',ab',cb'⟩ := z
          simp only at hcs
          subst hcs
          have HHE := Lib.hid fun W (hb : Below w10.heap.size w10 W) => refSame21 (setVal s' al cl ai ci ab cb) (setVal s' al' cl' ai' ci' ab' cb') s' s' W ((HO10.out.chg (ChgS.of_below hb (Nat.zero_le _))).set) ((hcm.chg (ChgS.of_below hb (Nat.zero_le _))).set)
          rw [decide_eq_true rfl] at HHE
          unfold setVal at HHE
          have hSm := fun x => HeldB.call HHE.out x
          obtain ⟨b3,rfl,hkc⟩ := bool_cell HK10.out (by simp) (by simpa using hlt)
          rw [show ((S.map fun y => decide (y ∈ st.known))[i]'(by simpa using hlt)) = decide (s' ∈ st.known) by rw [List.getElem_map,HY.out]] at hkc
          have hk0 := HeldB.cell hkc
          generalize decide (s' ∈ st.known) = bk at *
          have nb : (!(bk == bk)) = false := by cases bk <;> rfl
          have nb2 : (bk != bk) = false := by cases bk <;> rfl
          have x0 := hsc 0 _ rfl;rw [Nat.add_zero] at x0
          have x1 := hsc 1 _ rfl
          have x2 := hsc 2 _ rfl
          have x3 := hsc 3 _ rfl
          have x4 := hsc 4 _ rfl
          have x5 := hsc 5 _ rfl
          have x6 := hsc 6 _ rfl
          have x7 := hsc 7 _ rfl
          have x8 := hsc 8 _ rfl
          have x9 := hsc 9 _ rfl
          have x10 := hsc 10 _ rfl
          have x11 := hsc 11 _ rfl
          have x12 := hsc 12 _ rfl
          have z0 := HY10.out.cell 0
          have z1 := HY10.out.cell 1
          have z2 := HY10.out.cell 2
          have z3 := HY10.out.cell 3
          have z4 := HY10.out.cell 4
          have z5 := HY10.out.cell 5
          have z6 := HY10.out.cell 6
          have z7 := HY10.out.cell 7
          have z8 := HY10.out.cell 8
          have z9 := HY10.out.cell 9
          have z10 := HY10.out.cell 10
          have z11 := HY10.out.cell 11
          have z12 := HY10.out.cell 12
          simp only [List.getElem?_toArray,List.getElem?_cons_succ,List.getElem?_cons_zero] at z0 z1 z2 z3 z4 z5 z6 z7 z8 z9 z10 z11 z12
          have p0 := HeldB.cell x0
          have p1 := HeldB.cell x1
          have p2 := HeldB.cell x2
          have p3 := HeldB.cell x3
          have p4 := HeldB.cell x4
          have p5 := HeldB.cell x5
          have p6 := HeldB.cell x6
          have p7 := HeldB.cell x7
          have p8 := HeldB.cell x8
          have p9 := HeldB.cell x9
          have p10 := HeldB.cell x10
          have p11 := HeldB.cell x11
          have p12 := HeldB.cell x12
          have q0 := HeldB.cell z0
          have q1 := HeldB.cell z1
          have q2 := HeldB.cell z2
          have q3 := HeldB.cell z3
          have q4 := HeldB.cell z4
          have q5 := HeldB.cell z5
          have q6 := HeldB.cell z6
          have q7 := HeldB.cell z7
          have q8 := HeldB.cell z8
          have q9 := HeldB.cell z9
          have q10 := HeldB.cell z10
          have q11 := HeldB.cell z11
          have q12 := HeldB.cell z12
          clear hsc hcm hI10 HHE HY hkc x0 x1 x2 x3 x4 x5 x6 x7 x8 x9 x10 x11 x12 z0 z1 z2 z3 z4 z5 z6 z7 z8 z9 z10 z11 z12
          go_wp2_with fail
          refine wp_region_heldb (by kernel_rfl) (by kernel_rfl) ?_
          repeat (go_big_quiet_step ((go_at_call 29;exact hSm _)))
          refine wpQuiet_nil ?_
          rintro _ ⟨⟨w11,hb11⟩,rfl⟩
          have HI11 := Lib.hid (HI10.out.below hb11)
          have HK11 := Lib.hid (own_belowL HK10.out hb11)
          have HX11 := Lib.hid (HX10.out.below hb11 HX10.out.lt)
          clear hb11 p0 p1 p2 p3 p4 p5 p6 p7 p8 p9 p10 p11 p12 q0 q1 q2 q3 q4 q5 q6 q7 q8 q9 q10 q11 q12 hSm HI10 HX10 HO10 HK10 HY10 hk0 nb nb2
          go_wp2_with fail
          go_roundw
          case rel => exact ⟨i + 1,by omega,by go_num,HI11.out,HK11.out,HX11.out⟩
          case measure => simp [intOf];omega
         ·have hie : i = S.length := by omega
          subst hie
          have HI := Lib.hid hI
          have HX := Lib.hid hX
          have hG := stGet w.heap.size D M' st' r' a.c.s.name _ hI.store hI.ok
          clear hI hkr hX
          go_wp2_with fail
          refine hG.mono ?_
          rintro e w7 ⟨hb7,⟨s,al,cl,ai,ci,ab,cb⟩,rfl,hs,ho7⟩
          have ha := (Below.refl w7.heap.size w7).alloc (Nat.le_refl _) (.cells #[.string s.name,.int .i64 s.depth,.int .i64 s.low,.int .i64 s.high,.int .i64 s.len,.slice al s.lines.length cl,.int .i64 s.pipe,.int .i64 s.arbor,.int .i64 s.purch,.int .i64 s.most,.int .i64 s.brake,.slice ai s.items.length ci,.slice ab s.bricks.length cb] 26)
          have HB8 := Lib.hid (HI.out.below (hb7.trans (ha.mono hb7.size))).bel
          clear hb7 ha ho7 hG hs p0 p1 p2 p3 p4 p5 p6 p7 p8 p9 p10 p11 p12 p13
          generalize (getS st' a.c.s.name).2 = ge at *
          unfold SetC.val setVal at *
          go_wp2_with fail
          go_ret
          exact ⟨rfl,HB8.out⟩
theorem lawOthers (v0 : Value) (F : List ActC) (a : ActC) (w : World) (h0 : ActsAt w w.heap.size v0 F) (hs : SetAt w w.heap.size a.c.val a.c.s) (hn : SetNames a.c.s) (ht : Tab w) :
  Calls Tryz.prog 9 #[v0,a.val] w fun e w' => e = .returned (.bool true) ∧ Below w.heap.size w w' := by
 rcases Bool.eq_false_or_eq_true (a.kind.tmod 2 == 0) with hpb | hpb
 ·by_cases he : (putV (actsTo F F.length) a.c.s).1 = 0
  ·cases hi : idxS (actsTo F F.length).sets a.c.s.name with
   | some k => exact lawOthersB v0 F a w hpb ⟨he,k,hi⟩ h0 hs hn ht
   | none => exact lawOthersC v0 F a w hpb ⟨he,hi⟩ h0 hs hn ht
  ·exact lawOthersA v0 F a w hpb he h0 hs hn ht
 ·exact lawOthersDrop v0 F a w hpb h0 hs hn ht
end Go.Proofs.YtbhmkcjddpniiaaGreatDoor
