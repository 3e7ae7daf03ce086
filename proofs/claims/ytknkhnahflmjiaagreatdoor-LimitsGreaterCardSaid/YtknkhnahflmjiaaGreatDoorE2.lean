/- Parts of the proof, laid into one text: NumA, NumB, NumC, NumD, NumE, NumF, NumG, NumH, NumP, NumI, NumJ. -/
import Derived.BigQuiet
import Derived.Deep.AppendLies
import Derived.Deep.Draws
import Derived.Deep.LoopGhost
import Derived.Deep.QuietTactic
import Derived.Laws.Bits64b
import Derived.Lib.Hide
import Derived.Maps.AppendAt
import Derived.Shelf.Abstract
import Derived.StillTail
import Derived.StillTailTactics
import Derived.Test.YtknkhnahflmjiaaGreatDoorB1
import Derived.Test.YtknkhnahflmjiaaGreatDoorE1
import Derived.Test.YtknkhnahflmjiaaGreatDoorProg
import Derived.WalkKit
import Derived.WalkLawsBesides
import Derived.WalkSpells

namespace Go.Proofs.YtknkhnahflmjiaaGreatDoor
open Go.RowKit Go.Shelf
def encU (n : Nat) : Value := .int .u32 (n : Int)
abbrev U32At := @RowAt Nat encU
theorem rowTake {α : Type} {enc : α → Value} {w : World} {B n c : Nat} {A : Option Addr} {l : List α} (h : RowAt enc w B (.slice A n c) l) (k : Nat) (hk : k ≤ l.length) : RowAt enc w B (.slice A k c) (l.take k) := by
 obtain ⟨A',c',e,h1,h2,h3⟩ := h
 injection e with e1 e2 e3
 subst e1 e3
 have hl : (l.take k).length = k := by rw [List.length_take];omega
 refine ⟨A,c,by rw [hl],by omega,h2,fun h0 => ?_⟩
 obtain ⟨b,off,e4,h5,h6⟩ := h3 (by omega)
 refine ⟨b,off,e4,h5,fun j u hu => h6 j u ?_⟩
 rw [List.map_take,List.getElem?_take] at hu
 split at hu
 ·exact hu
 ·cases hu
def lenOf : Value → Nat
 | .slice _ n _ => n
 | _ => 0
set_option maxHeartbeats 1000000 in
theorem bmTrim (A : Option Addr) (c B : Nat) (L : List Nat) (w : World) (hl : U32At w B (.slice A L.length c) L) :
  Calls Tryz.prog 266 #[.slice A L.length c] w fun e w' => e = .returned (.slice A (trimLen L) c) ∧ w = w' := by
 obtain ⟨A',c',e,hc1,hc2,hcell⟩ := hl.open_
 injection e with e1 _ e2
 subst e1 e2
 unfold maxLen at hc2
 have HC := Lib.hid hcell
 clear hcell hl
 go_enter Tryz.func266,Tryz.ntmps266
 go_wp2_with fail
 go_loopw [0] (fun x wr => ∃ k : Nat,k ≤ L.length ∧ x = .slice A k c ∧ Hid (trimLen L = trimTo L k) ∧ w = wr) (fun x _ => lenOf x)
 case atStart => exact ⟨L.length,Nat.le_refl _,rfl,rfl,rfl⟩
 case round =>
  obtain ⟨k,hk,rfl,HV,rfl⟩ := hrel
  cases k with
  | zero =>
   go_wp2_with fail
   go_ret
   exact ⟨by rw [HV.out];rfl,rfl⟩
  | succ m =>
   obtain ⟨b,off,rfl,hb,hcl⟩ := HC.out m (by omega)
   have h0 := hcl m (by omega)
   unfold encU at h0
   clear hcl
   by_cases hz : L[m] = 0
   ·have HV2 : Hid (trimLen L = trimTo L m) := by
     unfold Hid
     rw [HV.out,trimTo,if_pos (by rw [wAt_get (by omega)];exact hz)]
    clear HV
    go_wp2_with fail
    go_roundw
    case rel => exact ⟨m,by omega,rfl,HV2,by trivial⟩
    case measure => exact Nat.lt_succ_self m
   ·have HV2 : Hid (trimLen L = m + 1) := by
     unfold Hid
     rw [HV.out,trimTo,if_neg (by rw [wAt_get (by omega)];exact hz)]
    clear HV
    go_wp2_with fail
    go_ret
    exact ⟨by rw [HV2.out];rfl,rfl⟩
def TyW (w : World) (t : TypeId) (v : Value) : Prop := ∀ g,v.ownBlock = some g → ∃ cs r,w.heap[g]? = some (.cells cs t r)
theorem TyW.grow {w w' : World} {t : TypeId} {v : Value} (h : TyW w t v) (hb : Below w.heap.size w w') : TyW w' t v := fun g hg => by
 obtain ⟨cs,r,e⟩ := h g hg
 exact ⟨cs,r,(hb.block g (Array.getElem?_eq_some_iff.1 e).1).trans e⟩
theorem TyW.kept {w w' : World} {t : TypeId} {v : Value} {row : Option Nat} (h : TyW w t v) (hg : w.grownBy w' row) (hr : ∀ g,row = some g → v.ownBlock ≠ some g) : TyW w' t v := fun g e => by
 obtain ⟨cs,r,e1⟩ := h g e
 exact ⟨cs,r,(hg.block g (Array.getElem?_eq_some_iff.1 e1).1 (fun e2 => hr g e2.symm e)).trans e1⟩
def WAt (w : World) (v : Value) (z : Nat) : Prop := (∃ A c L,v = .slice A L.length c ∧ U32At w w.heap.size v L ∧ Wok L ∧ Trim L ∧ wv L = z) ∧ TyW w 232 v
theorem WAt.grow {w w' : World} {v : Value} {z : Nat} (h : WAt w v z) (hb : Below w.heap.size w w') : WAt w' v z := by
 obtain ⟨⟨A,c,L,h1,h2,h3,h4,h5⟩,ht⟩ := h
 exact ⟨⟨A,c,L,h1,(h2.below hb (Nat.le_refl _)).mono hb.size,h3,h4,h5⟩,ht.grow hb⟩
theorem WAt.drewN {w : World} {v : Value} {z : Nat} (h : WAt w v z) (q : Nat) : WAt (w.drewN q) v z := h
theorem WAt.nil (w : World) : WAt w (.slice none 0 0) 0 := ⟨⟨none,0,[],rfl,⟨none,0,rfl,Nat.le_refl _,Nat.zero_le _,fun h => absurd h (by simp)⟩,fun x hx => (by cases hx),fun h => absurd rfl h,rfl⟩,fun g e => by cases e⟩
theorem drew_add (w : World) (a b : Nat) : (w.drewN a).drewN b = w.drewN (a + b) := by unfold World.drewN;simp [Nat.add_assoc]
def CmpPost (a b : Nat) (w : World) (e : Ending) (w' : World) : Prop := (∃ q,w.drewN q = w') ∧ ∃ r : Int,e = .returned (.int .i64 r) ∧ decide (r < 0) = decide (a < b) ∧ decide (0 ≤ r) = decide (b ≤ a)
set_option maxHeartbeats 1000000 in
theorem bmCmp (v u : Value) (a b : Nat) (w : World) (hv : WAt w v a) (hu : WAt w u b) : Calls Tryz.prog 270 #[v,u] w (CmpPost a b w) := by
 obtain ⟨A,c,L,rfl,hl,hLo,hLt,rfl⟩ := hv.1
 obtain ⟨A',c',M,rfl,hm,hMo,hMt,rfl⟩ := hu.1
 obtain ⟨_,_,e,hc1,hc2,hcell⟩ := hl.open_
 injection e with e1 _ e2
 subst e1 e2
 obtain ⟨_,_,e,hd1,hd2,hdell⟩ := hm.open_
 injection e with e1 _ e2
 subst e1 e2
 unfold maxLen at hc2 hd2
 have HC := Lib.hid hcell
 have HD := Lib.hid hdell
 have HLo := Lib.hid hLo
 have HMo := Lib.hid hMo
 have HLt := Lib.hid hLt
 have HMt := Lib.hid hMt
 clear hcell hdell hl hm hLo hLt hMo hMt
 by_cases hne : L.length = M.length
 ·have HE := Lib.hid hne
  have hb0 : ((L.length : Int) != (M.length : Int)) = false := by rw [hne];simp
  have hb1 : (L.length != M.length) = false := by rw [hne];simp
  have i0 : (L.length : Int) ≤ (M.length : Int) := by omega
  have i1 : (M.length : Int) ≤ (L.length : Int) := by omega
  clear hne
  go_enter Tryz.func270,Tryz.ntmps270
  go_wp2_with fail
  go_loopw [5] (fun x wr => ∃ k : Nat,k ≤ L.length ∧ x = .int .i64 ((k : Int) - 1) ∧ Hid (∀ j,k ≤ j → j < L.length → wAt L j = wAt M j) ∧ ∃ q,w.drewN q = wr) (fun x _ => (intOf x + 1).toNat)
  case atStart => exact ⟨L.length,Nat.le_refl _,rfl,fun j h1 h2 => by omega,0,rfl⟩
  case round =>
   obtain ⟨k,hk,rfl,HV,q,rfl⟩ := hrel
   cases k with
   | zero =>
    have HEq : Hid (wv L = wv M) := by
     unfold Hid wv
     rw [← HE.out]
     exact wsum_congr fun i hi => HV.out i (Nat.zero_le _) hi
    go_wp2_with fail
    go_ret
    exact ⟨⟨q,rfl⟩,0,rfl,by rw [HEq.out];simp,by rw [HEq.out];simp⟩
   | succ m =>
    rw [show (((m + 1 : Nat) : Int) - 1) = (m : Int) by omega]
    obtain ⟨b,off,rfl,hb,hcl⟩ := HC.out m (by omega)
    have h0 := hcl m (by omega)
    obtain ⟨b',off',rfl,hb',hcl'⟩ := HD.out m (by have := HE.out;omega)
    have h1 := hcl' m (by have := HE.out;omega)
    unfold encU at h0 h1
    have k0 : (0 : Int) ≤ (m : Int) := Int.natCast_nonneg _
    have k1 : (m : Int) < (L.length : Int) := by omega
    have k2 : (m : Int) < (M.length : Int) := by have := HE.out;omega
    have eL : wAt L m = L[m] := wAt_get (by omega)
    have eM : wAt M m = M[m]'(by have := HE.out;omega) := wAt_get (by have := HE.out;omega)
    have EL := Lib.hid eL
    have EM := Lib.hid eM
    clear hcl hcl' hb hb' eL eM
    by_cases hq : wAt L m = wAt M m
    ·have hbn : ((L[m] : Int) != (M[m]'(by have := HE.out;omega) : Int)) = false := by rw [← EL.out,← EM.out,hq];simp
     have hbn2 : (L[m] != (M[m]'(by have := HE.out;omega))) = false := by rw [← EL.out,← EM.out,hq];simp
     have HV2 : Hid (∀ j,m ≤ j → j < L.length → wAt L j = wAt M j) := fun j h1 h2 => by
      by_cases e : j = m
      ·rw [e];exact hq
      ·exact HV.out j (by omega) h2
     clear hq HV EL EM
     go_wp2_with fail
     go_quiet (fail)
     go_wp2_with fail
     go_roundw
     case rel => exact ⟨m,by omega,rfl,HV2,_,rfl⟩
     case measure =>
      show ((m : Int) - 1 + 1).toNat < ((m : Int) + 1).toNat
      omega
    ·have hbn : ((L[m] : Int) != (M[m]'(by have := HE.out;omega) : Int)) = true := by rw [← EL.out,← EM.out];simp;omega
     have hbn2 : (L[m] != (M[m]'(by have := HE.out;omega))) = true := by rw [← EL.out,← EM.out];simpa using hq
     have HAb : Hid (∀ j,m < j → j < L.length → wAt L j = wAt M j) := fun j h1 h2 => HV.out j (by omega) h2
     by_cases hlt : wAt L m < wAt M m
     ·have hd : decide (L[m] < (M[m]'(by have := HE.out;omega))) = true := by rw [← EL.out,← EM.out];exact decide_eq_true hlt
      have HR : Hid (wv L < wv M) := by
       unfold Hid wv
       rw [← HE.out]
       exact wsum_cmp (wAt_lt HLo.out) L.length (by omega) HAb.out hlt
      clear hq hlt HV EL EM HAb
      go_wp2_with fail
      go_quiet (fail)
      go_wp2_with fail
      go_quiet (fail)
      go_wp2_with fail
      go_ret
      exact ⟨⟨_,(by rw [drew_add,drew_add])⟩,-1,rfl,by rw [decide_eq_true HR.out];rfl,by rw [decide_eq_false (Nat.not_le.2 HR.out)];rfl⟩
     ·have hd : decide (L[m] < (M[m]'(by have := HE.out;omega))) = false := by rw [← EL.out,← EM.out];exact decide_eq_false hlt
      have HR : Hid (wv M < wv L) := by
       unfold Hid wv
       rw [← HE.out]
       exact wsum_cmp (wAt_lt HMo.out) L.length (by omega) (fun j h1 h2 => (HAb.out j h1 h2).symm) (by omega)
      clear hq hlt HV EL EM HAb
      go_wp2_with fail
      go_quiet (fail)
      go_wp2_with fail
      go_quiet (fail)
      go_wp2_with fail
      go_ret
      exact ⟨⟨_,(by rw [drew_add,drew_add])⟩,1,rfl,by rw [decide_eq_false (Nat.not_lt.2 (Nat.le_of_lt HR.out))];rfl,by rw [decide_eq_true (Nat.le_of_lt HR.out)];rfl⟩
 ·have hb0 : ((L.length : Int) != (M.length : Int)) = true := by simp;omega
  have hb1 : (L.length != M.length) = true := by simpa using hne
  have HR : Hid (decide ((L.length : Int) - (M.length : Int) < 0) = decide (wv L < wv M) ∧ decide (0 ≤ (L.length : Int) - (M.length : Int)) = decide (wv M ≤ wv L)) := by
   by_cases h : L.length < M.length
   ·have h1 := wv_len HLo.out HMt.out h
    exact ⟨by rw [decide_eq_true h1];exact decide_eq_true (by omega),by rw [decide_eq_false (Nat.not_le.2 h1)];exact decide_eq_false (by omega)⟩
   ·have h1 := wv_len HMo.out HLt.out (show M.length < L.length by omega)
    exact ⟨by rw [decide_eq_false (show ¬ wv L < wv M by omega)];exact decide_eq_false (by omega),by rw [decide_eq_true (Nat.le_of_lt h1)];exact decide_eq_true (by omega)⟩
  clear hne
  go_enter Tryz.func270,Tryz.ntmps270
  go_wp2_with fail
  go_ret
  exact ⟨⟨0,rfl⟩,_,rfl,HR.out.1,HR.out.2⟩
end Go.Proofs.YtknkhnahflmjiaaGreatDoor

namespace Go.Proofs.YtknkhnahflmjiaaGreatDoor
open Go.RowKit Go.Shelf
def OwnW (w : World) (g n : Nat) (L : List Nat) : Prop := w.ownsRow g 232 1 (.slice (some ⟨g,0,none⟩) n n) n (L.map encU)
section
variable {w w' : World} {g n : Nat} {L : List Nat}
theorem OwnW.len (h : OwnW w g n L) : L.length = n := by have := h.1;simp at this;omega
theorem OwnW.cell (h : OwnW w g n L) {i : Nat} (hi : i < n) : w.cell? ⟨g,i,none⟩ = some (.int .u32 (wAt L i : Nat)) := by
 have hl := h.len
 rw [World.ownsRow.cellAt h i (by omega),List.getElem?_map,List.getElem?_eq_getElem (by omega),wAt_get (by omega)]
 rfl
theorem OwnW.frozen (h : OwnW w g n L) (i : Nat) : w.frozen? ⟨g,i,none⟩ = false := World.ownsRow.frozenAt h i
theorem OwnW.set_ (h : OwnW w g n L) (i x : Nat) : OwnW (w.setCell ⟨g,i,none⟩ (.int .u32 (x : Nat))) g n (L.set i x) := by
 unfold OwnW
 rw [List.map_set]
 exact (World.ownsRow.stored h i _).1
theorem OwnW.drewN (h : OwnW w g n L) (q : Nat) : OwnW (w.drewN q) g n L := own_drewN h q
theorem OwnW.lt (h : OwnW w g n L) : g < w.heap.size := (World.ownsRow.lt h g rfl).2
theorem OwnW.below (h : OwnW w g n L) (hb : Below w.heap.size w w') : OwnW w' g n L := World.ownsRow.kept h (grown_below (row := none) hb) (by simp [Value.ownBlock])
theorem OwnW.at_ (h : OwnW w g n L) : U32At w w.heap.size (.slice (some ⟨g,0,none⟩) L.length n) L := by
 have := h.len
 subst this
 exact RowAt.of_own h
end
theorem made_u32 (n : Nat) : (madeCells (Value.cells (.int .u32 0)) (n * 1)).toList = (List.replicate n 0).map encU := by
 apply List.ext_getElem
 ·simp [size_madeCells]
 ·intro i h1 h2
  simp [madeCells,Value.cells,Nat.mod_one,encU]
theorem info_u32 : (Tryz.prog.info? 232).map (fun i => (i.zero,i.size,i.bytes)) = some (some (.int .u32 0),1,4) := by kernel_rfl
theorem WAt.of_trim {w : World} {g n : Nat} {L : List Nat} (h : OwnW w g n L) (ho : Wok L) {k : Nat} (hk : k ≤ L.length) (ht : Trim (L.take k)) {z : Nat} (hz : wv (L.take k) = z) : WAt w (.slice (some ⟨g,0,none⟩) k n) z := by
 have hl : (L.take k).length = k := by rw [List.length_take];omega
 refine ⟨⟨some ⟨g,0,none⟩,n,L.take k,by rw [hl],?_,ho.take k,ht,hz⟩,fun g' e => ?_⟩
 case refine_2 =>
  obtain rfl : g = g' := by simpa [Value.ownBlock] using e
  rcases h.2 with ⟨h',_⟩ | ⟨g2,cap,cur,h',_,h3,_⟩
  ·cases h'
  ·injection h' with h4 _ _
   injection h4 with h4
   injection h4 with h4 _ _
   subst h4
   exact ⟨_,_,h3⟩
 exact rowTake h.at_ k hk
def NewV (w : World) (v : Value) : Prop := ∀ g,v.ownBlock = some g → w.heap.size ≤ g
theorem newV_at {w : World} {g k n : Nat} (h : w.heap.size ≤ g) : NewV w (.slice (some ⟨g,0,none⟩) k n) := fun g' e => by
 have e' : g = g' := by simpa [Value.ownBlock] using e
 omega
def MakesW (z : Nat) (w : World) (e : Ending) (w' : World) : Prop := Below w.heap.size w w' ∧ ∃ v,e = .returned v ∧ WAt w' v z ∧ NewV w v
theorem WAt.kept {w w' : World} {v : Value} {z : Nat} {row : Option Nat} (h : WAt w v z) (hgr : w.grownBy w' row) (hg : ∀ g,row = some g → v.ownBlock ≠ some g) : WAt w' v z := by
 refine ⟨?_,h.2.kept hgr hg⟩
 obtain ⟨⟨A,c,L,rfl,⟨A',c',e,h2,h3,h4⟩,h5,h6,h7⟩,-⟩ := h
 injection e with e1 _ e3
 subst e1 e3
 refine ⟨A,c,L,rfl,⟨A,c,rfl,h2,h3,fun h0 => ?_⟩,h5,h6,h7⟩
 obtain ⟨b,off,rfl,h8,h9⟩ := h4 h0
 refine ⟨b,off,rfl,Nat.lt_of_lt_of_le h8 hgr.size,fun j u hu => ?_⟩
 rw [hgr.cell_far ⟨b,off + j,none⟩ h8 (fun e => hg b e.symm rfl)]
 exact h9 j u hu
theorem WAt.apart {w : World} {v : Value} {z g : Nat} {t : TypeId} {cs : Array Value} {r : Nat × Nat} (h : WAt w v z) (hg : w.heap[g]? = some (.cells cs t r)) (ht : t ≠ 232) : v.ownBlock ≠ some g := fun e => by
 obtain ⟨cs',r',e1⟩ := h.2 g e
 rw [hg] at e1
 injection e1 with e1
 injection e1 with _ e2 _
 exact ht e2
theorem WAt.other {w : World} {v : Value} {z : Nat} (h : WAt w v z) (g i : Nat) (x : Value) (hg : v.ownBlock ≠ some g) : WAt (w.setCell ⟨g,i,none⟩ x) v z := by
 have hgr : w.grownBy (w.setCell ⟨g,i,none⟩ x) (some g) := ⟨rfl,rfl,rfl,by simp [World.setCell],fun k _ hk => Below.heap_setCell w _ _ k (fun e => hk (by rw [e]))⟩
 exact h.kept hgr (fun g' e => by injection e with e;rw [← e];exact hg)
set_option maxRecDepth 100000 in
set_option maxHeartbeats 2000000 in
theorem bmAdd (v u : Value) (a b K : Nat) (w : World) (hv : WAt w v a) (hu : WAt w u b) (hK : K ≤ 1000000) (ha : a < 4294967296 ^ K) (hb : b < 4294967296 ^ K) : Calls Tryz.prog 269 #[v,u] w (MakesW (a + b) w) := by
 obtain ⟨A,c,L,rfl,hl,hLo,hLt,rfl⟩ := hv.1
 obtain ⟨A',c',M,rfl,hm,hMo,hMt,rfl⟩ := hu.1
 have hl6 : L.length ≤ 1000000 := Nat.le_trans (wv_short hLt ha) hK
 have hm6 : M.length ≤ 1000000 := Nat.le_trans (wv_short hMt hb) hK
 obtain ⟨_,_,e,hc1,hc2,hcell⟩ := hl.open_
 injection e with e1 _ e2
 subst e1 e2
 obtain ⟨_,_,e,hd1,hd2,hdell⟩ := hm.open_
 injection e with e1 _ e2
 subst e1 e2
 unfold maxLen at hc2 hd2
 have HC := Lib.hid hcell
 have HD := Lib.hid hdell
 have HLo := Lib.hid hLo
 have HMo := Lib.hid hMo
 obtain ⟨i0,hi0,hz0,hz1,hz2⟩ := info_parts info_u32
 clear hcell hdell hl hm hLo hLt hMo hMt ha hb hK
 by_cases hlt : L.length < M.length
 case' pos =>
  have hd : decide (L.length < M.length) = true := decide_eq_true hlt
  go_enter Tryz.func269,Tryz.ntmps269
  have hbytes : i0.bytes * (M.length + 1) ≤ 281474976710656 := by rw [hz2];omega
  go_wp2_with (at_make;refine wpList_make_full _ rfl _ _ 219 rfl w.heap.size 232 i0 (.int .u32 0) 1 Tryz.underlying219 hi0 hz0 hz1 .i64 .i64 _ _ (M.length + 1) rfl rfl rfl rfl hbytes (by unfold maxLen;omega) (Nat.le_refl _) ?_;intro w4 hown4 hgrow4)
  obtain ⟨X,rfl⟩ : ∃ X,X = M := ⟨_,rfl⟩
  obtain ⟨Y,rfl⟩ : ∃ Y,Y = L := ⟨_,rfl⟩
  have HX := HD
  have HY := HC
  have HXo := HMo
  have HYo := HLo
  have hxy : Y.length ≤ X.length := by omega
  have hx6 := hm6
  have HS : Hid (wv Y + wv X = wv X + wv Y) := Nat.add_comm _ _
 case' neg =>
  have hd : decide (L.length < M.length) = false := decide_eq_false hlt
  go_enter Tryz.func269,Tryz.ntmps269
  have hbytes : i0.bytes * (L.length + 1) ≤ 281474976710656 := by rw [hz2];omega
  go_wp2_with (at_make;refine wpList_make_full _ rfl _ _ 219 rfl w.heap.size 232 i0 (.int .u32 0) 1 Tryz.underlying219 hi0 hz0 hz1 .i64 .i64 _ _ (L.length + 1) rfl rfl rfl rfl hbytes (by unfold maxLen;omega) (Nat.le_refl _) ?_;intro w4 hown4 hgrow4)
  obtain ⟨X,rfl⟩ : ∃ X,X = L := ⟨_,rfl⟩
  obtain ⟨Y,rfl⟩ : ∃ Y,Y = M := ⟨_,rfl⟩
  have HX := HC
  have HY := HD
  have HXo := HLo
  have HYo := HMo
  have hxy : Y.length ≤ X.length := by omega
  have hx6 := hl6
  have HS : Hid (wv X + wv Y = wv X + wv Y) := rfl
 all_goals
  rw [made_u32] at hown4
  have hb4 := (Below.refl w.heap.size w).grown hgrow4 (Nat.le_refl _) (fun k hk => by cases hk)
  have HO4 : Hid (OwnW w4 w.heap.size (X.length + 1) (List.replicate (X.length + 1) 0)) := hown4
  obtain ⟨g,hg⟩ : ∃ g,w.heap.size = g := ⟨_,rfl⟩
  have hgw : w.heap.size ≤ g := Nat.le_of_eq hg
  rw [hg] at HO4
  simp only [hg]
  clear hown4 hgrow4 hi0 hz0 hz1 hbytes hg
  go_loopw [6,21] (fun cx ix wr => ∃ (k cy : Nat) (O : List Nat),k ≤ X.length + 1 ∧ ix = .int .i64 k ∧ cx = .int .u64 (cy : Nat) ∧ cy ≤ 1 ∧ Hid (OwnW wr g (X.length + 1) O) ∧ Hid (Wok O) ∧ Hid (wsum (wAt O) k + 4294967296 ^ k * cy = wsum (wAt X) k + wsum (wAt Y) k) ∧ Below w.heap.size w wr) (fun _ ix _ => X.length + 1 - (intOf ix).toNat)
  case atStart => exact ⟨0,0,_,Nat.zero_le _,rfl,rfl,Nat.zero_le _,HO4,Wok.zeros _,rfl,hb4⟩
  case round =>
   clear HO4 hb4
   obtain ⟨k,cy,O,hk,rfl,rfl,hcy,HO,HW,HS4,hbel⟩ := hrel
   have k0 : (0 : Int) ≤ (k : Int) := Int.natCast_nonneg _
   by_cases hkl : k < X.length + 1
   ·have z1 := HO.out.cell hkl
    have z2 := HO.out.frozen k
    have k1 : (k : Int) < (X.length : Int) + 1 := by omega
    by_cases hky : k < Y.length
    ·have hkx : k < X.length := by omega
     obtain ⟨b1,o1,rfl,-,hx⟩ := HX.out k hkx
     obtain ⟨b2,o2,rfl,-,hy⟩ := HY.out k hky
     have hx := hx k hkx
     have hy := hy k hky
     unfold encU at hx hy
     have x0 : X[k] < 4294967296 := HXo.out _ (List.getElem_mem hkx)
     have y0 : Y[k] < 4294967296 := HYo.out _ (List.getElem_mem hky)
     have hx := fun w' (hb : Below w.heap.size w w') => (hb.cell (p := ⟨b1,o1 + k,none⟩) (World.block_lt_of_cell? _ _ hx)).trans hx
     have hy := fun w' (hb : Below w.heap.size w w') => (hb.cell (p := ⟨b2,o2 + k,none⟩) (World.block_lt_of_cell? _ _ hy)).trans hy
     have hx := hx _ hbel
     have hy := hy _ hbel
     have HXe : Hid (wAt X k = X[k]) := wAt_get hkx
     have HYe : Hid (wAt Y k = Y[k]) := wAt_get hky
     generalize X[k] = x at *
     generalize Y[k] = y at *
     have x1 : (x : Int) < 4294967296 := by omega
     have y1 : (y : Int) < 4294967296 := by omega
     have x2 : (0 : Int) ≤ (x : Int) := Int.natCast_nonneg _
     have y2 : (0 : Int) ≤ (y : Int) := Int.natCast_nonneg _
     have c2 : (0 : Int) ≤ (cy : Int) := Int.natCast_nonneg _
     have c3 : (cy : Int) ≤ 1 := by omega
     go_wp2_with fail
     have HO5 : Hid (OwnW (wr.setCell ⟨g,k,none⟩ (.int .u32 (((cy + x + y) % 4294967296 : Nat) : Int))) g (X.length + 1) (O.set k ((cy + x + y) % 4294967296))) := HO.out.set_ k _
     have HW5 : Hid (Wok (O.set k ((cy + x + y) % 4294967296))) := HW.out.set k (Nat.mod_lt _ (by decide))
     have HB5 : Hid (Below w.heap.size w (wr.setCell ⟨g,k,none⟩ (.int .u32 (((cy + x + y) % 4294967296 : Nat) : Int)))) := hbel.setCell (p := ⟨g,k,none⟩) hgw _
     have HS5 : Hid (wsum (wAt (O.set k ((cy + x + y) % 4294967296))) (k + 1) + 4294967296 ^ (k + 1) * ((cy + x + y) / 4294967296) = wsum (wAt X) (k + 1) + wsum (wAt Y) (k + 1)) := add_set (by rw [HO.out.len];omega) HS4.out (by rw [HXe.out,HYe.out];omega)
     have hcy2 : (cy + x + y) / 4294967296 ≤ 1 := by omega
     clear HO HW HS4 hbel z1 z2
     go_roundw
     case rel => exact ⟨k + 1,(cy + x + y) / 4294967296,_,by omega,by go_num,by go_num,hcy2,HO5,HW5,HS5,HB5⟩
     case measure => simp [intOf];omega
    ·by_cases hkx : k < X.length
     ·obtain ⟨b1,o1,rfl,-,hx⟩ := HX.out k hkx
      have hx := hx k hkx
      unfold encU at hx
      have x0 : X[k] < 4294967296 := HXo.out _ (List.getElem_mem hkx)
      have hx := fun w' (hb : Below w.heap.size w w') => (hb.cell (p := ⟨b1,o1 + k,none⟩) (World.block_lt_of_cell? _ _ hx)).trans hx
      have hx := hx _ hbel
      have HXe : Hid (wAt X k = X[k]) := wAt_get hkx
      have HYe : Hid (wAt Y k = 0) := wAt_none (by omega)
      generalize X[k] = x at *
      have x1 : (x : Int) < 4294967296 := by omega
      have x2 : (0 : Int) ≤ (x : Int) := Int.natCast_nonneg _
      have c2 : (0 : Int) ≤ (cy : Int) := Int.natCast_nonneg _
      have c3 : (cy : Int) ≤ 1 := by omega
      go_wp2_with fail
      have HO5 : Hid (OwnW (wr.setCell ⟨g,k,none⟩ (.int .u32 (((cy + x) % 4294967296 : Nat) : Int))) g (X.length + 1) (O.set k ((cy + x) % 4294967296))) := HO.out.set_ k _
      have HW5 : Hid (Wok (O.set k ((cy + x) % 4294967296))) := HW.out.set k (Nat.mod_lt _ (by decide))
      have HB5 : Hid (Below w.heap.size w (wr.setCell ⟨g,k,none⟩ (.int .u32 (((cy + x) % 4294967296 : Nat) : Int)))) := hbel.setCell (p := ⟨g,k,none⟩) hgw _
      have HS5 : Hid (wsum (wAt (O.set k ((cy + x) % 4294967296))) (k + 1) + 4294967296 ^ (k + 1) * ((cy + x) / 4294967296) = wsum (wAt X) (k + 1) + wsum (wAt Y) (k + 1)) := add_set (by rw [HO.out.len];omega) HS4.out (by rw [HXe.out,HYe.out];omega)
      have hcy2 : (cy + x) / 4294967296 ≤ 1 := by omega
      clear HO HW HS4 hbel z1 z2
      go_roundw
      case rel => exact ⟨k + 1,(cy + x) / 4294967296,_,by omega,by go_num,by go_num,hcy2,HO5,HW5,HS5,HB5⟩
      case measure => simp [intOf];omega
     ·obtain rfl : k = X.length := by omega
      have HXe : Hid (wAt X X.length = 0) := wAt_none (Nat.le_refl _)
      have HYe : Hid (wAt Y X.length = 0) := wAt_none hxy
      have hd2 : decide (X.length < Y.length) = false := decide_eq_false hky
      have c2 : (0 : Int) ≤ (cy : Int) := Int.natCast_nonneg _
      have c3 : (cy : Int) ≤ 1 := by omega
      go_wp2_with fail
      have HO5 : Hid (OwnW (wr.setCell ⟨g,X.length,none⟩ (.int .u32 (((cy) % 4294967296 : Nat) : Int))) g (X.length + 1) (O.set X.length ((cy) % 4294967296))) := HO.out.set_ X.length _
      have HW5 : Hid (Wok (O.set X.length ((cy) % 4294967296))) := HW.out.set X.length (Nat.mod_lt _ (by decide))
      have HB5 : Hid (Below w.heap.size w (wr.setCell ⟨g,X.length,none⟩ (.int .u32 (((cy) % 4294967296 : Nat) : Int)))) := hbel.setCell (p := ⟨g,X.length,none⟩) hgw _
      have HS5 : Hid (wsum (wAt (O.set X.length ((cy) % 4294967296))) (X.length + 1) + 4294967296 ^ (X.length + 1) * ((cy) / 4294967296) = wsum (wAt X) (X.length + 1) + wsum (wAt Y) (X.length + 1)) := add_set (by rw [HO.out.len];omega) HS4.out (by rw [HXe.out,HYe.out];omega)
      have hcy2 : (cy) / 4294967296 ≤ 1 := by omega
      rw [show cy % 4294967296 = cy from Nat.mod_eq_of_lt (by omega)] at HO5 HW5 HB5 HS5
      clear HO HW HS4 hbel z1 z2
      go_roundw
      case rel => exact ⟨X.length + 1,(cy) / 4294967296,_,by omega,by go_num,by go_num,hcy2,HO5,HW5,HS5,HB5⟩
      case measure => simp [intOf]
   ·obtain rfl : k = X.length + 1 := by omega
    have hT := bmTrim (some ⟨g,0,none⟩) (X.length + 1) wr.heap.size O wr HO.out.at_
    rw [HO.out.len] at hT
    have HZ : Hid (wv O = wv X + wv Y) := add_end HXo.out HYo.out HO.out.len hxy HS4.out
    clear HS4 hkl hk
    go_wp2_with fail
    refine hT.mono ?_
    rintro e w' ⟨rfl,rfl⟩
    obtain ⟨hm,ht,hv⟩ := trim_facts O
    have HT := Lib.hid ht
    have HV := Lib.hid hv
    clear ht hv hT
    go_wp2_with fail
    go_ret
    exact ⟨hbel,_,rfl,by
     first
      | exact WAt.of_trim HO.out HW.out hm HT.out (HV.out.trans HZ.out)
      | exact WAt.of_trim HO.out HW.out hm HT.out (HV.out.trans (HZ.out.trans (Nat.add_comm _ _))),newV_at hgw⟩
end Go.Proofs.YtknkhnahflmjiaaGreatDoor

namespace Go.Proofs.YtknkhnahflmjiaaGreatDoor
open Go.RowKit Go.Shelf
set_option maxRecDepth 100000 in
set_option maxHeartbeats 2000000 in
theorem bmTake (v u : Value) (a b K : Nat) (w : World) (hv : WAt w v a) (hu : WAt w u b) (hK : K ≤ 1000000) (ha : a < 4294967296 ^ K) (hle : b ≤ a) : Calls Tryz.prog 271 #[v,u] w (MakesW (a - b) w) := by
 obtain ⟨A,c,X,rfl,hl,hXo,hXt,rfl⟩ := hv.1
 obtain ⟨A',c',Y,rfl,hm,hYo,hYt,rfl⟩ := hu.1
 have hl6 : X.length ≤ 1000000 := Nat.le_trans (wv_short hXt ha) hK
 have hxy : Y.length ≤ X.length := by
  rcases Nat.lt_or_ge X.length Y.length with h | h
  ·have := wv_len hXo hYt h
   omega
  ·exact h
 obtain ⟨_,_,e,hc1,hc2,hcell⟩ := hl.open_
 injection e with e1 _ e2
 subst e1 e2
 obtain ⟨_,_,e,hd1,hd2,hdell⟩ := hm.open_
 injection e with e1 _ e2
 subst e1 e2
 unfold maxLen at hc2 hd2
 have HX := Lib.hid hcell
 have HY := Lib.hid hdell
 have HXo := Lib.hid hXo
 have HYo := Lib.hid hYo
 have HLe := Lib.hid hle
 obtain ⟨i0,hi0,hz0,hz1,hz2⟩ := info_parts info_u32
 have hbytes : i0.bytes * X.length ≤ 281474976710656 := by rw [hz2];omega
 clear hcell hdell hl hm hXo hXt hYo hYt ha hK hle
 go_enter Tryz.func271,Tryz.ntmps271
 go_wp2_with (at_make;refine wpList_make_full _ rfl _ _ 219 rfl w.heap.size 232 i0 (.int .u32 0) 1 Tryz.underlying219 hi0 hz0 hz1 .i64 .i64 _ _ X.length rfl rfl rfl rfl hbytes (by unfold maxLen;omega) (Nat.le_refl _) ?_;intro w4 hown4 hgrow4)
 rw [made_u32] at hown4
 have hb4 := (Below.refl w.heap.size w).grown hgrow4 (Nat.le_refl _) (fun k hk => by cases hk)
 have HO4 : Hid (OwnW w4 w.heap.size X.length (List.replicate X.length 0)) := hown4
 obtain ⟨g,hg⟩ : ∃ g,w.heap.size = g := ⟨_,rfl⟩
 have hgw : w.heap.size ≤ g := Nat.le_of_eq hg
 rw [hg] at HO4
 simp only [hg]
 clear hown4 hgrow4 hi0 hz0 hz1 hbytes hg
 go_loopw [6,14] (fun cx ix wr => ∃ (k cy : Nat) (O : List Nat),k ≤ X.length ∧ ix = .int .i64 k ∧ cx = .int .i64 (cy : Nat) ∧ cy ≤ 1 ∧ Hid (OwnW wr g X.length O) ∧ Hid (Wok O) ∧ Hid (wsum (wAt O) k + wsum (wAt Y) k = wsum (wAt X) k + 4294967296 ^ k * cy) ∧ Below w.heap.size w wr) (fun _ ix _ => X.length - (intOf ix).toNat)
 case atStart => exact ⟨0,0,_,Nat.zero_le _,rfl,rfl,Nat.zero_le _,HO4,Wok.zeros _,rfl,hb4⟩
 case round =>
  clear HO4 hb4
  obtain ⟨k,cy,O,hk,rfl,rfl,hcy,HO,HW,HS4,hbel⟩ := hrel
  have k0 : (0 : Int) ≤ (k : Int) := Int.natCast_nonneg _
  by_cases hkx : k < X.length
  ·have z1 := HO.out.cell hkx
   have z2 := HO.out.frozen k
   have k1 : (k : Int) < (X.length : Int) := by omega
   obtain ⟨b1,o1,rfl,-,hx⟩ := HX.out k hkx
   have hx := hx k hkx
   unfold encU at hx
   have x0 : X[k] < 4294967296 := HXo.out _ (List.getElem_mem hkx)
   have hx := fun w' (hb : Below w.heap.size w w') => (hb.cell (p := ⟨b1,o1 + k,none⟩) (World.block_lt_of_cell? _ _ hx)).trans hx
   have hx := hx _ hbel
   have HXe : Hid (wAt X k = X[k]) := wAt_get hkx
   generalize X[k] = x at *
   have x1 : (x : Int) < 4294967296 := by omega
   have x2 : (0 : Int) ≤ (x : Int) := Int.natCast_nonneg _
   have c2 : (0 : Int) ≤ (cy : Int) := Int.natCast_nonneg _
   have c3 : (cy : Int) ≤ 1 := by omega
   by_cases hky : k < Y.length
   ·obtain ⟨b2,o2,rfl,-,hy⟩ := HY.out k hky
    have hy := hy k hky
    unfold encU at hy
    have y0 : Y[k] < 4294967296 := HYo.out _ (List.getElem_mem hky)
    have hy := fun w' (hb : Below w.heap.size w w') => (hb.cell (p := ⟨b2,o2 + k,none⟩) (World.block_lt_of_cell? _ _ hy)).trans hy
    have hy := hy _ hbel
    have HYe : Hid (wAt Y k = Y[k]) := wAt_get hky
    generalize Y[k] = y at *
    have y1 : (y : Int) < 4294967296 := by omega
    have y2 : (0 : Int) ≤ (y : Int) := Int.natCast_nonneg _
    by_cases hs : x < cy + y
    ·have hd : decide ((x : Int) - cy - y < 0) = true := decide_eq_true (by omega)
     go_wp2_with fail
     obtain ⟨d,hdd⟩ : ∃ d : Nat,(x : Int) - cy - y + 4294967296 = (d : Int) := ⟨((x : Int) - cy - y + 4294967296).toNat,by omega⟩
     rw [hdd]
     have HO5 : Hid (OwnW (wr.setCell ⟨g,k,none⟩ (.int .u32 (d : Int))) g X.length (O.set k d)) := HO.out.set_ k _
     have HW5 : Hid (Wok (O.set k d)) := HW.out.set k (by omega)
     have HB5 : Hid (Below w.heap.size w (wr.setCell ⟨g,k,none⟩ (.int .u32 (d : Int)))) := hbel.setCell (p := ⟨g,k,none⟩) hgw _
     have HS5 : Hid (wsum (wAt (O.set k d)) (k + 1) + wsum (wAt Y) (k + 1) = wsum (wAt X) (k + 1) + 4294967296 ^ (k + 1) * 1) := sub_set (by rw [HO.out.len];omega) HS4.out (by rw [HXe.out,HYe.out];omega)
     clear HO HW HS4 hbel z1 z2 hdd
     go_roundw
     case rel => exact ⟨k + 1,1,_,by omega,by go_num,rfl,by omega,HO5,HW5,HS5,HB5⟩
     case measure => simp [intOf];omega
    ·have hd : decide ((x : Int) - cy - y < 0) = false := decide_eq_false (by omega)
     go_wp2_with fail
     obtain ⟨d,hdd⟩ : ∃ d : Nat,(x : Int) - cy - y = (d : Int) := ⟨((x : Int) - cy - y).toNat,by omega⟩
     rw [hdd]
     have HO5 : Hid (OwnW (wr.setCell ⟨g,k,none⟩ (.int .u32 (d : Int))) g X.length (O.set k d)) := HO.out.set_ k _
     have HW5 : Hid (Wok (O.set k d)) := HW.out.set k (by omega)
     have HB5 : Hid (Below w.heap.size w (wr.setCell ⟨g,k,none⟩ (.int .u32 (d : Int)))) := hbel.setCell (p := ⟨g,k,none⟩) hgw _
     have HS5 : Hid (wsum (wAt (O.set k d)) (k + 1) + wsum (wAt Y) (k + 1) = wsum (wAt X) (k + 1) + 4294967296 ^ (k + 1) * 0) := sub_set (by rw [HO.out.len];omega) HS4.out (by rw [HXe.out,HYe.out];omega)
     clear HO HW HS4 hbel z1 z2 hdd
     go_roundw
     case rel => exact ⟨k + 1,0,_,by omega,by go_num,rfl,by omega,HO5,HW5,HS5,HB5⟩
     case measure => simp [intOf];omega
   ·have HYe : Hid (wAt Y k = 0) := wAt_none (by omega)
    by_cases hs : x < cy
    ·have hd : decide ((x : Int) - cy < 0) = true := decide_eq_true (by omega)
     go_wp2_with fail
     obtain ⟨d,hdd⟩ : ∃ d : Nat,(x : Int) - cy + 4294967296 = (d : Int) := ⟨((x : Int) - cy + 4294967296).toNat,by omega⟩
     rw [hdd]
     have HO5 : Hid (OwnW (wr.setCell ⟨g,k,none⟩ (.int .u32 (d : Int))) g X.length (O.set k d)) := HO.out.set_ k _
     have HW5 : Hid (Wok (O.set k d)) := HW.out.set k (by omega)
     have HB5 : Hid (Below w.heap.size w (wr.setCell ⟨g,k,none⟩ (.int .u32 (d : Int)))) := hbel.setCell (p := ⟨g,k,none⟩) hgw _
     have HS5 : Hid (wsum (wAt (O.set k d)) (k + 1) + wsum (wAt Y) (k + 1) = wsum (wAt X) (k + 1) + 4294967296 ^ (k + 1) * 1) := sub_set (by rw [HO.out.len];omega) HS4.out (by rw [HXe.out,HYe.out];omega)
     clear HO HW HS4 hbel z1 z2 hdd
     go_roundw
     case rel => exact ⟨k + 1,1,_,by omega,by go_num,rfl,by omega,HO5,HW5,HS5,HB5⟩
     case measure => simp [intOf];omega
    ·have hd : decide ((x : Int) - cy < 0) = false := decide_eq_false (by omega)
     go_wp2_with fail
     obtain ⟨d,hdd⟩ : ∃ d : Nat,(x : Int) - cy = (d : Int) := ⟨((x : Int) - cy).toNat,by omega⟩
     rw [hdd]
     have HO5 : Hid (OwnW (wr.setCell ⟨g,k,none⟩ (.int .u32 (d : Int))) g X.length (O.set k d)) := HO.out.set_ k _
     have HW5 : Hid (Wok (O.set k d)) := HW.out.set k (by omega)
     have HB5 : Hid (Below w.heap.size w (wr.setCell ⟨g,k,none⟩ (.int .u32 (d : Int)))) := hbel.setCell (p := ⟨g,k,none⟩) hgw _
     have HS5 : Hid (wsum (wAt (O.set k d)) (k + 1) + wsum (wAt Y) (k + 1) = wsum (wAt X) (k + 1) + 4294967296 ^ (k + 1) * 0) := sub_set (by rw [HO.out.len];omega) HS4.out (by rw [HXe.out,HYe.out];omega)
     clear HO HW HS4 hbel z1 z2 hdd
     go_roundw
     case rel => exact ⟨k + 1,0,_,by omega,by go_num,rfl,by omega,HO5,HW5,HS5,HB5⟩
     case measure => simp [intOf];omega
  ·obtain rfl : k = X.length := by omega
   have hT := bmTrim (some ⟨g,0,none⟩) X.length wr.heap.size O wr HO.out.at_
   rw [HO.out.len] at hT
   have HZ : Hid (wv O = wv X - wv Y) := sub_end HW.out HO.out.len hxy HLe.out HS4.out
   clear HS4 hk
   go_wp2_with fail
   refine hT.mono ?_
   rintro e w' ⟨rfl,rfl⟩
   obtain ⟨hm,ht,hv⟩ := trim_facts O
   have HT := Lib.hid ht
   have HV := Lib.hid hv
   clear ht hv hT
   go_wp2_with fail
   go_ret
   exact ⟨hbel,_,rfl,WAt.of_trim HO.out HW.out hm HT.out (HV.out.trans HZ.out),newV_at hgw⟩
end Go.Proofs.YtknkhnahflmjiaaGreatDoor

namespace Go.Proofs.YtknkhnahflmjiaaGreatDoor
open Go.RowKit Go.Shelf
set_option maxRecDepth 100000 in
set_option maxHeartbeats 2000000 in
theorem bmHalf (v : Value) (a K : Nat) (w : World) (hv : WAt w v a) (hK : K ≤ 1000000) (ha : a < 4294967296 ^ K) : Calls Tryz.prog 284 #[v] w (MakesW (a / 2) w) := by
 obtain ⟨A,c,X,rfl,hl,hXo,hXt,rfl⟩ := hv.1
 have hl6 : X.length ≤ 1000000 := Nat.le_trans (wv_short hXt ha) hK
 obtain ⟨_,_,e,hc1,hc2,hcell⟩ := hl.open_
 injection e with e1 _ e2
 subst e1 e2
 unfold maxLen at hc2
 have HX := Lib.hid hcell
 have HXo := Lib.hid hXo
 obtain ⟨i0,hi0,hz0,hz1,hz2⟩ := info_parts info_u32
 have hbytes : i0.bytes * X.length ≤ 281474976710656 := by rw [hz2];omega
 clear hcell hl hXo hXt ha hK
 go_enter Tryz.func284,Tryz.ntmps284
 go_wp2_with (at_make;refine wpList_make_full _ rfl _ _ 219 rfl w.heap.size 232 i0 (.int .u32 0) 1 Tryz.underlying219 hi0 hz0 hz1 .i64 .i64 _ _ X.length rfl rfl rfl rfl hbytes (by unfold maxLen;omega) (Nat.le_refl _) ?_;intro w4 hown4 hgrow4)
 rw [made_u32] at hown4
 have hb4 := (Below.refl w.heap.size w).grown hgrow4 (Nat.le_refl _) (fun k hk => by cases hk)
 have HO4 : Hid (OwnW w4 w.heap.size X.length (List.replicate X.length 0)) := hown4
 have H00 : Hid (2 * wsum (wAt (List.replicate X.length 0)) 0 + wAt X 0 % 2 = wsum (wAt X) 0 + 4294967296 ^ 0 * (wAt X 0 % 2)) := by
  unfold Hid
  rw [Nat.pow_zero,Nat.one_mul]
  rfl
 obtain ⟨g,hg⟩ : ∃ g,w.heap.size = g := ⟨_,rfl⟩
 have hgw : w.heap.size ≤ g := Nat.le_of_eq hg
 rw [hg] at HO4
 simp only [hg]
 clear hown4 hgrow4 hi0 hz0 hz1 hbytes hg
 go_loopw [10] (fun ix wr => ∃ (k : Nat) (O : List Nat),k ≤ X.length ∧ ix = .int .i64 k ∧ Hid (OwnW wr g X.length O) ∧ Hid (Wok O) ∧ Hid (2 * wsum (wAt O) k + wAt X 0 % 2 = wsum (wAt X) k + 4294967296 ^ k * (wAt X k % 2)) ∧ Below w.heap.size w wr) (fun ix _ => X.length - (intOf ix).toNat)
 case atStart => exact ⟨0,_,Nat.zero_le _,rfl,HO4,Wok.zeros _,H00,hb4⟩
 case round =>
  clear HO4 hb4 H00
  obtain ⟨k,O,hk,rfl,HO,HW,HS4,hbel⟩ := hrel
  have k0 : (0 : Int) ≤ (k : Int) := Int.natCast_nonneg _
  by_cases hkx : k < X.length
  ·have z1 := HO.out.cell hkx
   have z2 := HO.out.frozen k
   have k1 : (k : Int) < (X.length : Int) := by omega
   obtain ⟨b1,o1,rfl,hb1,hxc⟩ := HX.out k hkx
   have hx := hxc k hkx
   unfold encU at hx
   have x0 : X[k] < 4294967296 := HXo.out _ (List.getElem_mem hkx)
   have hx := fun w' (hb : Below w.heap.size w w') => (hb.cell (p := ⟨b1,o1 + k,none⟩) hb1).trans hx
   have hx := hx _ hbel
   have HXe : Hid (wAt X k = X[k]) := wAt_get hkx
   generalize X[k] = x at *
   have x1 : (x : Int) < 4294967296 := by omega
   have x2 : (0 : Int) ≤ (x : Int) := Int.natCast_nonneg _
   by_cases hky : k + 1 < X.length
   ·have hy := hxc (k + 1) hky
    unfold encU at hy
    have y0 : X[k + 1] < 4294967296 := HXo.out _ (List.getElem_mem hky)
    have hy := fun w' (hb : Below w.heap.size w w') => (hb.cell (p := ⟨b1,o1 + (k + 1),none⟩) hb1).trans hy
    have HYe : Hid (wAt X (k + 1) = X[k + 1]) := wAt_get hky
    generalize X[k + 1] = y at *
    have y1 : (y : Int) < 4294967296 := by omega
    have y2 : (0 : Int) ≤ (y : Int) := Int.natCast_nonneg _
    have hd : decide ((k : Int) + 1 < X.length) = true := decide_eq_true (by omega)
    have k2 : (k : Int) + 1 < (X.length : Int) := by omega
    have HyH := Lib.hid hy
    clear hxc hy
    go_wp2_with fail
    have HO5 : Hid (OwnW (wr.setCell ⟨g,k,none⟩ (.int .u32 ((x : Int) / 2))) g X.length (O.set k (x / 2))) := HO.out.set_ k (x / 2)
    have hb5 : Below w.heap.size w (wr.setCell ⟨g,k,none⟩ (.int .u32 ((x : Int) / 2))) := hbel.setCell (p := ⟨g,k,none⟩) hgw _
    have y5 := HyH.out _ hb5
    have z3 := HO5.out.cell hkx
    rw [wAt_set (by rw [HO.out.len];exact hkx),if_pos rfl] at z3
    have z4 := HO5.out.frozen k
    clear z1 z2 hx hbel
    generalize wr.setCell ⟨g,k,none⟩ (.int .u32 ((x : Int) / 2)) = w5 at *
    refine wp_region_tail 12 (by kernel_rfl) (by kernel_rfl) ?_
    simp only [List.take_succ_cons,List.take_zero,List.drop_succ_cons,List.drop_zero]
    repeat (go_big_quiet_step (fail))
    refine wpQuiet_nil ?_
    go_wp2_with fail
    rw [half_or x y x0]
    have HO6 : Hid (OwnW ((w5.setCell ⟨g,k,none⟩ (.int .u32 ((x / 2 + 2147483648 * (y % 2) : Nat) : Int))).drew) g X.length (O.set k (wAt X k / 2 + 2147483648 * (wAt X (k + 1) % 2)))) := by
     rw [HXe.out,HYe.out]
     have := HO5.out.set_ k (x / 2 + 2147483648 * (y % 2))
     rw [List.set_set] at this
     exact this.drewN 1
    have HW5 : Hid (Wok (O.set k (wAt X k / 2 + 2147483648 * (wAt X (k + 1) % 2)))) := HW.out.set k (by rw [HXe.out,HYe.out];omega)
    have HB5 : Hid (Below w.heap.size w ((w5.setCell ⟨g,k,none⟩ (.int .u32 ((x / 2 + 2147483648 * (y % 2) : Nat) : Int))).drew)) := (hb5.setCell (p := ⟨g,k,none⟩) hgw _).drew
    have HS5 := Lib.hid (half_set (by rw [HO.out.len];exact hkx) HS4.out)
    clear HO HO5 HW HS4 hb5 z3 z4
    go_roundw
    case rel => exact ⟨k + 1,_,by omega,by go_num,HO6,HW5,HS5,HB5.out⟩
    case measure => simp [intOf];omega
   ·have HYe : Hid (wAt X (k + 1) = 0) := wAt_none (by omega)
    have hd : decide ((k : Int) + 1 < X.length) = false := decide_eq_false (by omega)
    clear hxc
    go_wp2_with fail
    have HO5 : Hid (OwnW (wr.setCell ⟨g,k,none⟩ (.int .u32 ((x : Int) / 2))) g X.length (O.set k (wAt X k / 2 + 2147483648 * (wAt X (k + 1) % 2)))) := by
     rw [HXe.out,HYe.out]
     exact HO.out.set_ k (x / 2)
    have HW5 : Hid (Wok (O.set k (wAt X k / 2 + 2147483648 * (wAt X (k + 1) % 2)))) := HW.out.set k (by rw [HXe.out,HYe.out];omega)
    have HB5 : Hid (Below w.heap.size w (wr.setCell ⟨g,k,none⟩ (.int .u32 ((x : Int) / 2)))) := hbel.setCell (p := ⟨g,k,none⟩) hgw _
    have HS5 := Lib.hid (half_set (by rw [HO.out.len];exact hkx) HS4.out)
    clear HO HW HS4 hbel z1 z2
    go_roundw
    case rel => exact ⟨k + 1,_,by omega,by go_num,HO5,HW5,HS5,HB5.out⟩
    case measure => simp [intOf];omega
  ·obtain rfl : k = X.length := by omega
   have hT := bmTrim (some ⟨g,0,none⟩) X.length wr.heap.size O wr HO.out.at_
   rw [HO.out.len] at hT
   have HZ : Hid (wv O = wv X / 2) := half_end HO.out.len HS4.out
   clear HS4 hk
   go_wp2_with fail
   refine hT.mono ?_
   rintro e w' ⟨rfl,rfl⟩
   obtain ⟨hm,ht,hv⟩ := trim_facts O
   have HT := Lib.hid ht
   have HV := Lib.hid hv
   clear ht hv hT
   go_wp2_with fail
   go_ret
   exact ⟨hbel,_,rfl,WAt.of_trim HO.out HW.out hm HT.out (HV.out.trans HZ.out),newV_at hgw⟩
end Go.Proofs.YtknkhnahflmjiaaGreatDoor

namespace Go.Proofs.YtknkhnahflmjiaaGreatDoor
open Go.RowKit Go.Shelf
theorem u32_and1 (n : Int) : bits .and .u32 n 1 = n % 2 := by
 have h1 : (BitVec.ofInt 32 1).toNat = 2 ^ 1 - 1 := by decide
 have key : (BitVec.ofInt 32 n &&& BitVec.ofInt 32 1).toNat = (n % ((2 ^ 32 : Nat) : Int)).toNat % 2 ^ 1 := by
  rw [BitVec.toNat_and,BitVec.toNat_ofInt,h1,Nat.and_two_pow_sub_one_eq_mod]
 show IntKind.u32.wrap ((BitVec.ofInt 32 n &&& BitVec.ofInt 32 1).toNat : Nat) = n % 2
 rw [key,wrap_u32']
 omega
theorem u32_bit (x t : Nat) : (bits .and .u32 ((x : Int) / 2 ^ t) 1 == 1) = decide (x / 2 ^ t % 2 = 1) := by
 have h1 : ((x : Int) / 2 ^ t) % 2 = ((x / 2 ^ t % 2 : Nat) : Int) := by
  rw [Int.natCast_emod,Int.natCast_ediv,Int.natCast_pow]
  rfl
 rw [u32_and1,h1,Bool.eq_iff_iff,beq_iff_eq,decide_eq_true_eq]
 omega
theorem or_bit {o t : Nat} (ho : o < 4294967296) (ht : t < 32) : bits .or .u32 (o : Int) ((2 : Int) ^ t % 4294967296) = ((o ||| 2 ^ t : Nat) : Int) := by
 have h2 : (2 : Nat) ^ t < 2 ^ 32 := Nat.pow_lt_pow_right (by decide) ht
 have e : ((2 : Int) ^ t % 4294967296) = ((2 ^ t : Nat) : Int) := by
  have e1 : ((2 : Int) ^ t) = ((2 ^ t : Nat) : Int) := by rw [Int.natCast_pow];rfl
  rw [e1]
  have h3 : (2 : Nat) ^ 32 = 4294967296 := rfl
  rw [h3] at h2
  generalize (2 : Nat) ^ t = n at *
  omega
 rw [e,bits_or_u32 _ _ ho h2]
theorem WAt.one (w : World) : WAt (w.alloc (.cells #[.int .u32 1] 232)) (.slice (some ⟨w.heap.size,0,none⟩) 1 1) 1 := by
 refine ⟨⟨some ⟨w.heap.size,0,none⟩,1,[1],rfl,⟨some ⟨w.heap.size,0,none⟩,1,rfl,Nat.le_refl _,by unfold maxLen;omega,fun _ => ⟨w.heap.size,0,rfl,by simp,fun j u hu => ?_⟩⟩,fun x hx => ?_,fun _ => ?_,rfl⟩,fun g e => ?_⟩
 ·rw [Nat.zero_add,(Blk.new w 232 #[.int .u32 1]).cell]
  simpa [encU] using hu
 ·rw [List.mem_singleton.1 hx];decide
 ·show wAt [1] 0 ≠ 0
  decide
 ·obtain rfl : w.heap.size = g := by simpa [Value.ownBlock] using e
  exact ⟨_,_,Blk.new w 232 #[.int .u32 1]⟩
set_option maxRecDepth 100000 in
set_option maxHeartbeats 4000000 in
theorem bmDiv (v u : Value) (a b K : Nat) (w : World) (hv : WAt w v a) (hu : WAt w u b) (hK : K ≤ 500000) (ha : a < 4294967296 ^ K) (hb : b < 4294967296 ^ K) (hb0 : 0 < b) : Calls Tryz.prog 268 #[v,u] w (MakesW (a / b) w) := by
 have HU := Lib.hid hu
 obtain ⟨A,c,X,rfl,hl,hXo,hXt,rfl⟩ := hv.1
 obtain ⟨A',c',Y,rfl,hm,hYo,hYt,rfl⟩ := hu.1
 have hl6 : X.length ≤ 500000 := Nat.le_trans (wv_short hXt ha) hK
 obtain ⟨_,_,e,hc1,hc2,hcell⟩ := hl.open_
 injection e with e1 _ e2
 subst e1 e2
 unfold maxLen at hc2
 have HX := Lib.hid hcell
 have HXo := Lib.hid hXo
 have HK1 : Hid (K + 1 ≤ 1000000) := by unfold Hid;omega
 have HB : Hid (wv Y < 4294967296 ^ K) := hb
 have HB0 := Lib.hid hb0
 obtain ⟨i0,hi0,hz0,hz1,hz2⟩ := info_parts info_u32
 have hbytes : i0.bytes * X.length ≤ 281474976710656 := by rw [hz2];omega
 clear hcell hl hm hXo hXt hYo hYt ha hK hb hb0
 go_enter Tryz.func268,Tryz.ntmps268
 go_wp2_with (at_make;refine wpList_make_full _ rfl _ _ 219 rfl w.heap.size 232 i0 (.int .u32 0) 1 Tryz.underlying219 hi0 hz0 hz1 .i64 .i64 _ _ X.length rfl rfl rfl rfl hbytes (by unfold maxLen;omega) (Nat.le_refl _) ?_;intro w4 hown4 hgrow4)
 rw [made_u32] at hown4
 have hb4 := (Below.refl w.heap.size w).grown hgrow4 (Nat.le_refl _) (fun k hk => by cases hk)
 have HO4 : Hid (OwnW w4 w.heap.size X.length (List.replicate X.length 0)) := hown4
 have HD4 : Hid (DivSt (wv X) (wv Y) (32 * X.length) (List.replicate X.length 0) 0) := DivSt.start (wv_lt HXo.out) _
 obtain ⟨g,hg⟩ : ∃ g,w.heap.size = g := ⟨_,rfl⟩
 have hgw : w.heap.size ≤ g := Nat.le_of_eq hg
 rw [hg] at HO4
 simp only [hg]
 clear hown4 hgrow4 hi0 hz0 hz1 hbytes hg
 go_loopw [6,7] (fun rx ix wr => ∃ (I r : Nat) (O : List Nat),I ≤ 32 * X.length ∧ ix = .int .i64 ((I : Int) - 1) ∧ Hid (OwnW wr g X.length O) ∧ Hid (Wok O) ∧ Hid (DivSt (wv X) (wv Y) I O r) ∧ Hid (WAt wr rx r) ∧ Below w.heap.size w wr) (fun _ ix _ => (intOf ix + 1).toNat)
 case atStart => exact ⟨32 * X.length,0,_,Nat.le_refl _,by go_num,HO4,Wok.zeros _,HD4,WAt.nil _,hb4⟩
 case round =>
  clear HO4 hb4 HD4
  obtain ⟨I,r,O,hI,rfl,HO,HW,HD,HR,hbel⟩ := hrel
  cases I with
  | zero =>
   have hT := bmTrim (some ⟨g,0,none⟩) X.length _ O _ HO.out.at_
   rw [HO.out.len] at hT
   have HZ : Hid (wv O = wv X / wv Y) := HD.out.done HO.out.len (wv_lt HXo.out)
   go_wp2_with fail
   refine hT.mono ?_
   rintro e w' ⟨rfl,rfl⟩
   obtain ⟨hm,ht,hv⟩ := trim_facts O
   have HT := Lib.hid ht
   have HV := Lib.hid hv
   clear ht hv hT
   go_wp2_with fail
   go_ret
   exact ⟨hbel,_,rfl,WAt.of_trim HO.out HW.out hm HT.out (HV.out.trans HZ.out),newV_at hgw⟩
  | succ i =>
   rw [show (((i + 1 : Nat) : Int) - 1) = (i : Int) by omega]
   have hj : i / 32 < X.length := by omega
   have i0 : (0 : Int) ≤ (i : Int) := Int.natCast_nonneg _
   have i1 : (i : Int) / 32 < (X.length : Int) := by omega
   have i2 : ((i : Int) / 32).toNat = i / 32 := by omega
   have i3 : ((i : Int) % 32).toNat = i % 32 := by omega
   obtain ⟨b1,o1,rfl,hb1,hxc⟩ := HX.out (i / 32) hj
   have hx := hxc (i / 32) hj
   unfold encU at hx
   have HXe : Hid (wAt X (i / 32) = X[i / 32]) := wAt_get hj
   have HBit := Lib.hid (bit_of HXo.out hj)
   have x0 : X[i / 32] < 4294967296 := HXo.out _ (List.getElem_mem hj)
   have HR1 : Hid (r < 4294967296 ^ (K + 1)) := by
    unfold Hid
    have h1 := HD.out.lt HB0.out
    have h2 := HB.out
    rw [Nat.pow_succ]
    omega
   clear hxc
   generalize X[i / 32] = x at *
   go_wp2_with fail
   refine (bmAdd _ _ r r (K + 1) _ HR.out HR.out HK1.out HR1.out HR1.out).mono ?_
   rintro e w5 ⟨hb5,rv,rfl,hR5,-⟩
   have hx := (hbel.cell (p := ⟨b1,o1 + i / 32,none⟩) hb1).trans hx
   have hx := (hb5.cell (p := ⟨b1,o1 + i / 32,none⟩) (Nat.lt_of_lt_of_le hb1 hbel.size)).trans hx
   have hbel5 := hbel.trans (hb5.mono hbel.size)
   have HO5 := Lib.hid (HO.out.below hb5)
   have HR5 := Lib.hid hR5
   clear HR HO hbel hb5 hR5
   have HN : Hid (r < 4294967296 ^ K) := Nat.lt_trans (HD.out.lt HB0.out) HB.out
   rcases Nat.mod_two_eq_zero_or_one (wv X / 2 ^ i) with hbit | hbit
   case' inl =>
    have hq : (bits .and .u32 ((x : Int) / 2 ^ (i % 32)) 1 == 1) = false := by rw [u32_bit,← HXe.out,HBit.out,hbit];rfl
    have HS : Hid (r + r = 2 * r + wv X / 2 ^ i % 2) := by unfold Hid;omega
    clear hbit
    go_wp2_with fail
    obtain ⟨s,hs⟩ : ∃ s,s = r + r := ⟨_,rfl⟩
    rw [← hs] at HR5 HS
    have HSr : Hid (s ≤ 2 * r + 1) := by unfold Hid;omega
    clear hs
    have hbel6 := hbel5
    have HO6 := HO5
    have HR6 := HR5
    clear hbel5 HO5 HR5 hx
    obtain ⟨w6,rfl⟩ : ∃ w6,w6 = w5 := ⟨_,rfl⟩
   case' inr =>
    have hq : (bits .and .u32 ((x : Int) / 2 ^ (i % 32)) 1 == 1) = true := by rw [u32_bit,← HXe.out,HBit.out,hbit];rfl
    have HS : Hid (r + r + 1 = 2 * r + wv X / 2 ^ i % 2) := by unfold Hid;omega
    clear hbit
    go_wp2_with fail
    refine (bmAdd _ _ (r + r) 1 (K + 1) _ (HR5.out.grow ((Below.refl _ _).alloc (Nat.le_refl _) _)) (WAt.one _) HK1.out (by have := HN.out;rw [Nat.pow_succ];omega) (Nat.one_lt_pow (by omega) (by decide))).mono ?_
    rintro e w6 ⟨hb6,rv,rfl,hR6,-⟩
    have hb6 := ((Below.refl _ w5).alloc (Nat.le_refl _) _).trans (hb6.mono (by simp))
    have hbel6 := hbel5.trans (hb6.mono hbel5.size)
    have HO6 := Lib.hid (HO5.out.below hb6)
    have HR6 := Lib.hid hR6
    clear HO5 hbel5 hb6 hR6 HR5 hx
    obtain ⟨s,hs⟩ : ∃ s,s = r + r + 1 := ⟨_,rfl⟩
    rw [← hs] at HR6 HS
    have HSr : Hid (s ≤ 2 * r + 1) := by unfold Hid;omega
    clear hs
    go_wp2_with fail
   all_goals
    have HU6 := Lib.hid (HU.out.grow hbel6)
    refine (bmCmp _ _ s (wv Y) _ HR6.out HU6.out).mono ?_
    rintro e w7 ⟨⟨q7,rfl⟩,c7,rfl,-,hc7⟩
    by_cases hge : wv Y ≤ s
    ·have hd : decide (0 ≤ c7) = true := by rw [hc7];exact decide_eq_true hge
     clear hc7
     have HG := Lib.hid hge
     clear hge
     go_wp2_with fail
     refine (bmTake _ _ s (wv Y) (K + 1) _ (HR6.out.drewN q7) (HU6.out.drewN q7) HK1.out (by have := HN.out;have := HSr.out;rw [Nat.pow_succ];omega) HG.out).mono ?_
     rintro e w8 ⟨hb8,rv8,rfl,hR8,hN8⟩
     have hb8 : Below w6.heap.size w6 w8 := (below_drewN (Below.refl _ _) q7).trans hb8
     have hbel8 := hbel6.trans (hb8.mono hbel6.size)
     have HO8 := Lib.hid (HO6.out.below hb8)
     have HR8 := Lib.hid hR8
     have HgN : Hid (rv8.ownBlock ≠ some g) := fun e => by
      have h1 := hN8 g e
      have h2 := HO6.out.lt
      have h3 : (w6.drewN q7).heap.size = w6.heap.size := rfl
      omega
     have hj2 : i / 32 < O.length := by rw [HO8.out.len];exact hj
     have HD8 := Lib.hid (HD.out.yes HB0.out hj2 HS.out HG.out)
     have z1 := HO8.out.cell hj
     have z2 := HO8.out.frozen (i / 32)
     have HOr2 : Hid (bits .or .u32 ((wAt O (i / 32) : Nat) : Int) ((2 : Int) ^ (i % 32) % 4294967296) = ((wAt O (i / 32) ||| 2 ^ (i % 32) : Nat) : Int)) := or_bit (wAt_lt HW.out _) (Nat.mod_lt _ (by decide))
     have HOr : Hid (wAt O (i / 32) ||| 2 ^ (i % 32) < 4294967296) := Nat.or_lt_two_pow (n := 32) (wAt_lt HW.out _) (Nat.pow_lt_pow_right (by decide) (Nat.mod_lt _ (by decide)))
     clear HO6 HR6 hb8 hR8 hN8 hbel6 HU6 HD
     go_wp2_with fail
     refine wp_region_tail 10 (by kernel_rfl) (by kernel_rfl) ?_
     simp only [List.take_succ_cons,List.take_zero,List.drop_succ_cons,List.drop_zero]
     repeat (go_big_quiet_step (fail))
     refine wpQuiet_nil ?_
     go_wp2_with fail
     rw [HOr2.out]
     have HO9 : Hid (OwnW ((w8.setCell ⟨g,i / 32,none⟩ (.int .u32 ((wAt O (i / 32) ||| 2 ^ (i % 32) : Nat) : Int))).drew) g X.length (O.set (i / 32) (wAt O (i / 32) ||| 2 ^ (i % 32)))) := (HO8.out.set_ (i / 32) _).drewN 1
     have HW9 : Hid (Wok (O.set (i / 32) (wAt O (i / 32) ||| 2 ^ (i % 32)))) := HW.out.set _ HOr.out
     have HR9 : Hid (WAt ((w8.setCell ⟨g,i / 32,none⟩ (.int .u32 ((wAt O (i / 32) ||| 2 ^ (i % 32) : Nat) : Int))).drew) rv8 (s - wv Y)) := (HR8.out.other g (i / 32) _ HgN.out).drewN 1
     have HB9 : Hid (Below w.heap.size w ((w8.setCell ⟨g,i / 32,none⟩ (.int .u32 ((wAt O (i / 32) ||| 2 ^ (i % 32) : Nat) : Int))).drew)) := (hbel8.setCell (p := ⟨g,i / 32,none⟩) hgw _).drew
     clear HO8 HR8 hbel8 z1 z2 HW
     go_roundw
     case rel => exact ⟨i,s - wv Y,_,by omega,by go_num,HO9,HW9,HD8,HR9,HB9.out⟩
     case measure => simp [intOf]
    ·have hd : decide (0 ≤ c7) = false := by rw [hc7];exact decide_eq_false hge
     clear hc7
     have HD8 := Lib.hid (HD.out.no HB0.out HS.out (Nat.not_le.1 hge))
     have HO8 := Lib.hid (HO6.out.drewN q7)
     have HR8 := Lib.hid (HR6.out.drewN q7)
     have HB8 := Lib.hid (below_drewN hbel6 q7)
     clear hge HO6 HR6 hbel6 HU6 HD
     go_wp2_with fail
     go_roundw
     case rel => exact ⟨i,s,O,by omega,by go_num,HO8,HW,HD8,HR8,HB8.out⟩
     case measure => simp [intOf]
end Go.Proofs.YtknkhnahflmjiaaGreatDoor

namespace Go.Proofs.YtknkhnahflmjiaaGreatDoor
open Go.RowKit Go.Shelf
def MadeW (z : Nat) (w : World) (e : Ending) (w' : World) : Prop := Below w.heap.size w w' ∧ ∃ v,e = .returned v ∧ WAt w' v z
theorem WAt.first {w : World} {v : Value} {z : Nat} (h : WAt w v z) (hz : 0 < z) : ∃ (b off n c x : Nat),v = .slice (some ⟨b,off,none⟩) n c ∧ 0 < n ∧ n ≤ 9223372036854775807 ∧ w.cell? ⟨b,off,none⟩ = some (.int .u32 (x : Int)) ∧ x < 4294967296 ∧ x % 2 = z % 2 := by
 obtain ⟨A,c,L,rfl,hl,hLo,hLt,rfl⟩ := h.1
 obtain ⟨_,_,e,hc1,hc2,hcell⟩ := hl.open_
 injection e with e1 _ e2
 subst e1 e2
 have hp : 0 < L.length := by
  rcases Nat.eq_zero_or_pos L.length with h | h
  ·rw [List.length_eq_zero_iff.1 h] at hz
   exact absurd hz (by decide)
  ·exact h
 obtain ⟨b,off,rfl,-,hx⟩ := hcell 0 hp
 have h0 := hx 0 hp
 have hb := bit_of hLo (i := 0) hp
 rw [Nat.zero_div,Nat.zero_mod,Nat.pow_zero,Nat.div_one,Nat.div_one,wAt_get hp] at hb
 unfold maxLen at hc2
 exact ⟨b,off,L.length,c,L[0],rfl,hp,by omega,h0,hLo _ (List.getElem_mem hp),hb⟩
theorem WAt.zero {w : World} {v : Value} (h : WAt w v 0) : ∃ A c,v = .slice A 0 c := by
 obtain ⟨A,c,L,rfl,hl,hLo,hLt,hz⟩ := h.1
 rw [(wv_zero hLt).1 hz]
 exact ⟨A,c,rfl⟩
theorem u32_even (x : Nat) : (bits .and .u32 (x : Int) 1 == 0) = decide (x % 2 = 0) := by
 rw [u32_and1,Bool.eq_iff_iff,beq_iff_eq,decide_eq_true_eq]
 omega
theorem even_yes {x z : Nat} (h : x % 2 = z % 2) (hz : z % 2 = 0) : (bits .and .u32 (x : Int) 1 == 0) = true := by rw [u32_even];exact decide_eq_true (by omega)
theorem even_no {x z : Nat} (h : x % 2 = z % 2) (hz : ¬ z % 2 = 0) : (bits .and .u32 (x : Int) 1 == 0) = false := by rw [u32_even];exact decide_eq_false (by omega)
structure Twos (M a b t x y : Nat) : Prop where
 x0 : 0 < x
 y0 : 0 < y
 xm : 2 ^ t * x < M
 ym : y < M
 g : Nat.gcd a b = 2 ^ t * Nat.gcd x y
theorem Twos.half {M a b t x y : Nat} (h : Twos M a b t x y) (hx : x % 2 = 0) (hy : y % 2 = 0) : Twos M a b (t + 1) (x / 2) (y / 2) := by
 have hx0 := h.x0
 have hy0 := h.y0
 have hxm := h.xm
 have hym := h.ym
 refine ⟨by omega,by omega,?_,by omega,?_⟩
 ·rw [Nat.pow_succ,Nat.mul_assoc,show 2 * (x / 2) = x by omega]
  exact hxm
 ·rw [h.g,gcd_half_both hx hy,Nat.pow_succ,Nat.mul_assoc]
theorem Twos.xlt {M a b t x y : Nat} (h : Twos M a b t x y) : x < M := Nat.lt_of_le_of_lt (Nat.le_mul_of_pos_left _ (Nat.two_pow_pos t)) h.xm
theorem Twos.few {K a b t x y : Nat} (h : Twos (4294967296 ^ K) a b t x y) : t < 32 * K := by
 have h1 : 2 ^ t * 1 ≤ 2 ^ t * x := Nat.mul_le_mul_left _ h.x0
 have h2 := h.xm
 rw [base_pow] at h2
 rw [Nat.mul_one] at h1
 exact (Nat.pow_lt_pow_iff_right (a := 2) (by decide)).1 (Nat.lt_of_le_of_lt h1 h2)
theorem Twos.glt {M a b t x y : Nat} (h : Twos M a b t x y) : 2 ^ t * Nat.gcd x y < M := Nat.lt_of_le_of_lt (Nat.mul_le_mul_left _ (Nat.gcd_le_left _ h.x0)) h.xm
structure Stn (M G x y : Nat) : Prop where
 y0 : 0 < y
 xm : x < M
 ym : y < M
 g : Nat.gcd x y = G
 odd : x % 2 = 1 ∨ y % 2 = 1
theorem Stn.left {M G x y : Nat} (h : Stn M G x y) (hx : x % 2 = 0) : Stn M G (x / 2) y := by
 have hxm := h.xm
 have ho : y % 2 = 1 := by have := h.odd;omega
 exact ⟨h.y0,by omega,h.ym,by rw [gcd_half_l hx ho];exact h.g,.inr ho⟩
theorem Stn.right {M G x y : Nat} (h : Stn M G x y) (hx : x % 2 = 1) (hy : y % 2 = 0) : Stn M G x (y / 2) := by
 have hy0 := h.y0
 have hym := h.ym
 exact ⟨by omega,h.xm,by omega,by rw [gcd_half_r hx hy];exact h.g,.inl hx⟩
theorem Stn.swap {M G x y : Nat} (h : Stn M G x y) (hx : x % 2 = 1) : Stn M G y x := ⟨by omega,h.ym,h.xm,by rw [Nat.gcd_comm];exact h.g,.inr hx⟩
theorem Stn.diff {M G x y : Nat} (h : Stn M G x y) (hy : y % 2 = 1) (hle : y ≤ x) : Stn M G (x - y) y := by
 have hxm := h.xm
 exact ⟨h.y0,by omega,h.ym,by rw [gcd_diff hle];exact h.g,.inr hy⟩
set_option maxRecDepth 100000 in
set_option maxHeartbeats 4000000 in
theorem bmCommon (v u : Value) (a b K : Nat) (w : World) (hv : WAt w v a) (hu : WAt w u b) (hK : K ≤ 500000) (ha : a < 4294967296 ^ K) (hb : b < 4294967296 ^ K) (ha0 : 0 < a) (hb0 : 0 < b) : Calls Tryz.prog 267 #[v,u] w (MadeW (Nat.gcd a b) w) := by
 have HA := Lib.hid hv
 have HB := Lib.hid hu
 have HK : Hid (K ≤ 500000) := hK
 have HK1 : Hid (K ≤ 1000000) := by unfold Hid;omega
 have HS : Hid (Twos (4294967296 ^ K) a b 0 a b) := ⟨ha0,hb0,by rw [Nat.pow_zero,Nat.one_mul];exact ha,hb,by rw [Nat.pow_zero,Nat.one_mul]⟩
 clear hv hu hK ha hb ha0 hb0
 go_enter Tryz.func267,Tryz.ntmps267
 go_wp2_with fail
 go_loopg [0,1,5] a (fun gk va vb tw wr => ∃ y t : Nat,tw = .int .i64 t ∧ Hid (WAt wr va gk) ∧ Hid (WAt wr vb y) ∧ Hid (Twos (4294967296 ^ K) a b t gk y) ∧ Below w.heap.size w wr)
 case atStart => exact ⟨b,0,rfl,HA,HB,HS,Below.refl _ _⟩
 case round =>
  clear HA HB HS
  obtain ⟨y,t,rfl,HA,HB,HS,hbel⟩ := hrel
  obtain ⟨x,rfl⟩ : ∃ x,x = gk := ⟨_,rfl⟩
  have HA' := HA
  have HB' := HB
  obtain ⟨b1,o1,n1,c1,x1,rfl,hn1,hm1,hc1,hl1,he1⟩ := HA.out.first HS.out.x0
  obtain ⟨b2,o2,n2,c2,x2,rfl,hn2,hm2,hc2,hl2,he2⟩ := HB.out.first HS.out.y0
  have ht : t < 16000000 := by have := HS.out.few;have := HK.out;omega
  have n1i : (0 : Int) < (n1 : Int) := by omega
  have n2i : (0 : Int) < (n2 : Int) := by omega
  by_cases hx : x % 2 = 0
  case' pos =>
   have q1 := even_yes he1 hx
   by_cases hy : y % 2 = 0
   case' pos =>
    have q2 := even_yes he2 hy
    have HS2 := Lib.hid (HS.out.half hx hy)
    clear hx hy he1 he2
    go_wp2_with fail
    refine (bmHalf _ x K _ HA'.out HK1.out HS.out.xlt).mono ?_
    rintro e w5 ⟨hb5,va,rfl,hA5,-⟩
    have HA5 := Lib.hid hA5
    have HB5 := Lib.hid (HB'.out.grow hb5)
    clear hc1 hc2 hA5
    go_wp2_with fail
    refine (bmHalf _ y K _ HB5.out HK1.out HS.out.ym).mono ?_
    rintro e w6 ⟨hb6,vb,rfl,hB6,-⟩
    have HA6 := Lib.hid (HA5.out.grow hb6)
    have HB6 := Lib.hid hB6
    have HBe := Lib.hid (hbel.trans ((hb5.trans (hb6.mono hb5.size)).mono hbel.size))
    clear hB6 hb5 hb6 HA5 HB5 hbel HA HB HA' HB'
    have hlt : Hid (x / 2 < x) := Nat.div_lt_self HS.out.x0 (by decide)
    clear HS
    go_wp2_with fail
    go_roundg (x / 2)
    case rel => exact ⟨y / 2,t + 1,by go_num,HA6,HB6,HS2,HBe.out⟩
    case measure => exact hlt.out
   case' neg =>
    have q2 := even_no he2 hy
    have HT : Hid (Stn (4294967296 ^ K) (Nat.gcd x y) x y) := ⟨HS.out.y0,HS.out.xlt,HS.out.ym,rfl,.inr (by omega)⟩
    clear hx hy he1 he2
    go_wp2_with fail
  case' neg =>
   have q1 := even_no he1 hx
   have HT : Hid (Stn (4294967296 ^ K) (Nat.gcd x y) x y) := ⟨HS.out.y0,HS.out.xlt,HS.out.ym,rfl,.inl (by omega)⟩
   clear hx he1 he2
   go_wp2_with fail
  all_goals
   have HF : Hid (2 ^ t * Nat.gcd x y < 4294967296 ^ K) := HS.out.glt
   have HG : Hid (Nat.gcd a b = 2 ^ t * Nat.gcd x y) := HS.out.g
   obtain ⟨wo,rfl⟩ : ∃ wo : World,wo = wr := ⟨_,rfl⟩
   obtain ⟨G,HGe⟩ : ∃ G,Hid (Nat.gcd x y = G) := ⟨_,rfl⟩
   rw [HGe.out] at HF HG HT
   clear hc1 hc2 HS q1
   go_loopg [0,1] (x + y) (fun gk va vb wr => ∃ x2 y2 : Nat,x2 + y2 = gk ∧ Hid (WAt wr va x2) ∧ Hid (WAt wr vb y2) ∧ Hid (Stn (4294967296 ^ K) G x2 y2) ∧ Below w.heap.size w wr)
   case atStart => exact ⟨x,y,rfl,HA',HB',HT,hbel⟩
   case round =>
    clear HA HB HA' HB' HT hbel HGe
    obtain ⟨x2,y2,rfl,HA,HB,HS,hbel⟩ := hrel
    rcases Nat.eq_zero_or_pos x2 with h0 | h0
    ·subst h0
     obtain ⟨A,c,rfl⟩ := HA.out.zero
     have HGy : Hid (y2 = G) := by
      unfold Hid
      rw [← HS.out.g,Nat.gcd_zero_left]
     clear HS HA
     rw [HGy.out] at HB
     clear HGy
     go_wp2_with fail
     go_loopw [1,51] (fun vb jx wr => ∃ j : Nat,j ≤ t ∧ jx = .int .i64 j ∧ Hid (WAt wr vb (2 ^ j * G)) ∧ Below w.heap.size w wr) (fun _ jx _ => t - (intOf jx).toNat)
     case atStart => exact ⟨0,Nat.zero_le _,rfl,by rw [Nat.pow_zero,Nat.one_mul];exact HB,hbel⟩
     case round =>
      clear HB hbel
      obtain ⟨j,hj,rfl,HB,hbel⟩ := hrel
      by_cases hjt : j < t
      ·have HL : Hid (2 ^ j * G < 4294967296 ^ K) := Nat.lt_of_le_of_lt (Nat.mul_le_mul_right _ (Nat.pow_le_pow_right (by decide) hj)) HF.out
       have HE : Hid (2 ^ j * G + 2 ^ j * G = 2 ^ (j + 1) * G) := by unfold Hid;rw [Nat.pow_succ,Nat.mul_assoc,Nat.mul_left_comm];omega
       go_wp2_with fail
       refine (bmAdd _ _ (2 ^ j * G) (2 ^ j * G) K _ HB.out HB.out HK1.out HL.out HL.out).mono ?_
       rintro e w5 ⟨hb5,vb5,rfl,hB5,-⟩
       rw [HE.out] at hB5
       have HB5 := Lib.hid hB5
       have HBe := Lib.hid (hbel.trans (hb5.mono hbel.size))
       clear hb5 hB5 HE HL HB hbel
       go_wp2_with fail
       go_roundw
       case rel => exact ⟨j + 1,by omega,by go_num,HB5,HBe.out⟩
       case measure => simp [intOf];omega
      ·obtain rfl : j = t := by omega
       go_wp2_with fail
       go_ret
       exact ⟨hbel,_,rfl,by rw [HG.out];exact HB.out⟩
    ·have HA' := HA
     obtain ⟨b3,o3,n3,c3,x3,rfl,hn3,hm3,hc3,hl3,he3⟩ := HA.out.first h0
     have H0 := Lib.hid h0
     have HBk := HB
     obtain ⟨bb,ob,nb,cb,zb,rfl,-,-,-,-,-⟩ := HB.out.first HS.out.y0
     clear hc3 hl3 he3 h0 HA HB
     have HB := HBk
     clear HBk
     have hn : (0 : Int) < (n3 : Int) := by omega
     go_wp2_with fail
     obtain ⟨wo2,rfl⟩ : ∃ wo2 : World,wo2 = wr := ⟨_,rfl⟩
     go_loopg [0] x2 (fun gk va wr => Hid (WAt wr va gk) ∧ Hid (WAt wr (.slice (some ⟨bb,ob,none⟩) nb cb) y2) ∧ Hid (Stn (4294967296 ^ K) G gk y2) ∧ Hid (0 < gk ∧ gk ≤ x2) ∧ Below w.heap.size w wr)
     case atStart => exact ⟨HA',HB,HS,⟨H0.out,Nat.le_refl _⟩,hbel⟩
     case round =>
      clear HA' HB HS H0 hbel
      obtain ⟨HA,HB,HS,HR,hbel⟩ := hrel
      obtain ⟨x4,rfl⟩ : ∃ x4,x4 = gk := ⟨_,rfl⟩
      have HA' := HA
      obtain ⟨b4,o4,n4,c4,z4,rfl,hn4,hm4,hc4,hl4,he4⟩ := HA.out.first HR.out.1
      clear HA
      have hn4i : (0 : Int) < (n4 : Int) := by omega
      by_cases hev : x4 % 2 = 0
      ·have q1 := even_yes he4 hev
       have HS5 := Lib.hid (HS.out.left hev)
       have HR5 : Hid (0 < x4 / 2 ∧ x4 / 2 ≤ x2) := by have := HR.out;unfold Hid;omega
       have HM5 : Hid (x4 / 2 < x4) := Nat.div_lt_self HR.out.1 (by decide)
       clear hev he4
       go_wp2_with fail
       refine (bmHalf _ x4 K _ HA'.out HK1.out HS.out.xm).mono ?_
       rintro e w5 ⟨hb5,va5,rfl,hA5,-⟩
       have HA5 := Lib.hid hA5
       have HB5 := Lib.hid (HB.out.grow hb5)
       have HBe := Lib.hid (hbel.trans (hb5.mono hbel.size))
       clear hb5 hA5 HB hbel HA' hc4 HS HR q1
       go_wp2_with fail
       go_roundg (x4 / 2)
       case rel => exact ⟨HA5,HB5,HS5,HR5,HBe.out⟩
       case measure => exact HM5.out
      ·have q1 := even_no he4 hev
       have HOd : Hid (x4 % 2 = 1) := by unfold Hid;omega
       clear hev he4
       go_wp2_with fail
       obtain ⟨wo3,rfl⟩ : ∃ wo3 : World,wo3 = wr := ⟨_,rfl⟩
       clear hc4 q1
       go_loopg [1] y2 (fun gk vb wr => Hid (WAt wr (.slice (some ⟨b4,o4,none⟩) n4 c4) x4) ∧ Hid (WAt wr vb gk) ∧ Hid (Stn (4294967296 ^ K) G x4 gk) ∧ Hid (gk ≤ y2) ∧ Below w.heap.size w wr)
       case atStart => exact ⟨HA',HB,HS,Nat.le_refl _,hbel⟩
       case round =>
        clear HA' HB HS hbel
        obtain ⟨HA,HB,HS,HY,hbel⟩ := hrel
        obtain ⟨y4,rfl⟩ : ∃ y4,y4 = gk := ⟨_,rfl⟩
        have HB' := HB
        obtain ⟨b5,o5,n5,c5,z5,rfl,hn5,hm5,hc5,hl5,he5⟩ := HB.out.first HS.out.y0
        clear HB
        have hn5i : (0 : Int) < (n5 : Int) := by omega
        by_cases hev : y4 % 2 = 0
        ·have q1 := even_yes he5 hev
         have HS5 := Lib.hid (HS.out.right HOd.out hev)
         have HY5 : Hid (y4 / 2 ≤ y2) := by have := HY.out;unfold Hid;omega
         have HM5 : Hid (y4 / 2 < y4) := Nat.div_lt_self HS.out.y0 (by decide)
         clear hev he5
         go_wp2_with fail
         refine (bmHalf _ y4 K _ HB'.out HK1.out HS.out.ym).mono ?_
         rintro e w5 ⟨hb5,vb5,rfl,hB5,-⟩
         have HB5 := Lib.hid hB5
         have HA5 := Lib.hid (HA.out.grow hb5)
         have HBe := Lib.hid (hbel.trans (hb5.mono hbel.size))
         clear hb5 hB5 HB' hbel HA hc5 HS HY q1
         go_wp2_with fail
         go_roundg (y4 / 2)
         case rel => exact ⟨HA5,HB5,HS5,HY5,HBe.out⟩
         case measure => exact HM5.out
        ·have q1 := even_no he5 hev
         have HOy : Hid (y4 % 2 = 1) := by unfold Hid;omega
         clear hev he5
         go_wp2_with fail
         refine (bmCmp _ _ x4 y4 _ HA.out HB'.out).mono ?_
         rintro e w7 ⟨⟨q7,rfl⟩,r7,rfl,hc7,-⟩
         have HA7 := Lib.hid (HA.out.drewN q7)
         have HB7 := Lib.hid (HB'.out.drewN q7)
         have HBe := Lib.hid (below_drewN hbel q7)
         clear HA HB' hbel hc5 q1
         by_cases hlt : x4 < y4
         ·have hd : decide (r7 < 0) = true := by rw [hc7];exact decide_eq_true hlt
          have HLe := Lib.hid (Nat.le_of_lt hlt)
          have HS7 := Lib.hid ((HS.out.swap HOd.out).diff HOd.out (Nat.le_of_lt hlt))
          have HM : Hid (y4 - x4 + x4 < x2 + y2) := by have := HR.out;have := HY.out;unfold Hid;omega
          clear hlt hc7
          go_wp2_with fail
          refine (bmTake _ _ y4 x4 K _ HB7.out HA7.out HK1.out HS.out.ym HLe.out).mono ?_
          rintro e w8 ⟨hb8,v8,rfl,hR8,-⟩
          have HR8 := Lib.hid hR8
          have HA8 := Lib.hid (HA7.out.grow hb8)
          have HB8 := Lib.hid (HBe.out.trans (hb8.mono HBe.out.size))
          clear hb8 hR8 HA7 HB7 HBe HS
          go_wp2_with fail
          go_roundg (y4 - x4 + x4)
          case rel => exact ⟨y4 - x4,x4,rfl,HR8,HA8,HS7,HB8.out⟩
          case measure => exact HM.out
         ·have hd : decide (r7 < 0) = false := by rw [hc7];exact decide_eq_false hlt
          have HLe := Lib.hid (Nat.not_lt.1 hlt)
          have HS7 := Lib.hid (HS.out.diff HOy.out (Nat.not_lt.1 hlt))
          have HM : Hid (x4 - y4 + y4 < x2 + y2) := by have := HR.out;have := HY.out;have := HS.out.y0;unfold Hid;omega
          clear hlt hc7
          go_wp2_with fail
          refine (bmTake _ _ x4 y4 K _ HA7.out HB7.out HK1.out HS.out.xm HLe.out).mono ?_
          rintro e w8 ⟨hb8,v8,rfl,hR8,-⟩
          have HR8 := Lib.hid hR8
          have HB8 := Lib.hid (HB7.out.grow hb8)
          have HBe8 := Lib.hid (HBe.out.trans (hb8.mono HBe.out.size))
          clear hb8 hR8 HA7 HB7 HBe HS
          go_wp2_with fail
          go_roundg (x4 - y4 + y4)
          case rel => exact ⟨x4 - y4,y4,rfl,HR8,HB8,HS7,HBe8.out⟩
          case measure => exact HM.out
end Go.Proofs.YtknkhnahflmjiaaGreatDoor

namespace Go.Proofs.YtknkhnahflmjiaaGreatDoor
open Go.RowKit Go.Shelf
def NumAt (w : World) (v : Value) (z : Int) : Prop := ∃ (neg : Bool) (s : Value) (m : Nat),v = .agg #[.bool neg,s] ∧ WAt w s m ∧ z = if neg = true then -(m : Int) else m
theorem NumAt.grow {w w' : World} {v : Value} {z : Int} (h : NumAt w v z) (hb : Below w.heap.size w w') : NumAt w' v z := by
 obtain ⟨neg,s,m,h1,h2,h3⟩ := h
 exact ⟨neg,s,m,h1,h2.grow hb,h3⟩
theorem WAt.setBox {w : World} {v : Value} {z D : Nat} {t : TypeId} {cs : Array Value} (h : WAt w v z) (hD : Blk w D t cs) (ht : t ≠ 232) (i : Nat) (x : Value) : WAt (w.setCell ⟨D,i,none⟩ x) v z := h.other D i x (h.apart hD ht)
theorem NumAt.setBox {w : World} {v : Value} {z : Int} {D : Nat} {t : TypeId} {cs : Array Value} (h : NumAt w v z) (hD : Blk w D t cs) (ht : t ≠ 232) (i : Nat) (x : Value) : NumAt (w.setCell ⟨D,i,none⟩ x) v z := by
 obtain ⟨neg,s,m,h1,h2,h3⟩ := h
 exact ⟨neg,s,m,h1,h2.setBox hD ht i x,h3⟩
theorem NumAt.kept {w w' : World} {v : Value} {z : Int} {row : Option Nat} {t : TypeId} (h : NumAt w v z) (hgr : w.grownBy w' row) (hg : ∀ g,row = some g → ∃ cs r,w.heap[g]? = some (.cells cs t r)) (ht : t ≠ 232) : NumAt w' v z := by
 obtain ⟨neg,s,m,h1,h2,h3⟩ := h
 refine ⟨neg,s,m,h1,h2.kept hgr (fun g e => ?_),h3⟩
 obtain ⟨cs,r,e1⟩ := hg g e
 exact h2.apart e1 ht
theorem NumAt.form {w : World} {v : Value} {z : Int} (h : NumAt w v z) : ∃ n A l c,v = .agg #[.bool n,.slice A l c] ∧ l ≤ 9223372036854775807 := by
 obtain ⟨neg,s,m,rfl,⟨⟨A,c,L,rfl,hl,-⟩,-⟩,-⟩ := h
 obtain ⟨_,_,e,hc1,hc2,-⟩ := hl.open_
 injection e with e1 _ e2
 subst e1 e2
 unfold maxLen at hc2
 exact ⟨neg,A,_,c,rfl,by omega⟩
def MakesN (z : Int) (w : World) (e : Ending) (w' : World) : Prop := Below w.heap.size w w' ∧ ∃ v,e = .returned v ∧ NumAt w' v z
theorem three_boxes (w : World) (t1 t2 t3 : TypeId) (c1 c2 c3 : Array Value) :
  Blk (((w.alloc (.cells c1 t1)).alloc (.cells c2 t2)).alloc (.cells c3 t3)) w.heap.size t1 c1 ∧ Blk (((w.alloc (.cells c1 t1)).alloc (.cells c2 t2)).alloc (.cells c3 t3)) (w.heap.size + 1) t2 c2 ∧
   Blk (((w.alloc (.cells c1 t1)).alloc (.cells c2 t2)).alloc (.cells c3 t3)) (w.heap.size + 1 + 1) t3 c3 ∧ Below w.heap.size w (((w.alloc (.cells c1 t1)).alloc (.cells c2 t2)).alloc (.cells c3 t3)) := by
 refine ⟨((Blk.new w t1 c1).alloc _).alloc _,?_,?_,(((Below.refl _ _).alloc (Nat.le_refl _) _).alloc (by simp) _).alloc (by simp;omega) _⟩
 ·have := (Blk.new (w.alloc (.cells c1 t1)) t2 c2).alloc (.cells c3 t3)
  simpa using this
 ·have := Blk.new ((w.alloc (.cells c1 t1)).alloc (.cells c2 t2)) t3 c3
  simpa using this
def signZ (z : Int) : Int := if z = 0 then 0 else if z < 0 then -1 else 1
set_option maxHeartbeats 1000000 in
theorem bmSign (v : Value) (z : Int) (w : World) (hv : NumAt w v z) : Calls Tryz.prog 235 #[v] w fun e w' => e = .returned (.int .i64 (signZ z)) ∧ Below w.heap.size w w' := by
 obtain ⟨neg,s,m,rfl,⟨⟨A,c,L,rfl,hl,hLo,hLt,rfl⟩,-⟩,hz⟩ := hv
 obtain ⟨_,_,e,hc1,hc2,-⟩ := hl.open_
 injection e with e1 _ e2
 subst e1 e2
 unfold maxLen at hc2
 have hz0 := wv_zero hLt
 have hbo : Below w.heap.size w (w.alloc (.cells #[.bool neg,.slice A L.length c] 221)) := (Below.refl _ _).alloc (Nat.le_refl _) _
 by_cases h0 : L.length = 0
 ·have HV : Hid (signZ z = 0) := by
   unfold Hid signZ
   rw [hz,hz0.2 (List.length_eq_zero_iff.1 h0)]
   simp
  have hd : ((L.length : Int) == 0) = true := beq_iff_eq.2 (by omega)
  clear hl hLo hLt hz0 hz h0
  go_enter Tryz.func235,Tryz.ntmps235
  go_wp2_with fail
  go_ret
  exact ⟨ret_int HV.out.symm,hbo⟩
 ·have hp : 0 < wv L := by
   rcases Nat.eq_zero_or_pos (wv L) with h | h
   ·exact absurd (by rw [hz0.1 h];rfl) h0
   ·exact h
  have hd : ((L.length : Int) == 0) = false := beq_eq_false_iff_ne.2 (by omega)
  cases neg with
  | true =>
   have HV : Hid (signZ z = -1) := by
    unfold Hid signZ
    rw [hz,if_pos rfl,if_neg (by omega),if_pos (by omega)]
   clear hl hLo hLt hz0 hz h0 hp
   go_enter Tryz.func235,Tryz.ntmps235
   go_wp2_with fail
   go_ret
   exact ⟨ret_int HV.out.symm,hbo⟩
  | false =>
   have HV : Hid (signZ z = 1) := by
    unfold Hid signZ
    simp only [Bool.false_eq_true,if_false] at hz
    rw [hz,if_neg (by omega),if_neg (by omega)]
   clear hl hLo hLt hz0 hz h0 hp
   go_enter Tryz.func235,Tryz.ntmps235
   go_wp2_with fail
   go_ret
   exact ⟨ret_int HV.out.symm,hbo⟩
set_option maxHeartbeats 1000000 in
theorem bmOpp (v : Value) (z : Int) (w : World) (hv : NumAt w v z) : Calls Tryz.prog 243 #[v] w (MakesN (-z) w) := by
 obtain ⟨neg,s,m,rfl,hW,hz⟩ := hv
 have HW := Lib.hid hW
 have HZ : Hid (-z = if (!neg) = true then -(m : Int) else m) := by
  unfold Hid
  rw [hz]
  cases neg <;> simp
 obtain ⟨A,c,L,rfl,-,-,-,-⟩ := hW.1
 clear hz
 go_enter Tryz.func243,Tryz.ntmps243
 go_wp2_with fail
 refine bodyPost_ret (v := .agg #[.bool (!neg),.slice A L.length c]) (by simp [results,Tryz.results243,go_sem]) rfl ?_
 have hb2 : Below w.heap.size w ((w.alloc (.cells #[.bool neg,.slice A L.length c] 221)).alloc (.cells #[.bool !neg,.slice A L.length c] 221)) := ((Below.refl _ _).alloc (Nat.le_refl _) _).alloc (by simp) _
 exact ⟨hb2,_,rfl,!neg,_,m,rfl,HW.out.grow hb2,HZ.out⟩
end Go.Proofs.YtknkhnahflmjiaaGreatDoor

namespace Go.Proofs.YtknkhnahflmjiaaGreatDoor
open Go.RowKit Go.Shelf
theorem OwnW.other {w : World} {g n : Nat} {L : List Nat} (h : OwnW w g n L) (b i : Nat) (v : Value) (hb : b ≠ g) : OwnW (w.setCell ⟨b,i,none⟩ v) g n L := by
 have hgr : w.grownBy (w.setCell ⟨b,i,none⟩ v) (some b) := ⟨rfl,rfl,rfl,by simp [World.setCell],fun k _ hk => Below.heap_setCell w _ _ k (fun e => hk (by rw [e]))⟩
 exact World.ownsRow.kept h hgr (by simp [Value.ownBlock];omega)
structure TmSt (w wr : World) (g n : Nat) (n1 n2 : Bool) (sx sy : Value) (O : List Nat) : Prop where
 own : OwnW wr g n O
 ok : Wok O
 bel : Below w.heap.size w wr
 gw : w.heap.size + 3 ≤ g
 d1 : Blk wr w.heap.size 221 #[.bool n1,sx]
 d2 : Blk wr (w.heap.size + 1) 221 #[.bool n2,sy]
 d3 : Blk wr (w.heap.size + 1 + 1) 221 #[.bool false,.slice none 0 0]
theorem TmSt.set {w wr : World} {g n : Nat} {n1 n2 : Bool} {sx sy : Value} {O : List Nat} (h : TmSt w wr g n n1 n2 sx sy O) (i x : Nat) (hx : x < 4294967296) : TmSt w (wr.setCell ⟨g,i,none⟩ (.int .u32 (x : Nat))) g n n1 n2 sx sy (O.set i x) := by
 have hg := h.gw
 have hgr : wr.grownBy (wr.setCell ⟨g,i,none⟩ (.int .u32 (x : Nat))) (some g) := ⟨rfl,rfl,rfl,by simp [World.setCell],fun k _ hk => Below.heap_setCell wr _ _ k (fun e => hk (by rw [e]))⟩
 exact ⟨h.own.set_ i x,h.ok.set i hx,h.bel.setCell (p := ⟨g,i,none⟩) (by show w.heap.size ≤ g;omega) _,hg,h.d1.kept hgr (by simp;omega),h.d2.kept hgr (by simp;omega),h.d3.kept hgr (by simp;omega)⟩
set_option maxRecDepth 100000 in
set_option maxHeartbeats 4000000 in
theorem bmTimes (v u : Value) (x y : Int) (K : Nat) (w : World) (hv : NumAt w v x) (hu : NumAt w u y) (hK : K ≤ 400000) (hx : x.natAbs < 4294967296 ^ K) (hy : y.natAbs < 4294967296 ^ K) :
    Calls Tryz.prog 240 #[v, u] w (MakesN (x * y) w) := by
  obtain ⟨n1, s1, m1, rfl, ⟨⟨A, c, X, rfl, hl, hXo, hXt, rfl⟩, -⟩, hz1'⟩ := hv
  obtain ⟨n2, s2, m2, rfl, ⟨⟨A', c', Y, rfl, hm, hYo, hYt, rfl⟩, -⟩, hz2'⟩ := hu
  have hX6 : X.length ≤ 400000 := Nat.le_trans (wv_short hXt (by have : x.natAbs = wv X := by rw [hz1']; cases n1 <;> simp
                                                                 rwa [this] at hx)) hK
  have hY6 : Y.length ≤ 400000 := Nat.le_trans (wv_short hYt (by have : y.natAbs = wv Y := by rw [hz2']; cases n2 <;> simp
                                                                 rwa [this] at hy)) hK
  have HZ : Hid (x * y = if (n1 != n2) = true then -((wv X * wv Y : Nat) : Int) else ((wv X * wv Y : Nat) : Int)) := by
    unfold Hid
    rw [hz1', hz2', Int.natCast_mul]
    cases n1 <;> cases n2 <;> simp [Int.mul_neg, Int.neg_mul]
  obtain ⟨_, _, e, hc1, hc2, hcell⟩ := hl.open_
  injection e with e1 _ e2
  subst e1 e2
  obtain ⟨_, _, e, hd1, hd2, hdell⟩ := hm.open_
  injection e with e1 _ e2
  subst e1 e2
  unfold maxLen at hc2 hd2
  have HX := Lib.hid hcell
  have HY := Lib.hid hdell
  have HXo := Lib.hid hXo
  have HYo := Lib.hid hYo
  obtain ⟨i0, hi0, hz0, hz1, hz2⟩ := info_parts info_u32
  have hbytes : i0.bytes * (X.length + Y.length) ≤ 281474976710656 := by rw [hz2]; omega
  clear hcell hdell hl hm hXo hXt hYo hYt hx hy hK hz1' hz2'
  have B1 : Hid (Blk (((w.alloc (.cells #[.bool n1, .slice A X.length c] 221)).alloc (.cells #[.bool n2, .slice A' Y.length c'] 221)).alloc (.cells #[.bool false, .slice none 0 0] 221)) w.heap.size 221 #[.bool n1, .slice A X.length c]) := ((Blk.new w 221 #[.bool n1, .slice A X.length c]).alloc _).alloc _
  have B2 : Hid (Blk (((w.alloc (.cells #[.bool n1, .slice A X.length c] 221)).alloc (.cells #[.bool n2, .slice A' Y.length c'] 221)).alloc (.cells #[.bool false, .slice none 0 0] 221)) (w.heap.size + 1) 221 #[.bool n2, .slice A' Y.length c']) := by
    have := (Blk.new (w.alloc (.cells #[.bool n1, .slice A X.length c] 221)) 221 #[.bool n2, .slice A' Y.length c']).alloc (.cells #[.bool false, .slice none 0 0] 221)
    unfold Hid
    simpa using this
  have B3 : Hid (Blk (((w.alloc (.cells #[.bool n1, .slice A X.length c] 221)).alloc (.cells #[.bool n2, .slice A' Y.length c'] 221)).alloc (.cells #[.bool false, .slice none 0 0] 221)) (w.heap.size + 1 + 1) 221 #[.bool false, .slice none 0 0]) := by
    have := Blk.new ((w.alloc (.cells #[.bool n1, .slice A X.length c] 221)).alloc (.cells #[.bool n2, .slice A' Y.length c'] 221)) 221 #[.bool false, .slice none 0 0]
    unfold Hid
    simpa using this
  have HbW : Hid (Below w.heap.size w (((w.alloc (.cells #[.bool n1, .slice A X.length c] 221)).alloc (.cells #[.bool n2, .slice A' Y.length c'] 221)).alloc (.cells #[.bool false, .slice none 0 0] 221))) := (((Below.refl _ _).alloc (Nat.le_refl _) _).alloc (by simp) _).alloc (by simp; omega) _
  go_enter Tryz.func240, Tryz.ntmps240
  go_wp2_with (
    at_make
    refine wpList_make_full _ rfl _ _ 219 rfl _ 232 i0 (.int .u32 0) 1 Tryz.underlying219 hi0 hz0 hz1 .i64 .i64 _ _ (X.length + Y.length) rfl rfl rfl rfl hbytes (by unfold maxLen; omega) (Nat.le_refl _) ?_
    intro w4 hown4 hgrow4
    have D1 := Lib.hid (B1.out.kept hgrow4 (by simp))
    have D2 := Lib.hid (B2.out.kept hgrow4 (by simp))
    have D3 := Lib.hid (B3.out.kept hgrow4 (by simp))
    have HB4 := Lib.hid (HbW.out.grown hgrow4 HbW.out.size (fun k hk => by cases hk))
    have q10 := D1.out.cell 0
    have q11 := D1.out.cell 1
    have q20 := D2.out.cell 0
    have q21 := D2.out.cell 1
    simp only [List.getElem?_toArray, List.getElem?_cons_succ, List.getElem?_cons_zero] at q10 q11 q20 q21)
  rw [made_u32] at hown4
  simp only [World.size_alloc] at hown4
  have HT4 : Hid (TmSt w w4 (w.heap.size + 1 + 1 + 1) (X.length + Y.length) n1 n2 (.slice A X.length c) (.slice A' Y.length c') (List.replicate (X.length + Y.length) 0)) := ⟨hown4, Wok.zeros _, HB4.out, by omega, D1.out, D2.out, D3.out⟩
  obtain ⟨g, hg⟩ : ∃ g, w.heap.size + 1 + 1 + 1 = g := ⟨_, rfl⟩
  rw [hg] at HT4
  simp only [hg]
  have HS0 : Hid (wsum (wAt (List.replicate (X.length + Y.length) 0)) (X.length + Y.length) = wsum (wAt X) 0 * wv Y) := by
    unfold Hid
    rw [wsum_zeros]
    show 0 = 0 * wv Y
    rw [Nat.zero_mul]
  have HN0 : Hid (∀ j, 0 + Y.length ≤ j → wAt (List.replicate (X.length + Y.length) 0) j = 0) := fun j _ => wAt_zeros _ j
  clear hown4 hgrow4 hi0 hz0 hz1 hbytes hg D1 D2 D3 HB4 B1 B2 B3 HbW q10 q11 q20 q21
  go_loopw [22] (fun ix wr => ∃ (i : Nat) (O : List Nat), i ≤ X.length ∧ ix = .int .i64 i ∧ Hid (TmSt w wr g (X.length + Y.length) n1 n2 (.slice A X.length c) (.slice A' Y.length c') O) ∧ Hid (wsum (wAt O) (X.length + Y.length) = wsum (wAt X) i * wv Y) ∧ Hid (∀ j, i + Y.length ≤ j → wAt O j = 0)) (fun ix _ => X.length - (intOf ix).toNat)
  case atStart => exact ⟨0, _, Nat.zero_le _, rfl, HT4, HS0, HN0⟩
  case round =>
    clear HT4 HS0 HN0
    obtain ⟨i, O, hi, rfl, HT, HS, HN⟩ := hrel
    have j0 : (0 : Int) ≤ (i : Int) := Int.natCast_nonneg _
    have q20 := HT.out.d2.cell 0
    have q21 := HT.out.d2.cell 1
    simp only [List.getElem?_toArray, List.getElem?_cons_succ, List.getElem?_cons_zero] at q20 q21
    by_cases hix : i < X.length
    · have j1 : (i : Int) < (X.length : Int) := by omega
      obtain ⟨b1, o1, rfl, hb1, hxc⟩ := HX.out i hix
      have hx := hxc i hix
      unfold encU at hx
      have x0 : X[i] < 4294967296 := HXo.out _ (List.getElem_mem hix)
      have hx := (HT.out.bel.cell (p := ⟨b1, o1 + i, none⟩) hb1).trans hx
      have HXe : Hid (wAt X i = X[i]) := wAt_get hix
      clear hxc
      generalize X[i] = x at *
      have x1 : (x : Int) < 4294967296 := by omega
      have x2 : (0 : Int) ≤ (x : Int) := Int.natCast_nonneg _
      have HS1 : Hid (wsum (wAt O) (X.length + Y.length) + 4294967296 ^ (i + 0) * 0 = wsum (wAt X) i * wv Y + 4294967296 ^ i * (x * wsum (wAt Y) 0)) := by
        unfold Hid
        rw [HS.out, Nat.mul_zero]
        show _ = _ + 4294967296 ^ i * (x * 0)
        rw [Nat.mul_zero, Nat.mul_zero]
      go_wp2_with fail
      go_loopw [8, 30] (fun cx kx wr => ∃ (k cy : Nat) (O : List Nat), k ≤ Y.length ∧ kx = .int .i64 k ∧ cx = .int .u64 (cy : Nat) ∧ cy < 4294967296 ∧ Hid (TmSt w wr g (X.length + Y.length) n1 n2 (.slice (some ⟨b1, o1, none⟩) X.length c) (.slice A' Y.length c') O) ∧ Hid (wsum (wAt O) (X.length + Y.length) + 4294967296 ^ (i + k) * cy = wsum (wAt X) i * wv Y + 4294967296 ^ i * (x * wsum (wAt Y) k)) ∧ Hid (∀ j, i + Y.length ≤ j → wAt O j = 0)) (fun _ kx _ => Y.length - (intOf kx).toNat)
      case atStart => exact ⟨0, 0, O, Nat.zero_le _, rfl, rfl, by decide, HT, HS1, HN⟩
      case round =>
        clear HT HS HS1 HN q20 q21
        obtain ⟨k, cy, O, hk, rfl, rfl, hcy, HT, HS, HN⟩ := hrel
        have k0 : (0 : Int) ≤ (k : Int) := Int.natCast_nonneg _
        have c2 : (0 : Int) ≤ (cy : Int) := Int.natCast_nonneg _
        have c3 : (cy : Int) < 4294967296 := by omega
        have q20 := HT.out.d2.cell 0
        have q21 := HT.out.d2.cell 1
        simp only [List.getElem?_toArray, List.getElem?_cons_succ, List.getElem?_cons_zero] at q20 q21
        by_cases hkl : k < Y.length
        · have k1 : (k : Int) < (Y.length : Int) := by omega
          obtain ⟨b2, o2, rfl, hb2, hyc⟩ := HY.out k hkl
          have hy := hyc k hkl
          unfold encU at hy
          have y0 : Y[k] < 4294967296 := HYo.out _ (List.getElem_mem hkl)
          have hy := (HT.out.bel.cell (p := ⟨b2, o2 + k, none⟩) hb2).trans hy
          have HYe : Hid (wAt Y k = Y[k]) := wAt_get hkl
          clear hyc
          generalize Y[k] = y at *
          have y1 : (y : Int) < 4294967296 := by omega
          have y2 : (0 : Int) ≤ (y : Int) := Int.natCast_nonneg _
          have z1 := HT.out.own.cell (show i + k < X.length + Y.length by omega)
          have z2 := HT.out.own.frozen (i + k)
          have o0 : wAt O (i + k) < 4294967296 := wAt_lt HT.out.ok _
          have HMc := Lib.hid (mul_carry x0 y0 o0 hcy)
          have HRow : Hid (wsum (wAt (O.set (i + k) ((x * y + wAt O (i + k) + cy) % 4294967296))) (X.length + Y.length) + 4294967296 ^ (i + k + 1) * ((x * y + wAt O (i + k) + cy) / 4294967296) = wsum (wAt X) i * wv Y + 4294967296 ^ i * (x * wsum (wAt Y) (k + 1))) := by
            have h := mul_row (x := x) (y := y) (show i + k < O.length by rw [HT.out.own.len]; omega) HT.out.own.len HS.out
            exact h.trans (mul_acc HYe.out.symm)
          have HSt := Lib.hid (HT.out.set (i + k) ((x * y + wAt O (i + k) + cy) % 4294967296) (Nat.mod_lt _ (by decide)))
          have HNt : Hid (∀ j, i + Y.length ≤ j → wAt (O.set (i + k) ((x * y + wAt O (i + k) + cy) % 4294967296)) j = 0) := fun j hj => by
            rw [wAt_set (by rw [HT.out.own.len]; omega), if_neg (by omega)]
            exact HN.out j hj
          generalize wAt O (i + k) = o at *
          have o1' : (o : Int) < 4294967296 := by omega
          have o2' : (0 : Int) ≤ (o : Int) := Int.natCast_nonneg _
          have xy0 : (0 : Int) ≤ (x : Int) * (y : Int) := Int.mul_nonneg x2 y2
          have xy1 : (x : Int) * (y : Int) ≤ 18446744065119617025 := by
            have : (x : Int) * (y : Int) ≤ 4294967295 * 4294967295 := Int.mul_le_mul (by omega) (by omega) y2 (by decide)
            omega
          have ik0 : (0 : Int) ≤ (i : Int) + (k : Int) := by omega
          have ik1 : (i : Int) + (k : Int) < (X.length : Int) + (Y.length : Int) := by omega
          have ik2 : ((i : Int) + (k : Int)).toNat = i + k := by omega
          have eN : x * y + o + cy = cy + (x * y + o) := Nat.add_comm _ _
          rw [eN] at HRow HSt HNt HMc
          clear eN
          go_wp2_with fail
          clear HT HS HN z1 z2
          go_roundw
          case rel => exact ⟨k + 1, (cy + (x * y + o)) / 4294967296, _, by omega, by go_num, by go_num, HMc.out.2, HSt, HRow, HNt⟩
          case measure => simp [intOf]; omega
        · obtain rfl : k = Y.length := by omega
          have z1 := HT.out.own.cell (show i + Y.length < X.length + Y.length by omega)
          have z2 := HT.out.own.frozen (i + Y.length)
          have HSt := Lib.hid (HT.out.set (i + Y.length) cy hcy)
          have HRow : Hid (wsum (wAt (O.set (i + Y.length) cy)) (X.length + Y.length) = wsum (wAt X) (i + 1) * wv Y) := by
            have h := mul_last (show i + Y.length < O.length by rw [HT.out.own.len]; omega) HT.out.own.len (HN.out _ (Nat.le_refl _)) HS.out
            rw [← HXe.out] at h
            exact h.trans mul_next
          have HNt : Hid (∀ j, i + 1 + Y.length ≤ j → wAt (O.set (i + Y.length) cy) j = 0) := fun j hj => by
            rw [wAt_set (by rw [HT.out.own.len]; omega), if_neg (by omega)]
            exact HN.out j (by omega)
          have ik0 : (0 : Int) ≤ (i : Int) + (Y.length : Int) := by omega
          have ik1 : (i : Int) + (Y.length : Int) < (X.length : Int) + (Y.length : Int) := by omega
          have ik2 : ((i : Int) + (Y.length : Int)).toNat = i + Y.length := by omega
          go_wp2_with fail
          clear HT HS HN z1 z2
          go_roundw
          case rel => exact ⟨i + 1, _, by omega, by go_num, HSt, HRow, HNt⟩
          case measure => simp [intOf]; omega
    · obtain rfl : i = X.length := by omega
      have hTr : ∀ t : HeldB wr, Calls Tryz.prog 266 #[.slice (some ⟨g, 0, none⟩) (X.length + Y.length) (X.length + Y.length)] t.w fun e w' => e = .returned (.slice (some ⟨g, 0, none⟩) (trimLen O) (X.length + Y.length)) ∧ ∃ t' : HeldB wr, w' = t'.w := fun t => by
        have h := bmTrim (some ⟨g, 0, none⟩) (X.length + Y.length) t.w.heap.size O t.w (HT.out.own.below t.h).at_
        rw [HT.out.own.len] at h
        exact h.mono fun e w' ⟨h1, h2⟩ => ⟨h1, t, h2.symm⟩
      have q10 := HT.out.d1.cell 0
      have q20 := HT.out.d2.cell 0
      simp only [List.getElem?_toArray, List.getElem?_cons_zero] at q10 q20
      have u10 := HeldB.cell q10
      have u20 := HeldB.cell q20
      clear q10 q20 q21
      go_wp2_with fail
      refine wp_region_heldtail 8 (by kernel_rfl) (by kernel_rfl) ?_
      simp only [List.take_succ_cons, List.take_zero, List.drop_succ_cons, List.drop_zero]
      repeat (go_big_quiet_step ((go_at_call 266; exact hTr _)))
      refine wpQuiet_nil ?_
      rintro w5 ⟨⟨w6, hb5⟩, rfl⟩
      have HD3 := Lib.hid (HT.out.d3.below hb5 HT.out.d3.lt)
      have HOw := Lib.hid (HT.out.own.below hb5)
      have HOk := Lib.hid HT.out.ok
      have HBe := Lib.hid (HT.out.bel.trans (hb5.mono HT.out.bel.size))
      have hgw := HT.out.gw
      have q30 := HD3.out.cell 0
      have q31 := HD3.out.cell 1
      have f30 := HD3.out.frozen 0
      have f31 := HD3.out.frozen 1
      simp only [List.getElem?_toArray, List.getElem?_cons_succ, List.getElem?_cons_zero] at q30 q31
      clear u10 u20 hTr HT
      go_wp2_with fail
      refine bodyPost_ret (v := .agg #[.bool (!(n1 == n2)), .slice (some ⟨g, 0, none⟩) (trimLen O) (X.length + Y.length)]) (by simp [results, Tryz.results240, go_sem, q30, q31]) rfl ?_
      have hb7 := (HBe.out.setCell (p := ⟨w.heap.size + 1 + 1, 0, none⟩) (show w.heap.size ≤ w.heap.size + 1 + 1 by omega) (.bool !n1 == n2)).setCell (p := ⟨w.heap.size + 1 + 1, 1, none⟩) (show w.heap.size ≤ w.heap.size + 1 + 1 by omega) (.slice (some ⟨g, 0, none⟩) (trimLen O) (X.length + Y.length))
      have hO7 := (HOw.out.other (w.heap.size + 1 + 1) 0 (.bool !n1 == n2) (by omega)).other (w.heap.size + 1 + 1) 1 (.slice (some ⟨g, 0, none⟩) (trimLen O) (X.length + Y.length)) (by omega)
      obtain ⟨t1, t2, t3⟩ := trim_facts O
      have hO : wv O = wv X * wv Y := by
        have h := HS.out
        rw [← HOw.out.len] at h
        exact h
      exact ⟨hb7, _, rfl, !(n1 == n2), _, wv X * wv Y, rfl, WAt.of_trim hO7 HOk.out t1 t2 (t3.trans hO), HZ.out⟩
end Go.Proofs.YtknkhnahflmjiaaGreatDoor

namespace Go.Proofs.YtknkhnahflmjiaaGreatDoor
open Go.RowKit Go.Shelf
def gW (z : Nat) : GPost := ⟨fun v => ∃ A n c,v = .slice A n c,fun v w => WAt w v z,⟨.slice none 0 0,none,0,0,rfl⟩,fun _ _ _ hb h => WAt.grow h hb,false⟩
def gN (z : Int) : GPost := ⟨fun v => ∃ n A l c,v = .agg #[.bool n,.slice A l c],fun v w => NumAt w v z,⟨.agg #[.bool false,.slice none 0 0],false,none,0,0,rfl⟩,fun _ _ _ hb h => NumAt.grow h hb,false⟩
theorem MakesW.g {P : Program} {f : FuncId} {args : Array Value} {w : World} {z : Nat} (h : Calls P f args w (MakesW z w)) : Calls P f args w fun e w' => ∃ v,e = .returned v ∧ Below w.heap.size w w' ∧ (gW z).σ v ∧ (gW z).φ v w' :=
 h.mono fun _ _ ⟨hb,v,he,hW,_⟩ => ⟨v,he,hb,(by obtain ⟨⟨A,c,L,h1,_⟩,_⟩ := hW;exact ⟨A,_,c,h1⟩),hW⟩
theorem MakesN.g {P : Program} {f : FuncId} {args : Array Value} {w : World} {z : Int} (h : Calls P f args w (MakesN z w)) : Calls P f args w fun e w' => ∃ v,e = .returned v ∧ Below w.heap.size w w' ∧ (gN z).σ v ∧ (gN z).φ v w' :=
 h.mono fun _ _ ⟨hb,v,he,hN⟩ => ⟨v,he,hb,(by obtain ⟨n,A,l,c,h1,_⟩ := hN.form;exact ⟨n,A,l,c,h1⟩),hN⟩
end Go.Proofs.YtknkhnahflmjiaaGreatDoor

namespace Go.Proofs.YtknkhnahflmjiaaGreatDoor
open Go.RowKit Go.Shelf
set_option maxRecDepth 100000 in
set_option maxHeartbeats 4000000 in
theorem bmPlus (v u : Value) (x y : Int) (K : Nat) (w : World) (hv : NumAt w v x) (hu : NumAt w u y) (hK : K ≤ 1000000) (hx : x.natAbs < 4294967296 ^ K) (hy : y.natAbs < 4294967296 ^ K) :
  Calls Tryz.prog 241 #[v,u] w (MakesN (x + y) w) := by
 obtain ⟨n1,s1,m1,rfl,hW1,hz1⟩ := hv
 obtain ⟨n2,s2,m2,rfl,hW2,hz2⟩ := hu
 have e1 : x.natAbs = m1 := by rw [hz1];cases n1 <;> simp
 have e2 : y.natAbs = m2 := by rw [hz2];cases n2 <;> simp
 rw [e1] at hx
 rw [e2] at hy
 have HAdd : Hid (∀ w',Below w.heap.size w w' → Calls Tryz.prog 269 #[s1,s2] w' (MakesW (m1 + m2) w')) := fun w' hb => bmAdd s1 s2 m1 m2 K w' (hW1.grow hb) (hW2.grow hb) hK hx hy
 have HCmp : Hid (∀ w',Below w.heap.size w w' → Calls Tryz.prog 270 #[s1,s2] w' (CmpPost m1 m2 w')) := fun w' hb => bmCmp s1 s2 m1 m2 w' (hW1.grow hb) (hW2.grow hb)
 have HT1 : Hid (∀ w',Below w.heap.size w w' → m2 ≤ m1 → Calls Tryz.prog 271 #[s1,s2] w' (MakesW (m1 - m2) w')) := fun w' hb hle => bmTake s1 s2 m1 m2 K w' (hW1.grow hb) (hW2.grow hb) hK hx hle
 have HT2 : Hid (∀ w',Below w.heap.size w w' → m1 ≤ m2 → Calls Tryz.prog 271 #[s2,s1] w' (MakesW (m2 - m1) w')) := fun w' hb hle => bmTake s2 s1 m2 m1 K w' (hW2.grow hb) (hW1.grow hb) hK hy hle
 have HZ := Lib.hid (And.intro hz1 hz2)
 obtain ⟨⟨A,c,L,rfl,-,-,-,-⟩,-⟩ := hW1
 obtain ⟨⟨A',c',M,rfl,-,-,-,-⟩,-⟩ := hW2
 have HBx := Lib.hid (three_boxes w 221 221 221 #[.bool n1,.slice A L.length c] #[.bool n2,.slice A' M.length c'] #[.bool false,.slice none 0 0])
 clear e1 e2 hx hy hz1 hz2 hK
 by_cases hn : n1 = n2
 ·subst hn
  have hd : (n1 == n1) = true := beq_self_eq_true _
  go_enter Tryz.func241,Tryz.ntmps241
  go_wp2_with fail
  generalize ((w.alloc (.cells #[.bool n1,.slice A L.length c] 221)).alloc (.cells #[.bool n1,.slice A' M.length c'] 221)).alloc (.cells #[.bool false,.slice none 0 0] 221) = W3 at *
  obtain ⟨B1,B2,B3,HbW⟩ := HBx.out
  have B3 := Lib.hid B3
  have HbW := Lib.hid HbW
  have q10 := B1.cell 0
  have q11 := B1.cell 1
  have q21 := B2.cell 1
  simp only [List.getElem?_toArray,List.getElem?_cons_succ,List.getElem?_cons_zero] at q10 q11 q21
  have u10 := HeldB.cell q10
  have u11 := HeldB.cell q11
  have u21 := HeldB.cell q21
  clear B1 B2 q10 q11 q21 HBx
  refine wp_region_grow 7 (fun i => if i = 6 then some (gW (m1 + m2)) else none) (by kernel_rfl) (by kernel_rfl) ?_
  ·simp only [List.take_succ_cons,List.take_zero,List.drop_succ_cons,List.drop_zero]
   refine wpG_quiet 6 (by kernel_rfl) (by rfl) (by decide) ?_
   simp only [List.take_succ_cons,List.take_zero,List.drop_succ_cons,List.drop_zero]
   repeat (go_big_quiet_step (fail))
   refine wpQuiet_nil ?_
   refine wpG_call rfl rfl ?_ ?_
   ·intro w1 hb1 _
    refine ⟨269,#[.slice A L.length c,.slice A' M.length c'],by go_simp,?_⟩
    exact MakesW.g (HAdd.out w1 (HbW.out.trans (hb1.mono HbW.out.size)))
   ·rintro v1 ⟨A5,l5,c5,rfl⟩
    simp only [Act.put,List.setIfInBounds_toArray,List.set_cons_zero,List.set_cons_succ]
    refine wpG_nil ?_
    intro w5 hb5 hF
    have h16 : WAt w5 (.slice A5 l5 c5) (m1 + m2) := hF 16
    have HW16 := Lib.hid h16
    clear h16
    have HD3 := Lib.hid (B3.out.below hb5 B3.out.lt)
    have HB5 := Lib.hid (HbW.out.trans (hb5.mono HbW.out.size))
    have q30 := HD3.out.cell 0
    have q31 := HD3.out.cell 1
    have f30 := HD3.out.frozen 0
    have f31 := HD3.out.frozen 1
    simp only [List.getElem?_toArray,List.getElem?_cons_succ,List.getElem?_cons_zero] at q30 q31
    clear hF u10 u11 u21 hb5 B3 HbW
    go_wp2_with fail
    refine bodyPost_ret (v := .agg #[.bool n1,.slice A5 l5 c5]) (by simp [results,Tryz.results241,go_sem,q30,q31]) rfl ?_
    have hN : NumAt w5 (.agg #[.bool n1,.slice A5 l5 c5]) (x + y) := ⟨n1,_,m1 + m2,rfl,HW16.out,by rw [HZ.out.1,HZ.out.2];cases n1 <;> simp <;> omega⟩
    exact ⟨(HB5.out.setCell (p := ⟨w.heap.size + 1 + 1,0,none⟩) (show w.heap.size ≤ w.heap.size + 1 + 1 by omega) _).setCell (p := ⟨w.heap.size + 1 + 1,1,none⟩) (show w.heap.size ≤ w.heap.size + 1 + 1 by omega) _,_,rfl,(hN.setBox HD3.out (by decide) 0 _).setBox (HD3.out.set_ 0 _) (by decide) 1 _⟩
 ·have hd : (n1 == n2) = false := beq_eq_false_iff_ne.2 hn
  go_enter Tryz.func241,Tryz.ntmps241
  go_wp2_with fail
  generalize ((w.alloc (.cells #[.bool n1,.slice A L.length c] 221)).alloc (.cells #[.bool n2,.slice A' M.length c'] 221)).alloc (.cells #[.bool false,.slice none 0 0] 221) = W3 at *
  obtain ⟨B1,B2,B3,HbW⟩ := HBx.out
  have B3 := Lib.hid B3
  have HbW := Lib.hid HbW
  have q10 := B1.cell 0
  have q11 := B1.cell 1
  have q20 := B2.cell 0
  have q21 := B2.cell 1
  simp only [List.getElem?_toArray,List.getElem?_cons_succ,List.getElem?_cons_zero] at q10 q11 q20 q21
  clear B1 B2 HBx
  go_wp2_with fail
  refine (HCmp.out W3 HbW.out).mono ?_
  rintro e w7 ⟨⟨q7,rfl⟩,r7,rfl,hc7,-⟩
  have u10 := fun x : HeldB (W3.drewN q7) => HeldB.cell (W := W3.drewN q7) q10 x
  have u11 := fun x : HeldB (W3.drewN q7) => HeldB.cell (W := W3.drewN q7) q11 x
  have u20 := fun x : HeldB (W3.drewN q7) => HeldB.cell (W := W3.drewN q7) q20 x
  have u21 := fun x : HeldB (W3.drewN q7) => HeldB.cell (W := W3.drewN q7) q21 x
  clear q10 q11 q20 q21
  by_cases hlt : m1 < m2
  ·have hd2 : decide (r7 < 0) = true := by rw [hc7];exact decide_eq_true hlt
   have HL := Lib.hid (Nat.le_of_lt hlt)
   clear hlt hc7
   go_wp2_with fail
   refine wp_region_grow 7 (fun i => if i = 6 then some (gW (m2 - m1)) else none) (by kernel_rfl) (by kernel_rfl) ?_
   ·simp only [List.take_succ_cons,List.take_zero,List.drop_succ_cons,List.drop_zero]
    refine wpG_quiet 6 (by kernel_rfl) (by rfl) (by decide) ?_
    simp only [List.take_succ_cons,List.take_zero,List.drop_succ_cons,List.drop_zero]
    repeat (go_big_quiet_step (fail))
    refine wpQuiet_nil ?_
    refine wpG_call rfl rfl ?_ ?_
    ·intro w1 hb1 _
     refine ⟨271,#[.slice A' M.length c',.slice A L.length c],by go_simp,?_⟩
     exact MakesW.g (HT2.out w1 (HbW.out.trans ((below_drewN (Below.refl _ _) q7).trans hb1 |>.mono HbW.out.size)) HL.out)
    ·rintro v1 ⟨A5,l5,c5,rfl⟩
     simp only [Act.put,List.setIfInBounds_toArray,List.set_cons_zero,List.set_cons_succ]
     refine wpG_nil ?_
     intro w5 hb5 hF
     have h16 : WAt w5 (.slice A5 l5 c5) (m2 - m1) := hF 30
     have HW16 := Lib.hid h16
     clear h16
     have hb5 : Below W3.heap.size W3 w5 := (below_drewN (Below.refl _ _) q7).trans hb5
     have HD3 := Lib.hid (B3.out.below hb5 B3.out.lt)
     have HB5 := Lib.hid (HbW.out.trans (hb5.mono HbW.out.size))
     have q30 := HD3.out.cell 0
     have q31 := HD3.out.cell 1
     have f30 := HD3.out.frozen 0
     have f31 := HD3.out.frozen 1
     simp only [List.getElem?_toArray,List.getElem?_cons_succ,List.getElem?_cons_zero] at q30 q31
     clear hF u10 u11 u20 u21 hb5 B3 HbW
     go_wp2_with fail
     refine bodyPost_ret (v := .agg #[.bool n2,.slice A5 l5 c5]) (by simp [results,Tryz.results241,go_sem,q30,q31]) rfl ?_
     have hN : NumAt w5 (.agg #[.bool n2,.slice A5 l5 c5]) (x + y) := ⟨n2,_,m2 - m1,rfl,HW16.out,by have := HL.out;rw [HZ.out.1,HZ.out.2];cases n1 <;> cases n2 <;> simp at hn <;> simp <;> omega⟩
     exact ⟨(HB5.out.setCell (p := ⟨w.heap.size + 1 + 1,0,none⟩) (show w.heap.size ≤ w.heap.size + 1 + 1 by omega) _).setCell (p := ⟨w.heap.size + 1 + 1,1,none⟩) (show w.heap.size ≤ w.heap.size + 1 + 1 by omega) _,_,rfl,(hN.setBox HD3.out (by decide) 0 _).setBox (HD3.out.set_ 0 _) (by decide) 1 _⟩
  ·have hd2 : decide (r7 < 0) = false := by rw [hc7];exact decide_eq_false hlt
   have HL := Lib.hid (Nat.not_lt.1 hlt)
   clear hlt hc7
   go_wp2_with fail
   refine wp_region_grow 7 (fun i => if i = 6 then some (gW (m1 - m2)) else none) (by kernel_rfl) (by kernel_rfl) ?_
   ·simp only [List.take_succ_cons,List.take_zero,List.drop_succ_cons,List.drop_zero]
    refine wpG_quiet 6 (by kernel_rfl) (by rfl) (by decide) ?_
    simp only [List.take_succ_cons,List.take_zero,List.drop_succ_cons,List.drop_zero]
    repeat (go_big_quiet_step (fail))
    refine wpQuiet_nil ?_
    refine wpG_call rfl rfl ?_ ?_
    ·intro w1 hb1 _
     refine ⟨271,#[.slice A L.length c,.slice A' M.length c'],by go_simp,?_⟩
     exact MakesW.g (HT1.out w1 (HbW.out.trans ((below_drewN (Below.refl _ _) q7).trans hb1 |>.mono HbW.out.size)) HL.out)
    ·rintro v1 ⟨A5,l5,c5,rfl⟩
     simp only [Act.put,List.setIfInBounds_toArray,List.set_cons_zero,List.set_cons_succ]
     refine wpG_nil ?_
     intro w5 hb5 hF
     have h16 : WAt w5 (.slice A5 l5 c5) (m1 - m2) := hF 38
     have HW16 := Lib.hid h16
     clear h16
     have hb5 : Below W3.heap.size W3 w5 := (below_drewN (Below.refl _ _) q7).trans hb5
     have HD3 := Lib.hid (B3.out.below hb5 B3.out.lt)
     have HB5 := Lib.hid (HbW.out.trans (hb5.mono HbW.out.size))
     have q30 := HD3.out.cell 0
     have q31 := HD3.out.cell 1
     have f30 := HD3.out.frozen 0
     have f31 := HD3.out.frozen 1
     simp only [List.getElem?_toArray,List.getElem?_cons_succ,List.getElem?_cons_zero] at q30 q31
     clear hF u10 u11 u20 u21 hb5 B3 HbW
     go_wp2_with fail
     refine bodyPost_ret (v := .agg #[.bool n1,.slice A5 l5 c5]) (by simp [results,Tryz.results241,go_sem,q30,q31]) rfl ?_
     have hN : NumAt w5 (.agg #[.bool n1,.slice A5 l5 c5]) (x + y) := ⟨n1,_,m1 - m2,rfl,HW16.out,by have := HL.out;rw [HZ.out.1,HZ.out.2];cases n1 <;> cases n2 <;> simp at hn <;> simp <;> omega⟩
     exact ⟨(HB5.out.setCell (p := ⟨w.heap.size + 1 + 1,0,none⟩) (show w.heap.size ≤ w.heap.size + 1 + 1 by omega) _).setCell (p := ⟨w.heap.size + 1 + 1,1,none⟩) (show w.heap.size ≤ w.heap.size + 1 + 1 by omega) _,_,rfl,(hN.setBox HD3.out (by decide) 0 _).setBox (HD3.out.set_ 0 _) (by decide) 1 _⟩
end Go.Proofs.YtknkhnahflmjiaaGreatDoor

namespace Go.Proofs.YtknkhnahflmjiaaGreatDoor
open Go.RowKit Go.Shelf
theorem two_words (m : Nat) (h : m < 18446744073709551616) : wv [m % 4294967296,m / 4294967296] = m ∧ Wok [m % 4294967296,m / 4294967296] := by
 refine ⟨?_,fun x hx => ?_⟩
 ·show 0 + 4294967296 ^ 0 * (m % 4294967296) + 4294967296 ^ 1 * (m / 4294967296) = m
  omega
 ·simp at hx
  omega
theorem OwnW.two (w : World) (a b : Nat) : OwnW (w.alloc (.cells #[.int .u32 (a : Int),.int .u32 (b : Int)] 232)) w.heap.size 2 [a,b] :=
 ⟨rfl,.inr ⟨w.heap.size,2,_,rfl,Nat.le_refl _,Blk.new w 232 _,Nat.le_refl _,by unfold maxLen;omega,rfl,rfl⟩⟩
set_option maxRecDepth 100000 in
set_option maxHeartbeats 1000000 in
theorem bmInt (n : Int) (w : World) (h0 : -4611686018427387904 ≤ n) (h1 : n ≤ 4611686018427387904) : Calls Tryz.prog 238 #[.int .i64 n] w (MakesN n w) := by
  obtain ⟨m,hm⟩ : ∃ m,n.natAbs = m := ⟨_,rfl⟩
  obtain ⟨hw1,hw2⟩ := two_words m (by omega)
  have HW1 := Lib.hid hw1
  have HW2 := Lib.hid hw2
  have HO := Lib.hid (OwnW.two (w.alloc (.cells #[.bool false,.slice none 0 0] 221)) (m % 4294967296) (m / 4294967296))
  have HD := Lib.hid ((Blk.new w 221 #[.bool false,.slice none 0 0]).alloc (.cells #[.int .u32 ((m % 4294967296 : Nat) : Int),.int .u32 ((m / 4294967296 : Nat) : Int)] 232))
  have HB := Lib.hid (((Below.refl _ w).alloc (Nat.le_refl _) (.cells #[.bool false,.slice none 0 0] 221)).alloc (by simp) (.cells #[.int .u32 ((m % 4294967296 : Nat) : Int),.int .u32 ((m / 4294967296 : Nat) : Int)] 232))
  have hszw : (w.alloc (.cells #[.bool false,.slice none 0 0] 221)).heap.size = w.heap.size + 1 := by simp
  rw [hszw] at HO
  clear hszw
  have hT := bmTrim (some ⟨w.heap.size + 1,0,none⟩) 2 _ [m % 4294967296,m / 4294967296] _ HO.out.at_
  have HT : Hid (Calls Tryz.prog 266 #[.slice (some ⟨w.heap.size + 1,0,none⟩) 2 2] ((w.alloc (.cells #[.bool false,.slice none 0 0] 221)).alloc (.cells #[.int .u32 ((m % 4294967296 : Nat) : Int),.int .u32 ((m / 4294967296 : Nat) : Int)] 232)) _) := hT
  clear hw1 hw2 hT
  by_cases hn : n < 0
  case' pos =>
    have hd : decide (n < 0) = true := decide_eq_true hn
    have HA : Hid (IntKind.u64.wrap (-IntKind.u64.wrap n) % 4294967296 = ((m % 4294967296 : Nat) : Int)) := by
      unfold Hid
      simp only [IntKind.wrap,IntKind.bits,IntKind.signed]
      omega
    have HC : Hid (IntKind.u64.wrap (-IntKind.u64.wrap n) / 4294967296 % 4294967296 = ((m / 4294967296 : Nat) : Int)) := by
      unfold Hid
      simp only [IntKind.wrap,IntKind.bits,IntKind.signed]
      omega
    have HZ : Hid (n = -(m : Int)) := by unfold Hid;omega
    clear hm
    go_enter Tryz.func238,Tryz.ntmps238
    go_wp2_with fail
    rw [HA.out,HC.out]
  case' neg =>
    have hd : decide (n < 0) = false := decide_eq_false hn
    have HA : Hid (n % 4294967296 = ((m % 4294967296 : Nat) : Int)) := by unfold Hid;omega
    have HC : Hid (n / 4294967296 = ((m / 4294967296 : Nat) : Int)) := by unfold Hid;omega
    have HZ : Hid (n = (m : Int)) := by unfold Hid;omega
    clear hm
    go_enter Tryz.func238,Tryz.ntmps238
    go_wp2_with fail
    rw [HA.out,HC.out]
  all_goals
    refine HT.out.mono ?_
    rintro e w' ⟨rfl,rfl⟩
    obtain ⟨ht1,ht2,ht3⟩ := trim_facts [m % 4294967296,m / 4294967296]
    have HT1 := Lib.hid ht1
    have HT2 := Lib.hid ht2
    have HT3 := Lib.hid ht3
    generalize (w.alloc (.cells #[.bool false,.slice none 0 0] 221)).alloc (.cells #[.int .u32 ((m % 4294967296 : Nat) : Int),.int .u32 ((m / 4294967296 : Nat) : Int)] 232) = W at *
    generalize trimLen [m % 4294967296,m / 4294967296] = k at *
    have q0 := HD.out.cell 0
    have q1 := HD.out.cell 1
    have f0 := HD.out.frozen 0
    have f1 := HD.out.frozen 1
    simp only [List.getElem?_toArray,List.getElem?_cons_succ,List.getElem?_cons_zero] at q0 q1
    clear ht1 ht2 ht3 HT
    go_wp2_with fail
    have hW : WAt W (.slice (some ⟨w.heap.size + 1,0,none⟩) k 2) m := WAt.of_trim HO.out HW2.out HT1.out HT2.out (HT3.out.trans HW1.out)
    have hB := (HB.out.setCell (p := ⟨w.heap.size,0,none⟩) (Nat.le_refl _) (.bool (decide (n < 0)))).setCell (p := ⟨w.heap.size,1,none⟩) (Nat.le_refl _) (.slice (some ⟨w.heap.size + 1,0,none⟩) k 2)
    have hN : NumAt W (.agg #[.bool (decide (n < 0)),.slice (some ⟨w.heap.size + 1,0,none⟩) k 2]) n := ⟨_,_,m,rfl,hW,by rw [hd];exact HZ.out⟩
    have hN2 := (hN.setBox HD.out (by decide) 0 (.bool (decide (n < 0)))).setBox (HD.out.set_ 0 _) (by decide) 1 (.slice (some ⟨w.heap.size + 1,0,none⟩) k 2)
    rw [hd] at hB hN2
    first
      | (refine bodyPost_ret (v := .agg #[.bool true,.slice (some ⟨w.heap.size + 1,0,none⟩) k 2]) (by simp [results,Tryz.results238,go_sem,q0,q1]) rfl ?_
         exact ⟨hB,_,rfl,hN2⟩)
      | (refine bodyPost_ret (v := .agg #[.bool false,.slice (some ⟨w.heap.size + 1,0,none⟩) k 2]) (by simp [results,Tryz.results238,go_sem,q0,q1]) rfl ?_
         exact ⟨hB,_,rfl,hN2⟩)
end Go.Proofs.YtknkhnahflmjiaaGreatDoor
