/- Parts of the proof, laid into one text: Short51, CritP, RefCrit, Opt, Opt2, Emb, Gap, Bound. -/
import Derived.Below
import Derived.BigQuiet
import Derived.ChangeSame
import Derived.Deep.AppendLies
import Derived.Deep.Draws
import Derived.Deep.Fields
import Derived.Deep.LoopGhost
import Derived.Deep.QuietTactic
import Derived.Deep.RegionHeld3
import Derived.Deep.RegionLaw
import Derived.Deep.Slices
import Derived.IntWalk
import Derived.Laws.BitsLemmas
import Derived.Laws.CopyOwn
import Derived.Laws.EntriesVeiled
import Derived.Lib.Hide
import Derived.Maps.AppendAt
import Derived.Maps.Own
import Derived.Maps.OwnOps
import Derived.Maps.OwnSet
import Derived.Maps.Views
import Derived.PlainAid
import Derived.Shelf.Abstract
import Derived.Shelf.Sort.Plain
import Derived.SliceStrings
import Derived.Sort.OwnSortedInts
import Derived.StillTail
import Derived.StillTailTactics
import Derived.Test.YtfkikpbnigenhaaGreatC1
import Derived.Test.YtfkikpbnigenhaaGreatE4
import Derived.Test.YtfkikpbnigenhaaGreatG1
import Derived.Test.YtfkikpbnigenhaaGreatG11
import Derived.Test.YtfkikpbnigenhaaGreatG2
import Derived.Test.YtfkikpbnigenhaaGreatG3
import Derived.Test.YtfkikpbnigenhaaGreatG4
import Derived.Test.YtfkikpbnigenhaaGreatG6
import Derived.Test.YtfkikpbnigenhaaGreatG8
import Derived.Test.YtfkikpbnigenhaaGreatG9
import Derived.Test.YtfkikpbnigenhaaGreatProg
import Derived.WalkKit
import Derived.WalkLawsBesides
import Derived.WalkMore
import Derived.WalkSpells

namespace Go.Proofs.YtfkikpbnigenhaaGreat
open Go.RowKit Go.Shelf
theorem enters51ShortS : ∀ args w,(callFunc 37 args).run Tryz.prog w = .ok (.enter 37 args) w := enters_of Tryz.func37 (by kernel_rfl) rfl
theorem enters51ShortT : ∀ args w,(callFunc 35 args).run Tryz.prog w = .ok (.enter 35 args) w := enters_of Tryz.func35 (by kernel_rfl) rfl
set_option maxHeartbeats 1000000 in
theorem shortStr51 (s : ByteArray) (w : World) (hs : s.size ≤ maxLen) : Calls Tryz.prog 37 #[.string s] w fun e w' => e = .returned (.bool (longS s)) ∧ Below w.heap.size w w' := by
 unfold maxLen at hs
 by_cases h : 60 < s.size
 ·have HV : Hid (longS s = true) := by unfold Hid longS;simp [h]
  have hb : decide ((60 : Int) < s.size) = true := by simp;omega
  go_enter Tryz.func37,Tryz.ntmps37
  go_wp2
  go_ret
  exact ⟨ret_bool HV.out.symm,Below.refl _ _⟩
 ·have HV : Hid (longS s = false) := by unfold Hid longS;simp [h]
  have hb : decide ((60 : Int) < s.size) = false := by simp;omega
  go_enter Tryz.func37,Tryz.ntmps37
  go_wp2
  go_ret
  exact ⟨ret_bool HV.out.symm,Below.refl _ _⟩
set_option maxHeartbeats 2000000 in
theorem shortTask51 (t : Task) (w : World) (ht : t.ok) (hb : StrsAt w w.heap.size t.bv t.bef) : Calls Tryz.prog 35 #[t.val] w fun e w' => e = .returned (.bool (longT t)) ∧ Below w.heap.size w w' := by
 have hn := ht.name
 unfold maxLen at hn
 have hl := hb.open_
 obtain ⟨A0,c0,hA,hc1,hc2,-⟩ := hl
 unfold maxLen at hc2
 have hC : ∀ o,Calls Tryz.prog 36 #[t.bv,.func (.func 37) #[] #[]] (w.alloc o) fun e w' => e = .returned (.bool (t.bef.any longS)) ∧ Below (w.alloc o).heap.size (w.alloc o) w' := fun o =>
  containsFuncStr t.bv t.bef 37 #[] longS enters51ShortS (w.alloc o) ((hb.below ((Below.refl _ _).alloc (Nat.le_refl _) o) (Nat.le_refl _)).mono (by simp)) (fun s hs w' _ => shortStr51 s w' (ht.bef s hs))
 clear hb ht hA
 obtain ⟨name,len,crew,pow,ba,bc,bef⟩ := t
 unfold Task.val
 unfold Task.bv at hC
 simp only at *
 have hbo : ∀ o,Below w.heap.size w (w.alloc o) := fun o => (Below.refl _ _).alloc (Nat.le_refl _) _
 by_cases h1 : 60 < name.size
 ·have HV : Hid (longT ⟨name,len,crew,pow,ba,bc,bef⟩ = true) := by unfold Hid longT;simp [h1]
  clear hC
  go_enter Tryz.func35,Tryz.ntmps35
  go_wp2
  go_ret
  exact ⟨ret_bool HV.out.symm,hbo _⟩
 ·have h1' : name.size ≤ 60 := by omega
  by_cases h2 : 12 < bef.length
  ·have HV : Hid (longT ⟨name,len,crew,pow,ba,bc,bef⟩ = true) := by unfold Hid longT;simp [h2]
   clear hC
   go_enter Tryz.func35,Tryz.ntmps35
   go_wp2
   go_ret
   exact ⟨ret_bool HV.out.symm,hbo _⟩
  ·have h2' : bef.length ≤ 12 := by omega
   have HV : Hid (longT ⟨name,len,crew,pow,ba,bc,bef⟩ = bef.any longS) := by unfold Hid longT;simp [h1,h2]
   have b1 : decide ((60 : Int) < name.size) = false := by simp;omega
   have b2 : decide ((12 : Int) < bef.length) = false := by simp;omega
   generalize bef.any longS = x at *
   go_enter Tryz.func35,Tryz.ntmps35
   go_wp2_with (go_at_call 36;refine (hC _).mono ?_;rintro e w1 ⟨rfl,hb1⟩)
   go_ret
   exact ⟨ret_bool HV.out.symm,(hbo _).trans (hb1.mono (by simp))⟩
def shortB51 (l : List Task) (s : List Int) : Bool := decide (l.length ≤ 12) && decide (s.length ≤ 12) && !l.any longT
set_option maxHeartbeats 2000000 in
theorem lawShort51 (v vv : Value) (l : List Task) (s : List Int) (w : World) (hl : TasksAt w w.heap.size v l) (hs : IntsAt w w.heap.size vv s) :
  Calls Tryz.prog 12 #[v,vv] w fun e w' => e = .returned (.bool (shortB51 l s)) ∧ Below w.heap.size w w' := by
 have hC := containsFuncTask v l 35 #[] longT enters51ShortT w hl (fun t ht w' hb => shortTask51 t w' (hl.2.2 t ht) (((hl.2.1 t ht).below hb (Nat.le_refl _)).mono hb.size))
 obtain ⟨A,c,rfl,hc1,hc2,-⟩ := hl.open_
 obtain ⟨A2,c2,rfl,hd1,hd2,-⟩ := hs.open_
 unfold maxLen at hc2 hd2
 clear hl hs
 by_cases h : l.length ≤ 12
 ·have b1 : decide ((l.length : Int) ≤ 12) = true := by simp;omega
  by_cases h2 : s.length ≤ 12
  ·have HV : Hid (shortB51 l s = !l.any longT) := by unfold Hid shortB51;simp [h,h2]
   have b2 : decide ((s.length : Int) ≤ 12) = true := by simp;omega
   generalize l.any longT = x at *
   go_enter Tryz.func12,Tryz.ntmps12
   go_wp2_with (go_at_call 34;refine hC.mono ?_;rintro e w1 ⟨rfl,hb1⟩)
   go_ret
   exact ⟨ret_bool (by rw [HV.out]),hb1⟩
  ·have HV : Hid (shortB51 l s = false) := by unfold Hid shortB51;simp [h2]
   have b2 : decide ((s.length : Int) ≤ 12) = false := by simp;omega
   clear hC
   go_enter Tryz.func12,Tryz.ntmps12
   go_wp2
   go_ret
   exact ⟨ret_bool HV.out.symm,Below.refl _ _⟩
 ·have HV : Hid (shortB51 l s = false) := by unfold Hid shortB51;simp [h]
  have b1 : decide ((l.length : Int) ≤ 12) = false := by simp;omega
  clear hC
  go_enter Tryz.func12,Tryz.ntmps12
  go_wp2
  go_ret
  exact ⟨ret_bool HV.out.symm,Below.refl _ _⟩
end Go.Proofs.YtfkikpbnigenhaaGreat

namespace Go.Proofs.YtfkikpbnigenhaaGreat
def upI (l : List Task) (i : Nat) : Int := ((chainsF l).getD []).getD i 0
theorem up_fixed {l : List Task} (hR : RightT l) : ∃ x,chainsF l = some x ∧ x.length = l.length ∧ Fixed (lens l) (rowsOf l) l.length x := by
 have h := (right_iff l).2 hR
 unfold rightR at h
 rw [Bool.and_eq_true] at h
 obtain ⟨x,hx⟩ := Option.isSome_iff_exists.1 h.2
 obtain ⟨h1,h2⟩ := cIter_fixed _ _ _ (by simp) hx
 exact ⟨x,hx,h1,h2⟩
def maxOf (f : Nat → Int) (r : List Int) : Int := r.foldl (fun a k => max a (f k.toNat)) 0
theorem foldl_shift (f : Int → Int) (c : Int) : ∀ (r : List Int) (a : Int),r.foldl (fun n j => max n (c + f j)) (c + a) = c + r.foldl (fun n j => max n (f j)) a
 | [],a => rfl
 | x :: r,a => by
  rw [List.foldl_cons,List.foldl_cons,show max (c + a) (c + f x) = c + max a (f x) by omega]
  exact foldl_shift f c r _
theorem maxOf_ge {f : Nat → Int} {r : List Int} : 0 ≤ maxOf f r ∧ ∀ j ∈ r,f j.toNat ≤ maxOf f r := by
 suffices H : ∀ a,a ≤ r.foldl (fun a k => max a (f k.toNat)) a ∧ ∀ j ∈ r,f j.toNat ≤ r.foldl (fun a k => max a (f k.toNat)) a from H 0
 induction r with
 | nil => exact fun a => ⟨Int.le_refl _,by simp⟩
 | cons x r ih =>
  intro a
  have h := ih (max a (f x.toNat))
  rw [List.foldl_cons]
  refine ⟨by have := h.1;omega,fun j hj => ?_⟩
  rcases List.mem_cons.1 hj with rfl | hj
  ·have := h.1;omega
  ·exact h.2 j hj
theorem up_eq {l : List Task} (hR : RightT l) {i : Nat} (hi : i < l.length) : upI l i = maxOf (upI l) (rowAt l i) + lenAt l i := by
 obtain ⟨x,hx,hl,hf⟩ := up_fixed hR
 have hu : ∀ j,upI l j = x.getD j 0 := fun j => by unfold upI;rw [hx];rfl
 have h := hf i hi
 unfold cVal at h
 have h2 := foldl_shift (fun j : Int => x.getD j.toNat 0) ((lens l).getD i 0) ((rowsOf l).getD i []) 0
 rw [Int.add_zero] at h2
 rw [hu,h,h2]
 unfold maxOf lenAt rowAt
 rw [show (fun (a k : Int) => max a (upI l k.toNat)) = fun n j => max n (x.getD j.toNat 0) from funext fun a => funext fun k => by rw [hu]]
 omega
theorem row_edge {l : List Task} (hR : RightT l) {i : Nat} (hi : i < l.length) {k : Int} (hk : k ∈ rowAt l i) : edge l k.toNat i := by
 have hrow : rowAt l i = pls l l[i].bef := getD_rows hi
 rw [hrow] at hk
 unfold pls at hk
 rw [List.mem_map] at hk
 obtain ⟨s,hs,rfl⟩ := hk
 obtain ⟨j,hj,e,he⟩ := pl_mem (((befOK_iff l).1 hR.bef l[i] (List.getElem_mem hi)).2 s hs).1
 rw [e,Int.toNat_natCast]
 exact ⟨hj,hi,by rw [he];exact hs⟩
theorem edge_rowAt {l : List Task} (hR : RightT l) {i k : Nat} (h : edge l i k) : (i : Int) ∈ rowAt l k := edge_row hR.dist h
noncomputable def downI (l : List Task) (i : Nat) : Int := @Classical.epsilon Int ⟨0⟩ (IsFrom l i)
theorem down_is {l : List Task} (hR : RightT l) {i : Nat} (hi : i < l.length) : IsFrom l i (downI l i) :=
 @Classical.epsilon_spec Int (IsFrom l i) (exists_from hR l.length i hi fun _ hz => hz.short hR)
theorem down_bd {l : List Task} (hR : RightT l) {i : Nat} (hi : i < l.length) : lenAt l i ≤ downI l i ∧ downI l i ≤ 80000 := by
 have h := down_is hR hi
 have h1 := h.most [] (Chain.one hi)
 rw [sumAt_cons,sumAt_nil] at h1
 have := h.bd hR
 omega
theorem down_edge {l : List Task} (hR : RightT l) {i j : Nat} (h : edge l i j) : lenAt l i + downI l j ≤ downI l i := by
 obtain ⟨z,hz,hs⟩ := (down_is hR h.2.1).has
 have := (down_is hR h.1).most (j :: z) (Chain.cons_iff.2 ⟨h,hz⟩)
 rw [sumAt_cons,hs] at this
 exact this
def dIn (l : List Task) (d : List Int) (i : Nat) (r : List Int) : List Int := r.foldl (fun d j => d.set j.toNat (max (d.getD j.toNat 0) (lenAt l j.toNat + d.getD i 0))) d
def dLen (l : List Task) (d : List Int) (i : Nat) : List Int := d.set i (max (d.getD i 0) (lenAt l i))
def dOne (l : List Task) (d : List Int) (i : Nat) : List Int := dIn l (dLen l d i) i (rowAt l i)
def dTo (l : List Task) (d : List Int) : Nat → List Int
 | 0 => d
 | k + 1 => dOne l (dTo l d k) k
theorem dIn_snoc {l : List Task} {d : List Int} {i : Nat} {r : List Int} {m : Nat} (h : m < r.length) : dIn l d i (r.take (m + 1)) = (dIn l d i (r.take m)).set r[m].toNat (max ((dIn l d i (r.take m)).getD r[m].toNat 0) (lenAt l r[m].toNat + (dIn l d i (r.take m)).getD i 0)) := by
 unfold dIn
 rw [take_snoc r m h,List.foldl_append]
 rfl
structure DInv (l : List Task) (d : List Int) : Prop where
 len : d.length = l.length
 bd : ∀ i,i < l.length → 0 ≤ d.getD i 0 ∧ d.getD i 0 ≤ downI l i
theorem DInv.step {l : List Task} (hR : RightT l) {d : List Int} {i : Nat} (h : DInv l d) (hi : i < l.length) {j : Int} (hj : j ∈ rowAt l i) : DInv l (d.set j.toNat (max (d.getD j.toNat 0) (lenAt l j.toNat + d.getD i 0))) := by
 have he := row_edge hR hi hj
 have hd := down_edge hR he
 have h1 := h.bd i hi
 refine ⟨by rw [List.length_set];exact h.len,fun k hk => ?_⟩
 have h2 := h.bd k hk
 rw [getD_set_int _ _ _ _ (by rw [h.len];exact he.1)]
 split
 ·rename_i e
  subst e
  have := lenAt_bd hR j.toNat
  omega
 ·exact h2
theorem DInv.inTo {l : List Task} (hR : RightT l) {d : List Int} {i : Nat} (h : DInv l d) (hi : i < l.length) : ∀ m,m ≤ (rowAt l i).length → DInv l (dIn l d i ((rowAt l i).take m))
 | 0,_ => by simpa [dIn] using h
 | m + 1,hm => by
  rw [dIn_snoc (by omega)]
  exact (DInv.inTo hR h hi m (by omega)).step hR hi (List.getElem_mem _)
theorem DInv.lenTo {l : List Task} (hR : RightT l) {d : List Int} {i : Nat} (h : DInv l d) (hi : i < l.length) : DInv l (dLen l d i) := by
 unfold dLen
 refine ⟨by rw [List.length_set];exact h.len,fun k hk => ?_⟩
 have h2 := h.bd k hk
 rw [getD_set_int _ _ _ _ (by rw [h.len];exact hi)]
 split
 ·rename_i e
  subst e
  have := (down_bd hR hk).1
  omega
 ·exact h2
theorem DInv.one {l : List Task} (hR : RightT l) {d : List Int} {i : Nat} (h : DInv l d) (hi : i < l.length) : DInv l (dOne l d i) := by
 have := (h.lenTo hR hi).inTo hR hi _ (Nat.le_refl _)
 rwa [List.take_length] at this
theorem DInv.to {l : List Task} (hR : RightT l) {d : List Int} (h : DInv l d) : ∀ k,k ≤ l.length → DInv l (dTo l d k)
 | 0,_ => h
 | k + 1,hk => (DInv.to hR h k (by omega)).one hR (by omega)
theorem set_max_ge (d : List Int) (j k : Nat) (x : Int) : d.getD k 0 ≤ (d.set j (max (d.getD j 0) x)).getD k 0 := by
 by_cases h : j < d.length
 ·rw [getD_set_int _ _ _ _ h]
  split
  ·rename_i e;subst e;omega
  ·exact Int.le_refl _
 ·rw [List.set_eq_of_length_le (by omega)]
  exact Int.le_refl _
theorem dIn_ge {l : List Task} {i : Nat} (k : Nat) : ∀ (r d : List Int),d.getD k 0 ≤ (dIn l d i r).getD k 0
 | [],_ => Int.le_refl _
 | j :: r,d => by
  have h := dIn_ge (l := l) (i := i) k r (d.set j.toNat (max (d.getD j.toNat 0) (lenAt l j.toNat + d.getD i 0)))
  exact Int.le_trans (set_max_ge d j.toNat k _) h
theorem dIn_hit {l : List Task} {i : Nat} : ∀ (r d : List Int) (j : Int),j ∈ r → j.toNat < d.length → lenAt l j.toNat + d.getD i 0 ≤ (dIn l d i r).getD j.toNat 0
 | x :: r,d,j,hj,hl => by
  have hs := dIn_ge (l := l) (i := i) j.toNat r (d.set x.toNat (max (d.getD x.toNat 0) (lenAt l x.toNat + d.getD i 0)))
  rcases List.mem_cons.1 hj with rfl | hj
  ·rw [getD_set_int _ _ _ _ hl,if_pos rfl] at hs
   have : dIn l d i (j :: r) = dIn l (d.set j.toNat (max (d.getD j.toNat 0) (lenAt l j.toNat + d.getD i 0))) i r := rfl
   rw [this]
   omega
  ·have h := dIn_hit (l := l) (i := i) r (d.set x.toNat (max (d.getD x.toNat 0) (lenAt l x.toNat + d.getD i 0))) j hj (by rw [List.length_set];exact hl)
   have h2 := set_max_ge d x.toNat i (lenAt l x.toNat + d.getD i 0)
   have : dIn l d i (x :: r) = dIn l (d.set x.toNat (max (d.getD x.toNat 0) (lenAt l x.toNat + d.getD i 0))) i r := rfl
   rw [this]
   omega
theorem dOne_ge {l : List Task} (d : List Int) (i k : Nat) : d.getD k 0 ≤ (dOne l d i).getD k 0 := Int.le_trans (set_max_ge d i k _) (dIn_ge k _ _)
theorem dOne_len {l : List Task} {d : List Int} {i : Nat} (h : i < d.length) : lenAt l i ≤ (dOne l d i).getD i 0 := by
 have h1 := dIn_ge (l := l) (i := i) i (rowAt l i) (dLen l d i)
 have h2 : lenAt l i ≤ (dLen l d i).getD i 0 := by
  unfold dLen
  rw [getD_set_int _ _ _ _ h,if_pos rfl]
  omega
 unfold dOne
 omega
theorem dOne_hit {l : List Task} {d : List Int} {i : Nat} {j : Int} (hj : j ∈ rowAt l i) (hl : j.toNat < d.length) : lenAt l j.toNat + d.getD i 0 ≤ (dOne l d i).getD j.toNat 0 := by
 have h1 := dIn_hit (l := l) (i := i) (rowAt l i) (dLen l d i) j hj (by unfold dLen;rw [List.length_set];exact hl)
 have h2 := set_max_ge d i i (lenAt l i)
 unfold dOne
 unfold dLen at h1 ⊢
 omega
theorem dTo_ge {l : List Task} (d : List Int) (k : Nat) : ∀ m m',m ≤ m' → (dTo l d m).getD k 0 ≤ (dTo l d m').getD k 0 := by
 intro m m' h
 induction m' with
 | zero =>
  have : m = 0 := by omega
  subst this
  exact Int.le_refl _
 | succ m' ih =>
  by_cases e : m = m' + 1
  ·subst e;exact Int.le_refl _
  ·exact Int.le_trans (ih (by omega)) (dOne_ge _ _ _)
def DLow (l : List Task) (d : List Int) (r : Nat) : Prop := ∀ i z,Chain l (i :: z) → (i :: z).length ≤ r → sumAt l (i :: z) ≤ d.getD i 0
theorem DLow.round {l : List Task} (hR : RightT l) {d : List Int} {r : Nat} (h : DLow l d r) (hd : DInv l d) : DLow l (dTo l d l.length) (r + 1) := by
 intro i z hz hlen
 have hi := hz.1 i (by simp)
 have hmono : ∀ k m,m ≤ l.length → (dTo l d m).getD k 0 ≤ (dTo l d l.length).getD k 0 := fun k m hm => dTo_ge d k m _ hm
 cases z with
 | nil =>
  have h1 : lenAt l i ≤ (dTo l d (i + 1)).getD i 0 := dOne_len (by rw [(hd.to hR i (by omega)).len];exact hi)
  have h2 := hmono i (i + 1) (by omega)
  rw [sumAt_cons,sumAt_nil]
  omega
 | cons j z =>
  obtain ⟨he,hz'⟩ := Chain.cons_iff.1 hz
  have h1 := h j z hz' (by simp only [List.length_cons] at hlen ⊢;omega)
  have h0 : d.getD j 0 ≤ (dTo l d j).getD j 0 := dTo_ge d j 0 j (Nat.zero_le _)
  have h2 : lenAt l i + (dTo l d j).getD j 0 ≤ (dTo l d (j + 1)).getD i 0 := by
   have := dOne_hit (l := l) (d := dTo l d j) (edge_rowAt hR he) (by rw [(hd.to hR j (by have := he.2.1;omega)).len,Int.toNat_natCast];exact hi)
   rwa [Int.toNat_natCast] at this
  have h3 := hmono i (j + 1) (by have := he.2.1;omega)
  rw [sumAt_cons]
  omega
end Go.Proofs.YtfkikpbnigenhaaGreat

namespace Go.Proofs.YtfkikpbnigenhaaGreat
open Go.RowKit Go.Shelf
def OwnD (w : World) (O2 n : Nat) (d : List Int) : Prop := w.ownsRow O2 3 1 (.slice (some ⟨O2,0,none⟩) n n) n (d.map (Value.int .i64))
theorem OwnD.cell {w : World} {O2 n : Nat} {d : List Int} (h : OwnD w O2 n d) (hd : d.length = n) {i : Nat} (hi : i < n) : w.cell? ⟨O2,i,none⟩ = some (.int .i64 (d.getD i 0)) := by
 rw [World.ownsRow.cellAt h i (by omega),List.getElem?_map,List.getElem?_eq_getElem (by omega),getD_get d i (by omega)]
 rfl
theorem OwnD.frozen {w : World} {O2 n : Nat} {d : List Int} (h : OwnD w O2 n d) (i : Nat) : w.frozen? ⟨O2,i,none⟩ = false := World.ownsRow.frozenAt h i
theorem OwnD.set_ {w : World} {O2 n : Nat} {d : List Int} (h : OwnD w O2 n d) (i : Nat) (x : Int) : OwnD (w.setCell ⟨O2,i,none⟩ (.int .i64 x)) O2 n (d.set i x) := by
 unfold OwnD
 rw [List.map_set]
 exact (World.ownsRow.stored h i _).1
theorem OwnD.drewN {w : World} {O2 n : Nat} {d : List Int} (h : OwnD w O2 n d) (q : Nat) : OwnD (w.drewN q) O2 n d := own_drewN h q
theorem OwnD.lt {w : World} {O2 n : Nat} {d : List Int} (h : OwnD w O2 n d) : O2 < w.heap.size := (World.ownsRow.lt h O2 rfl).2
theorem OwnD.below {w w' : World} {O2 n : Nat} {d : List Int} (h : OwnD w O2 n d) (hb : Below w.heap.size w w') : OwnD w' O2 n d := World.ownsRow.kept h (grown_below (row := none) hb) (by simp [Value.ownBlock])
end Go.Proofs.YtfkikpbnigenhaaGreat

namespace Go.Proofs.YtfkikpbnigenhaaGreat
open Go.RowKit Go.Shelf
theorem fAt_nonneg {f : Task → Int} {l : List Task} (hf : ∀ i,i < l.length → 0 ≤ fAt f l i) (i : Nat) : 0 ≤ fAt f l i := by
 by_cases h : i < l.length
 ·exact hf i h
 ·unfold fAt
  rw [List.getD_eq_getElem?_getD,List.getElem?_eq_none (by rw [List.length_map];omega)]
  exact Int.le_refl _
theorem usedY_mono {f : Task → Int} {l : List Task} (hf : ∀ i,i < l.length → 0 ≤ fAt f l i) {r r' : List Int} {t t' : Int} : ∀ (n : Nat) {y : List Nat},y.length = n → (∀ j ∈ y,onR l r t j = true → onR l r' t' j = true) → usedY f l r t y ≤ usedY f l r' t' y
 | 0,y,hy,_ => by
  have : y = [] := List.length_eq_zero_iff.1 hy
  subst this
  exact Int.le_refl _
 | n + 1,y,hy,h => by
  obtain ⟨z,i,rfl,hz⟩ := snoc_cases hy
  have ih := usedY_mono hf n hz (fun j hj => h j (by simp [hj]))
  have hi := h i (by simp)
  have h0 := fAt_nonneg hf i
  rw [usedY_append,usedY_append]
  cases h1 : onR l r t i with
  | true => rw [hi h1];simpa using ih
  | false =>
   rw [if_neg (by simp)]
   split <;> omega
theorem usedTo_mono {f : Task → Int} {l : List Task} (hf : ∀ i,i < l.length → 0 ≤ fAt f l i) {s s' : List Int} {t t' : Int} : ∀ k,(∀ j,j < k → onB l s t j = true → onB l s' t' j = true) → usedTo f l s t k ≤ usedTo f l s' t' k
 | 0,_ => Int.le_refl _
 | k + 1,h => by
  have ih := usedTo_mono hf k (fun j hj => h j (by omega))
  have hi := h k (by omega)
  have h0 := fAt_nonneg hf k
  rw [usedTo,usedTo]
  cases h1 : onB l s t k with
  | true => rw [hi h1];simpa using ih
  | false =>
   rw [if_neg (by simp)]
   split <;> omega
theorem onB_of_nonneg {l : List Task} {s : List Int} {t : Int} {i : Nat} (h : 0 ≤ atI s i) : onB l s t i = onR l s t i := by
 unfold onB Proofs.YtfkikpbnigenhaaGreat.onR
 rw [decide_eq_true h,Bool.true_and]
theorem onR_iff {l : List Task} {r : List Int} {t : Int} {i : Nat} : onR l r t i = true ↔ atI r i ≤ t ∧ t < endN l r i := by
 unfold Proofs.YtfkikpbnigenhaaGreat.onR
 rw [Bool.and_eq_true,decide_eq_true_iff,decide_eq_true_iff]
theorem usedY_le {f : Task → Int} {l : List Task} (hf : ∀ i,i < l.length → 0 ≤ fAt f l i) {s : List Int} {t : Int} {y : List Nat} (hlen : s.length = l.length) (hs : ∀ i,i < l.length → 0 ≤ atI s i) (hn : y.Nodup) (hlt : ∀ i ∈ y,i < l.length) : usedY f l s t y ≤ usedTo f l s t l.length := by
 have hT : Tied l ((List.range l.length).map fun j => if j ∈ y then atI s j else -1) s y := by
  have hat : ∀ j,j < l.length → atI ((List.range l.length).map fun j => if j ∈ y then atI s j else -1) j = if j ∈ y then atI s j else -1 := fun j hj => by
   rw [atI_get (by simpa using hj)]
   simp
  refine ⟨by simp,hlen,hn,hlt,fun i hi => ?_,fun i hi hy => ?_⟩
  ·rw [hat i (hlt i hi),if_pos hi]
   exact ⟨rfl,hs i (hlt i hi)⟩
  ·rw [hat i hi,if_neg hy]
 rw [← Tied.used _ rfl hT]
 refine usedTo_mono hf l.length fun j hj h => ?_
 by_cases hy : j ∈ y
 ·rw [hT.onR hy] at h
  rw [onB_of_nonneg (hs j hj)]
  exact h
 ·rw [onB_off (by rw [hT.off j hj hy];omega)] at h
  cases h
theorem room_iff {l : List Task} {c p : Int} {r : List Int} {y : List Nat} {i : Nat} {x : Int} : roomB l c p r y i x = true ↔ usedY Task.crew l r x y + fAt Task.crew l i ≤ c ∧ usedY Task.pow l r x y + fAt Task.pow l i ≤ p := by
 unfold roomB
 rw [Bool.and_eq_true,decide_eq_true_iff,decide_eq_true_iff]
theorem fits_all {l : List Task} {c p : Int} {r : List Int} {y : List Nat} {i : Nat} {t : Int} (hR : RightT l) (h : fitsR l c p r y i t = true) : ∀ x,t ≤ x → x < t + lenAt l i → roomB l c p r y i x = true := by
 intro x h1 h2
 have hall := List.all_eq_true.1 h
 have htm : t ∈ (timesR l r i t y).filter (fun z => decide (z ≤ x)) := List.mem_filter.2 ⟨by unfold timesR;simp,by simpa using h1⟩
 obtain ⟨m,hm,hmost⟩ := most_mem ((timesR l r i t y).filter (fun z => decide (z ≤ x))) (fun e => by rw [e] at htm;cases htm)
 obtain ⟨hm1,hm2⟩ := List.mem_filter.1 hm
 simp only [decide_eq_true_eq] at hm2
 have hroom := room_iff.1 (hall m hm1)
 have hon : ∀ j ∈ y,onR l r x j = true → onR l r m j = true := fun j hj ho => by
  rw [onR_iff] at ho ⊢
  refine ⟨?_,by omega⟩
  by_cases e : t < atI r j
  ·refine hmost _ (List.mem_filter.2 ⟨?_,by simpa using ho.1⟩)
   unfold timesR
   refine List.mem_cons_of_mem _ (List.mem_filter.2 ⟨List.mem_map.2 ⟨j,hj,rfl⟩,?_⟩)
   unfold inBy
   rw [decide_eq_true e,decide_eq_true (show atI r j < t + lenAt l i by omega)]
   rfl
  ·have := hmost t htm
   omega
 rw [room_iff]
 have h3 := usedY_mono (fun i hi => (crew_bd hR i hi).1) _ rfl hon
 have h4 := usedY_mono (fun i hi => (pow_bd hR i hi).1) _ rfl hon
 omega
theorem fits_of_all {l : List Task} {c p : Int} {r : List Int} {y : List Nat} {i : Nat} {t : Int} (hlen : 1 ≤ lenAt l i) (h : ∀ x,t ≤ x → x < t + lenAt l i → roomB l c p r y i x = true) : fitsR l c p r y i t = true := by
 unfold fitsR
 rw [List.all_eq_true]
 intro x hx
 unfold timesR at hx
 rcases List.mem_cons.1 hx with rfl | hx
 ·exact h x (Int.le_refl _) (by omega)
 ·have := (List.mem_filter.1 hx).2
  unfold inBy at this
  simp only [Bool.and_eq_true,decide_eq_true_eq] at this
  exact h x (by omega) this.2
theorem early_le {l : List Task} {c p : Int} {r : List Int} {y : List Nat} {i : Nat} (hR : RightT l) (hlen : 1 ≤ lenAt l i) (hf0 : 0 ≤ firstN l r (rowAt l i)) : ∀ (n : Nat) {x : Int},(x - firstN l r (rowAt l i)).toNat = n → firstN l r (rowAt l i) ≤ x → fitsR l c p r y i x = true → earlyR l c p r y i ≤ x
 | 0,x,hn,hx,h => by
  have : x = firstN l r (rowAt l i) := by omega
  subst this
  unfold earlyR
  rw [if_pos h]
  exact Int.le_refl _
 | n + 1,x,hn,hx,h => by
  cases hq : fitsR l c p r y i (x - 1) with
  | true =>
   have := early_le hR hlen hf0 n (x := x - 1) (by omega) (by omega) hq
   omega
  | false =>
   have hx1 : roomB l c p r y i (x - 1) = false := by
    cases hr : roomB l c p r y i (x - 1) with
    | false => rfl
    | true =>
     have := fits_of_all (c := c) (p := p) (r := r) (y := y) (t := x - 1) hlen fun z h1 h2 => by
      by_cases e : z = x - 1
      ·subst e;exact hr
      ·exact fits_all hR h z (by omega) (by omega)
     rw [hq] at this
     cases this
   have hx2 := fits_all hR h x (Int.le_refl _) (by omega)
   have hex : ∃ j ∈ y,onR l r (x - 1) j = true ∧ ¬ onR l r x j = true := by
    apply Classical.byContradiction
    intro hno
    have hon : ∀ j ∈ y,onR l r (x - 1) j = true → onR l r x j = true := fun j hj h1 => by
     apply Classical.byContradiction
     intro h2
     exact hno ⟨j,hj,h1,h2⟩
    have h3 := usedY_mono (fun i hi => (crew_bd hR i hi).1) _ rfl hon
    have h4 := usedY_mono (fun i hi => (pow_bd hR i hi).1) _ rfl hon
    rw [room_iff] at hx2
    have : roomB l c p r y i (x - 1) = true := room_iff.2 (by omega)
    rw [hx1] at this
    cases this
   obtain ⟨j,hj,h1,h2⟩ := hex
   rw [onR_iff] at h1 h2
   have he : endN l r j = x := by omega
   unfold earlyR
   split
   ·exact hx
   ·have hch := minTo_char (e := endN l r) (q := fitsR l c p r y i) hf0 (z := y) y.length (Nat.le_refl _)
    rw [List.take_length] at hch
    rcases hch with ⟨-,h3⟩ | ⟨k,_,_,_,_,h6⟩
    ·have := h3 j hj (by omega)
     rw [he,h] at this
     cases this
    ·have := h6 j hj (by omega) (by rw [he];exact h)
     omega
theorem firstN_ge {l : List Task} {s : List Int} {r : List Int} : 0 ≤ firstN l s r ∧ ∀ k ∈ r,endN l s k.toNat ≤ firstN l s r := by
 have h := maxOf_ge (f := endN l s) (r := r)
 have e : firstN l s r = maxOf (endN l s) r := by
  unfold firstN maxOf
  rw [show (fun (a k : Int) => max2 a (endN l s k.toNat)) = fun a k => max a (endN l s k.toNat) from funext fun a => funext fun k => max2_max _ _]
 rw [e]
 exact h
theorem firstN_le {l : List Task} {s : List Int} {M : Int} {r : List Int} (hM : 0 ≤ M) (h : ∀ k ∈ r,endN l s k.toNat ≤ M) : firstN l s r ≤ M := by
 have := (firstN_bd hM r.length h (Nat.le_refl _)).2
 rwa [List.take_length] at this
theorem Placed.step {l : List Task} {c p : Int} (hR : RightT l) (hc : 0 ≤ c ∧ 0 ≤ p) (hfit : l.any (tooMuch c p) = false) {y : List Nat} {i : Nat} (h : Placed l (y ++ [i])) :
  fitsR l c p (listAll l c p y) y i (earlyR l c p (listAll l c p y) y i) = true ∧ firstN l (listAll l c p y) (rowAt l i) ≤ earlyR l c p (listAll l c p y) y i := by
 obtain ⟨s,hT,hsb,hb⟩ := Placed.tied (c := c) (p := p) hR hc hfit _ rfl h.front
 obtain ⟨hn,hiz⟩ := nodup_snocN h.nodup
 have hi := h.lt i (by simp)
 have hr := h.ready y.length (by simp)
 rw [List.take_append_of_le_length (Nat.le_refl _),List.take_length] at hr
 have hr' : readyB l y i = true := by simpa using hr
 have hsk := hT.skip hR hi
 rw [hr',decide_eq_false hiz] at hsk
 obtain ⟨hun,hrow⟩ := skip_no hsk
 have hput := put_exists (s := s) hR hc hfit hT.len hi
 have he := hT.early hR hi hiz hrow hput
 have hlen : 1 ≤ lenAt l i := by rw [lenAt_eq hi];exact (fieldB_len (hR.field i hi)).1
 have hbd := putN_bd (count := y.length) hR hT.len hi (fun x hx => (hsb x hx).2) hput
 have hw := List.find?_some hput
 have hF : firstN l s (rowAt l i) = firstN l (listAll l c p y) (rowAt l i) := firstN_congr fun k hk => by
  have h1 := List.any_eq_false.1 hrow k hk
  unfold unB at h1
  simp only [decide_eq_true_eq] at h1
  have hky : k.toNat ∈ y := by
   apply Classical.byContradiction
   intro hn
   have := hT.off _ (rowAt_lt hR hi hk) hn
   omega
  exact (hT.on _ hky).1
 rw [he]
 refine ⟨by rw [← hT.whole hi hiz hbd.1 hlen];exact hw,?_⟩
 rw [← hF]
 rcases timesTo_inv _ ((List.mergeSort_perm _ _).mem_iff.1 (List.mem_of_find?_eq_some hput)) with h1 | ⟨j,_,_,h1,h2⟩ <;> omega
structure KeepsY (l : List Task) (c p : Int) (r : List Int) (y : List Nat) : Prop where
 len : r.length = l.length
 row : ∀ i ∈ y,∀ k ∈ rowAt l i,endN l r k.toNat ≤ atI r i
 crew : ∀ t,usedY Task.crew l r t y ≤ c
 pow : ∀ t,usedY Task.pow l r t y ≤ p
theorem usedY_congr {f : Task → Int} {l : List Task} {r r' : List Int} {t : Int} : ∀ (n : Nat) {y : List Nat},y.length = n → (∀ j ∈ y,atI r j = atI r' j) → usedY f l r t y = usedY f l r' t y
 | 0,y,hy,_ => by
  have : y = [] := List.length_eq_zero_iff.1 hy
  subst this
  rfl
 | n + 1,y,hy,h => by
  obtain ⟨z,i,rfl,hz⟩ := snoc_cases hy
  rw [usedY_append,usedY_append,usedY_congr n hz (fun j hj => h j (by simp [hj]))]
  have : onR l r t i = onR l r' t i := by unfold Proofs.YtfkikpbnigenhaaGreat.onR endN;rw [h i (by simp)]
  rw [this]
theorem Placed.keeps {l : List Task} {c p : Int} (hR : RightT l) (hc : 0 ≤ c ∧ 0 ≤ p) (hfit : l.any (tooMuch c p) = false) : ∀ (n : Nat) {y : List Nat},y.length = n → Placed l y → KeepsY l c p (listAll l c p y) y
 | 0,y,hy,_ => by
  have : y = [] := List.length_eq_zero_iff.1 hy
  subst this
  exact ⟨listR_len _,by simp,fun t => hc.1,fun t => hc.2⟩
 | n + 1,y,hy,h => by
  obtain ⟨z,i,rfl,hz⟩ := snoc_cases hy
  have ih := Placed.keeps hR hc hfit n hz h.front
  obtain ⟨hn,hiz⟩ := nodup_snocN h.nodup
  have hi := h.lt i (by simp)
  obtain ⟨hfits,hfirst⟩ := Placed.step (c := c) (p := p) hR hc hfit h
  have hroom := fits_all hR hfits
  have hlen := ih.len
  have hr := h.ready z.length (by simp)
  rw [List.take_append_of_le_length (Nat.le_refl _),List.take_length] at hr
  have hr' : readyB l z i = true := by simpa using hr
  have hrowz : ∀ k ∈ rowAt l i,k.toNat ∈ z := fun k hk => by simpa using List.all_eq_true.1 hr' k hk
  rw [listAll_snoc]
  generalize earlyR l c p (listAll l c p z) z i = t at *
  generalize listAll l c p z = r at *
  have hne : ∀ j ∈ z,i ≠ j := fun j hj e => hiz (e ▸ hj)
  have hat : ∀ j ∈ z,atI (r.set i t) j = atI r j := fun j hj => atI_set_ne (hne j hj)
  have hself : atI (r.set i t) i = t := atI_set_self (by omega)
  have hend : ∀ j ∈ z,endN l (r.set i t) j = endN l r j := fun j hj => endN_set_ne (hne j hj)
  have huse : ∀ f x,usedY f l (r.set i t) x z = usedY f l r x z := fun f x => usedY_congr _ rfl hat
  refine ⟨by rw [List.length_set];exact hlen,fun j hj k hk => ?_,fun x => ?_,fun x => ?_⟩
  ·rcases List.mem_append.1 hj with hj | hj
   ·have hkz : k.toNat ∈ z := by
     obtain ⟨m,hm,rfl⟩ := List.mem_iff_getElem.1 hj
     have h1 := h.front.ready m hm
     exact List.mem_of_mem_take (by simpa using List.all_eq_true.1 h1 k hk)
    rw [hend _ hkz,hat j hj]
    exact ih.row j hj k hk
   ·have : j = i := List.mem_singleton.1 hj
    subst this
    rw [hend _ (hrowz k hk),hself]
    have := (firstN_ge (l := l) (s := r) (r := rowAt l j)).2 k hk
    omega
  ·rw [usedY_append,huse]
   by_cases ho : onR l (r.set i t) x i = true
   ·rw [if_pos ho]
    rw [onR_iff,hself,endN_set_self (by omega)] at ho
    exact (room_iff.1 (hroom x ho.1 ho.2)).1
   ·rw [if_neg ho]
    have := ih.crew x
    omega
  ·rw [usedY_append,huse]
   by_cases ho : onR l (r.set i t) x i = true
   ·rw [if_pos ho]
    rw [onR_iff,hself,endN_set_self (by omega)] at ho
    exact (room_iff.1 (hroom x ho.1 ho.2)).2
   ·rw [if_neg ho]
    have := ih.pow x
    omega
theorem Placed.full {l : List Task} {y : List Nat} (h : Placed l y) (hy : y.length = l.length) {i : Nat} (hi : i < l.length) : i ∈ y := by
 apply Classical.byContradiction
 intro hn
 have := List.Nodup.length_le_of_subset (nodup_snocN' h.nodup hn) (l₂ := List.range l.length) (fun j hj => by
  rw [List.mem_range]
  rcases List.mem_append.1 hj with hj | hj
  ·exact h.lt j hj
  ·rw [List.mem_singleton.1 hj];exact hi)
 simp only [List.length_append,List.length_range,List.length_singleton] at this
 omega
theorem Placed.check {l : List Task} {c p : Int} (hR : RightT l) (hc : 0 ≤ c ∧ 0 ≤ p) (hfit : l.any (tooMuch c p) = false) {y : List Nat} (h : Placed l y) (hy : y.length = l.length) :
  checkB l c p (listAll l c p y) = true ∧ (listAll l c p y).length = l.length ∧ ∀ x ∈ listAll l c p y,0 ≤ x ∧ x ≤ 80000 := by
 have hk := Placed.keeps (c := c) (p := p) hR hc hfit _ rfl h
 obtain ⟨s,hT,-,hb⟩ := Placed.tied (c := c) (p := p) hR hc hfit _ rfl h
 have h8 := hR.len
 have hlen := hk.len
 refine ⟨?_,hlen,fun x hx => by have := hb x hx;omega⟩
 have hs : ∀ i,i < l.length → 0 ≤ atI (listAll l c p y) i := fun i hi => (hT.on i (h.full hy hi)).2
 rw [keeps_check hlen]
 unfold keepsB
 rw [Bool.and_eq_true,List.all_eq_true,List.all_eq_true]
 refine ⟨fun i hi => ?_,fun i hi => ?_⟩
 ·have hi' := List.mem_range.1 hi
  rw [Bool.not_eq_true',List.any_eq_false]
  intro k hkr
  have := hk.row i (h.full hy hi') k hkr
  unfold lateB
  simp
  omega
 ·have hle : ∀ f : Task → Int,(∀ i,i < l.length → 0 ≤ fAt f l i) → usedTo f l (listAll l c p y) (atI (listAll l c p y) i) l.length = usedY f l (listAll l c p y) (atI (listAll l c p y) i) y := fun f _ => by
   have hT' : Tied l (listAll l c p y) (listAll l c p y) y := ⟨hlen,hlen,h.nodup,h.lt,fun j hj => ⟨rfl,hs j (h.lt j hj)⟩,fun j hj hn => absurd (h.full hy hj) hn⟩
   exact Tied.used _ rfl hT'
  unfold fitsB
  rw [hle _ (fun i hi => (crew_bd hR i hi).1),hle _ (fun i hi => (pow_bd hR i hi).1),Bool.and_eq_true,decide_eq_true_iff,decide_eq_true_iff]
  exact ⟨hk.crew _,hk.pow _⟩
end Go.Proofs.YtfkikpbnigenhaaGreat

namespace Go.Proofs.YtfkikpbnigenhaaGreat
open Go.RowKit Go.Shelf
theorem Placed.next {l : List Task} {y t : List Nat} {i : Nat} (h : Placed l (y ++ i :: t)) : i < l.length ∧ i ∉ y ∧ readyB l y i = true ∧ Placed l (y ++ [i]) := by
 have e : y ++ i :: t = (y ++ [i]) ++ t := by simp
 rw [e] at h
 have h' := h.front
 have hr := h'.ready y.length (by simp)
 rw [List.take_append_of_le_length (Nat.le_refl _),List.take_length] at hr
 exact ⟨h'.lt i (by simp),(nodup_snocN h'.nodup).2,by simpa using hr,h'⟩
theorem fur_char {l : List Task} {c p : Int} : ∀ (m : Nat) (y : List Nat) (known : Int),y.length + m = l.length → Placed l y →
  ((furR l c p m y known).1 < 0 ∧ ∀ t,Placed l (y ++ t) → (y ++ t).length = l.length → 0 ≤ known ∧ known ≤ lenTo l (listAll l c p (y ++ t)) l.length) ∨
  (0 ≤ (furR l c p m y known).1 ∧ (known < 0 ∨ (furR l c p m y known).1 < known) ∧ (∃ t,Placed l (y ++ t) ∧ (y ++ t).length = l.length ∧ furR l c p m y known = (lenTo l (listAll l c p (y ++ t)) l.length,listAll l c p (y ++ t))) ∧
   ∀ t,Placed l (y ++ t) → (y ++ t).length = l.length → (furR l c p m y known).1 ≤ lenTo l (listAll l c p (y ++ t)) l.length)
 | 0,y,known,hm,hP => by
  have hnil : ∀ t : List Nat,(y ++ t).length = l.length → t = [] := fun t ht => by
   rw [List.length_append] at ht
   exact List.length_eq_zero_iff.1 (by omega)
  have h0 : ∀ k,0 ≤ lenTo l (listAll l c p y) k := fun k => by
   induction k with
   | zero => exact Int.le_refl _
   | succ k ih => unfold lenTo;split <;> omega
  have h0 := h0 l.length
  unfold furR
  by_cases hc : known < 0 ∨ lenTo l (listAll l c p y) l.length < known
  ·rw [if_pos hc]
   refine .inr ⟨h0,hc,⟨[],by simpa using hP,by simp;omega,by simp⟩,fun t _ ht => ?_⟩
   rw [hnil t ht,List.append_nil]
   exact Int.le_refl _
  ·rw [if_neg hc]
   refine .inl ⟨by simp,fun t _ ht => ?_⟩
   rw [hnil t ht,List.append_nil]
   omega
 | m + 1,y,known,hm,hP => by
  suffices H : ∀ k,k ≤ l.length →
    ((furTo (furR l c p m) l y known k).1 < 0 ∧ (furTo (furR l c p m) l y known k).2.1 = known ∧ ∀ i t,i < k → Placed l (y ++ i :: t) → (y ++ i :: t).length = l.length → 0 ≤ known ∧ known ≤ lenTo l (listAll l c p (y ++ i :: t)) l.length) ∨
    (0 ≤ (furTo (furR l c p m) l y known k).1 ∧ (furTo (furR l c p m) l y known k).2.1 = (furTo (furR l c p m) l y known k).1 ∧ (known < 0 ∨ (furTo (furR l c p m) l y known k).1 < known) ∧
     (∃ i t,Placed l (y ++ i :: t) ∧ (y ++ i :: t).length = l.length ∧ (furTo (furR l c p m) l y known k).1 = lenTo l (listAll l c p (y ++ i :: t)) l.length ∧ (furTo (furR l c p m) l y known k).2.2 = listAll l c p (y ++ i :: t)) ∧
     ∀ i t,i < k → Placed l (y ++ i :: t) → (y ++ i :: t).length = l.length → (furTo (furR l c p m) l y known k).1 ≤ lenTo l (listAll l c p (y ++ i :: t)) l.length) by
   have hcons : ∀ t : List Nat,(y ++ t).length = l.length → ∃ i t',t = i :: t' := fun t ht => by
    cases t with
    | nil => rw [List.append_nil] at ht;omega
    | cons i t' => exact ⟨i,t',rfl⟩
   unfold furR
   rcases H l.length (Nat.le_refl _) with ⟨h1,-,h3⟩ | ⟨h1,-,h3,⟨i,t,hp,hl,e1,e2⟩,h5⟩
   ·refine .inl ⟨h1,fun t ht hl => ?_⟩
    obtain ⟨i,t',rfl⟩ := hcons t hl
    exact h3 i t' ht.next.1 ht hl
   ·refine .inr ⟨h1,h3,⟨i :: t,hp,hl,by rw [← e1,← e2]⟩,fun t ht hl => ?_⟩
    obtain ⟨i,t',rfl⟩ := hcons t hl
    exact h5 i t' ht.next.1 ht hl
  intro k
  induction k with
  | zero => exact fun _ => .inl ⟨by simp [furTo],rfl,fun i t hi => absurd hi (by omega)⟩
  | succ k ih =>
   intro hk
   have ih := ih (by omega)
   rw [furTo_succ]
   generalize furTo (furR l c p m) l y known k = a at *
   obtain ⟨ab,ak,al⟩ := a
   unfold furStep
   simp only at ih ⊢
   cases hsk : (decide (k ∈ y) || !readyB l y k) with
   | true =>
    have hno : ∀ t,¬ Placed l (y ++ k :: t) := fun t ht => by
     have := ht.next
     rw [decide_eq_false this.2.1,this.2.2.1] at hsk
     cases hsk
    rw [if_pos rfl]
    rcases ih with ⟨h1,h2,h3⟩ | ⟨h1,h2,h3,h4,h5⟩
    ·refine .inl ⟨h1,h2,fun i t hi hp hl => ?_⟩
     by_cases e : i = k
     ·subst e;exact absurd hp (hno t)
     ·exact h3 i t (by omega) hp hl
    ·refine .inr ⟨h1,h2,h3,h4,fun i t hi hp hl => ?_⟩
     by_cases e : i = k
     ·subst e;exact absurd hp (hno t)
     ·exact h5 i t (by omega) hp hl
   | false =>
    simp only [Bool.false_eq_true,if_false]
    have hky : k ∉ y := by simp at hsk;exact hsk.1
    have hrd : readyB l y k = true := by simp at hsk;exact hsk.2
    have hP2 := hP.snoc (by omega) hky hrd
    have happ : ∀ t : List Nat,y ++ [k] ++ t = y ++ k :: t := fun t => by simp
    have hq := fur_char (c := c) (p := p) m (y ++ [k]) ak (by rw [List.length_append,List.length_singleton];omega) hP2
    simp only [happ] at hq
    generalize furR l c p m (y ++ [k]) ak = q at *
    obtain ⟨qn,ql⟩ := q
    simp only at hq ⊢
    rcases hq with ⟨q1,q2⟩ | ⟨q1,q2,⟨t0,hp0,hl0,e0⟩,q4⟩
    ·rw [if_neg (by omega)]
     rcases ih with ⟨h1,h2,h3⟩ | ⟨h1,h2,h3,h4,h5⟩
     ·refine .inl ⟨h1,h2,fun i t hi hp hl => ?_⟩
      by_cases e : i = k
      ·subst e
       rw [← h2]
       exact q2 t hp hl
      ·exact h3 i t (by omega) hp hl
     ·refine .inr ⟨h1,h2,h3,h4,fun i t hi hp hl => ?_⟩
      by_cases e : i = k
      ·subst e
       have := (q2 t hp hl).2
       simp only at h2 ⊢
       omega
      ·exact h5 i t (by omega) hp hl
    ·rw [if_pos q1]
     injection e0 with e1 e2
     refine .inr ⟨q1,rfl,?_,⟨k,t0,hp0,hl0,e1,e2⟩,fun i t hi hp hl => ?_⟩
     ·rcases ih with ⟨h1,h2,h3⟩ | ⟨h1,h2,h3,h4,h5⟩
      ·simp only at h2 ⊢
       rw [← h2]
       exact q2
      ·simp only at h2 h3 ⊢
       omega
     ·by_cases e : i = k
      ·subst e
       exact q4 t hp hl
      ·rcases ih with ⟨h1,h2,h3⟩ | ⟨h1,h2,h3,h4,h5⟩
       ·have := h3 i t (by omega) hp hl
        simp only at h2 ⊢
        omega
       ·have := h5 i t (by omega) hp hl
        simp only at h2 this ⊢
        omega
theorem sorted_full {l : List Task} (hR : RightT l) (κ : Nat → Int) (hκ : ∀ i j,edge l i j → κ i < κ j) : ∃ y,Placed l y ∧ y.length = l.length ∧ y.Pairwise fun a b => κ a ≤ κ b := by
 have hperm := List.mergeSort_perm (List.range l.length) fun a b => decide (κ a ≤ κ b)
 have hsort : ((List.range l.length).mergeSort fun a b => decide (κ a ≤ κ b)).Pairwise fun a b => κ a ≤ κ b := by
  have := List.pairwise_mergeSort (le := fun a b : Nat => decide (κ a ≤ κ b)) (fun a b c h1 h2 => by simp only [decide_eq_true_eq] at *;omega) (fun a b => by simp only [Bool.or_eq_true,decide_eq_true_eq];omega) (List.range l.length)
  exact this.imp (fun h => by simpa using h)
 generalize (List.range l.length).mergeSort (fun a b => decide (κ a ≤ κ b)) = y at *
 have hmem : ∀ i,i ∈ y ↔ i < l.length := fun i => by rw [hperm.mem_iff,List.mem_range]
 refine ⟨y,⟨hperm.nodup_iff.2 List.nodup_range,fun i hi => (hmem i).1 hi,fun k hk => ?_⟩,by rw [hperm.length_eq,List.length_range],hsort⟩
 unfold readyB
 rw [List.all_eq_true]
 intro j hj
 rw [decide_eq_true_iff]
 have hi := (hmem _).1 (List.getElem_mem hk)
 have he := row_edge hR hi hj
 have hlt := hκ _ _ he
 obtain ⟨m,hm,e⟩ := List.mem_iff_getElem.1 ((hmem _).2 he.1)
 rw [List.mem_take_iff_getElem]
 by_cases h : m < k
 ·exact ⟨m,by omega,e⟩
 ·exfalso
  rw [← e] at hlt
  by_cases h2 : m = k
  ·subst h2;omega
  ·have := List.pairwise_iff_getElem.1 hsort k m hk hm (by omega)
   omega
section
variable {l : List Task} {c p : Int}
theorem least_is (hR : RightT l) (hc : 0 ≤ c ∧ 0 ≤ p) (hfit : l.any (tooMuch c p) = false) : (∃ y,Placed l y ∧ y.length = l.length ∧ leastN l c p = (lenTo l (listAll l c p y) l.length,listAll l c p y)) ∧
  ∀ y,Placed l y → y.length = l.length → (leastN l c p).1 ≤ lenTo l (listAll l c p y) l.length := by
 rw [least_fur hR hc hfit]
 have h := fur_char (c := c) (p := p) l.length [] (-1) (by simp) (Placed.nil l)
 simp only [List.nil_append] at h
 rcases h with ⟨-,h⟩ | ⟨-,-,h3,h4⟩
 ·obtain ⟨y,hy,hl,-⟩ := sorted_full hR (upI l) fun i j he => by
   rw [up_eq hR he.2.1]
   have h1 := (maxOf_ge (f := upI l) (r := rowAt l j)).2 _ (edge_rowAt hR he)
   rw [Int.toNat_natCast] at h1
   have h2 : 1 ≤ lenAt l j := by rw [lenAt_eq he.2.1];exact (fieldB_len (hR.field j he.2.1)).1
   omega
  have := (h y hy hl).1
  omega
 ·exact ⟨h3,h4⟩
theorem lenTo_mono {s r : List Int} : ∀ k,(∀ i,i < k → atI r i ≤ atI s i) → lenTo l r k ≤ lenTo l s k
 | 0,_ => Int.le_refl _
 | k + 1,h => by
  have ih := lenTo_mono (s := s) (r := r) k (fun i hi => h i (by omega))
  have h1 := h k (by omega)
  unfold lenTo endN
  split <;> split <;> omega
theorem keeps_facts {s : List Int} (hlen : s.length = l.length) (hk : checkB l c p s = true) : (∀ i,i < l.length → ∀ k ∈ rowAt l i,endN l s k.toNat ≤ atI s i) ∧ ∀ i,i < l.length → fitsB l c p s (atI s i) = true := by
 rw [keeps_check hlen] at hk
 unfold keepsB at hk
 rw [Bool.and_eq_true,List.all_eq_true,List.all_eq_true] at hk
 refine ⟨fun i hi k hkr => ?_,fun i hi => hk.2 i (List.mem_range.2 hi)⟩
 have h := hk.1 i (List.mem_range.2 hi)
 rw [Bool.not_eq_true',List.any_eq_false] at h
 have := h k hkr
 unfold lateB at this
 simp at this
 omega
theorem keeps_at (hR : RightT l) {s : List Int} (hs : ∀ i,i < l.length → 0 ≤ atI s i) (hf : ∀ i,i < l.length → fitsB l c p s (atI s i) = true) {t : Int} {i : Nat} (hi : i < l.length) (ho : onR l s t i = true) : usedTo Task.crew l s t l.length ≤ c ∧ usedTo Task.pow l s t l.length ≤ p := by
 have him : atI s i ∈ ((List.range l.length).filter fun j => onR l s t j).map (atI s) := List.mem_map.2 ⟨i,List.mem_filter.2 ⟨List.mem_range.2 hi,ho⟩,rfl⟩
 obtain ⟨m,hm,hmost⟩ := most_mem (((List.range l.length).filter fun j => onR l s t j).map (atI s)) (fun e => by rw [e] at him;cases him)
 obtain ⟨j,hj,rfl⟩ := List.mem_map.1 hm
 obtain ⟨hj1,hj2⟩ := List.mem_filter.1 hj
 have hjl := List.mem_range.1 hj1
 have hfj := hf j hjl
 unfold fitsB at hfj
 rw [Bool.and_eq_true,decide_eq_true_iff,decide_eq_true_iff] at hfj
 have hon : ∀ k,k < l.length → onB l s t k = true → onB l s (atI s j) k = true := fun k hk h => by
  rw [onB_of_nonneg (hs k hk)] at h ⊢
  have h1 := hmost (atI s k) (List.mem_map.2 ⟨k,List.mem_filter.2 ⟨List.mem_range.2 hk,h⟩,rfl⟩)
  rw [onR_iff] at h hj2 ⊢
  omega
 have h3 := usedTo_mono (fun i hi => (crew_bd hR i hi).1) l.length hon
 have h4 := usedTo_mono (fun i hi => (pow_bd hR i hi).1) l.length hon
 omega
theorem least_opt (hR : RightT l) (hc : 0 ≤ c ∧ 0 ≤ p) (hfit : l.any (tooMuch c p) = false) {s : List Int} (hlen : s.length = l.length) (hs : ∀ i,i < l.length → 0 ≤ atI s i) (hk : checkB l c p s = true) : (leastN l c p).1 ≤ lenTo l s l.length := by
 obtain ⟨hrow,hfits⟩ := keeps_facts hlen hk
 have hln : ∀ i,i < l.length → 1 ≤ lenAt l i := fun i hi => by rw [lenAt_eq hi];exact (fieldB_len (hR.field i hi)).1
 obtain ⟨y,hy,hyl,hsort⟩ := sorted_full hR (atI s) fun i j he => by
  have h1 := hrow j he.2.1 _ (edge_rowAt hR he)
  have h2 := hln i he.1
  rw [Int.toNat_natCast] at h1
  unfold endN at h1
  omega
 have H : ∀ k,k ≤ y.length → ∀ j ∈ y.take k,atI (listAll l c p (y.take k)) j ≤ atI s j := by
  intro k
  induction k with
  | zero => intro _ j hj;simp at hj
  | succ k ih =>
   intro hk1
   have ih := ih (by omega)
   have hkl : k < y.length := by omega
   have hPk := hy.take (k + 1)
   rw [take_snoc y k hkl] at hPk ⊢
   have hi := hy.lt _ (List.getElem_mem hkl)
   obtain ⟨hn,hiz⟩ := nodup_snocN hPk.nodup
   have hk' := Placed.keeps (c := c) (p := p) hR hc hfit _ rfl hPk.front
   have hrl := hk'.len
   have hbefore : ∀ j ∈ y.take k,atI s j ≤ atI s y[k] := fun j hj => by
    obtain ⟨m,hm,rfl⟩ := List.mem_iff_getElem.1 hj
    rw [List.getElem_take]
    rw [List.length_take] at hm
    exact List.pairwise_iff_getElem.1 hsort m k (by omega) hkl (by omega)
   have hrd := hPk.next.2.2.1
   have hrowz : ∀ j ∈ rowAt l y[k],j.toNat ∈ y.take k := fun j hj => by simpa using List.all_eq_true.1 hrd j hj
   generalize y[k] = i at *
   have hmem := fun j (hj : j ∈ y.take k) => hPk.front.lt j hj
   have hfirst : firstN l (listAll l c p (y.take k)) (rowAt l i) ≤ atI s i := firstN_le (hs i hi) fun j hj => by
    have h1 := hrow i hi j hj
    have h2 := ih _ (hrowz j hj)
    unfold endN at h1 ⊢
    omega
   have hfit' : fitsR l c p (listAll l c p (y.take k)) (y.take k) i (atI s i) = true := fits_of_all (hln i hi) fun x h1 h2 => by
    have hoi : onR l s x i = true := onR_iff.2 ⟨h1,h2⟩
    have hon : ∀ j ∈ y.take k,onR l (listAll l c p (y.take k)) x j = true → onR l s x j = true := fun j hj h => by
     rw [onR_iff] at h ⊢
     have h3 := ih j hj
     have h4 := hbefore j hj
     unfold endN at h ⊢
     omega
    have hat := keeps_at hR hs hfits hi hoi
    have h3 := usedY_mono (fun i hi => (crew_bd hR i hi).1) _ rfl hon
    have h4 := usedY_mono (fun i hi => (pow_bd hR i hi).1) _ rfl hon
    have h5 := usedY_le (f := Task.crew) (fun i hi => (crew_bd hR i hi).1) (t := x) hlen hs hPk.nodup hPk.lt
    have h6 := usedY_le (f := Task.pow) (fun i hi => (pow_bd hR i hi).1) (t := x) hlen hs hPk.nodup hPk.lt
    rw [usedY_append,if_pos hoi] at h5 h6
    rw [room_iff]
    omega
   have hle := early_le (c := c) (p := p) hR (hln i hi) (firstN_ge (l := l) (s := listAll l c p (y.take k)) (r := rowAt l i)).1 _ rfl hfirst hfit'
   intro j hj
   rw [listAll_snoc]
   rcases List.mem_append.1 hj with hj | hj
   ·have hne : i ≠ j := fun e => hiz (by rw [e];exact hj)
    rw [atI_set_ne hne]
    exact ih j hj
   ·rw [List.mem_singleton.1 hj,atI_set_self (by omega)]
    exact hle
 have h1 := H y.length (Nat.le_refl _)
 rw [List.take_length] at h1
 have h2 := (least_is hR hc hfit).2 y hy hyl
 have h3 := lenTo_mono (l := l) (s := s) (r := listAll l c p y) l.length fun i hi => h1 i (hy.full hyl hi)
 omega
theorem least_keeps (hR : RightT l) (hc : 0 ≤ c ∧ 0 ≤ p) (hfit : l.any (tooMuch c p) = false) : checkB l c p (leastN l c p).2 = true ∧ (leastN l c p).2.length = l.length ∧ (∀ x ∈ (leastN l c p).2,0 ≤ x ∧ x ≤ 80000) ∧ (leastN l c p).1 = lenTo l (leastN l c p).2 l.length := by
 obtain ⟨y,hy,hl,e⟩ := (least_is hR hc hfit).1
 obtain ⟨h1,h2,h3⟩ := hy.check hR hc hfit hl
 rw [e]
 exact ⟨h1,h2,h3,rfl⟩
theorem up_le_len (hR : RightT l) {s : List Int} (hs : ∀ i,i < l.length → 0 ≤ atI s i) (hrow : ∀ i,i < l.length → ∀ k ∈ rowAt l i,endN l s k.toNat ≤ atI s i) : ∀ (z : List Nat) (i : Nat),Chain l (z ++ [i]) → sumAt l (z ++ [i]) ≤ endN l s i := by
 intro z
 generalize hn : z.length = n
 induction n generalizing z with
 | zero =>
  intro i h
  have : z = [] := List.length_eq_zero_iff.1 hn
  subst this
  have hi := h.1 i (by simp)
  have := hs i hi
  rw [sumAt_snoc,sumAt_nil]
  unfold endN
  omega
 | succ n ih =>
  intro i h
  have hne : z ≠ [] := fun e => by rw [e] at hn;simp at hn
  have hi := h.1 i (by simp)
  have he := h.last_edge hne
  have h1 := ih z.dropLast (by rw [List.length_dropLast];omega) (z.getLast hne) (by rw [List.dropLast_concat_getLast hne];exact h.front)
  rw [List.dropLast_concat_getLast hne] at h1
  have h2 := hrow i hi _ (edge_rowAt hR he)
  rw [Int.toNat_natCast] at h2
  rw [sumAt_snoc]
  unfold endN at h1 h2 ⊢
  omega
theorem lenTo_ge {s : List Int} : ∀ k,∀ i,i < k → endN l s i ≤ lenTo l s k
 | 0,i,h => absurd h (by omega)
 | k + 1,i,h => by
  unfold lenTo
  by_cases e : i = k
  ·subst e;split <;> omega
  ·have := lenTo_ge (s := s) k i (by omega)
   split <;> omega
end
end Go.Proofs.YtfkikpbnigenhaaGreat

namespace Go.Proofs.YtfkikpbnigenhaaGreat
structure Emb (l m : List Task) (φ : Nat → Nat) : Prop where
 lt : ∀ i,i < l.length → φ i < m.length
 inj : ∀ i k,i < l.length → k < l.length → φ i = φ k → i = k
 get : ∀ i (h : i < l.length),m[φ i]'(lt i h) = l[i]
section
variable {l m : List Task} {φ : Nat → Nat}
theorem Emb.edge (h : Emb l m φ) {i k : Nat} (he : edge l i k) : edge m (φ i) (φ k) := by
 obtain ⟨hi,hk,hm⟩ := he
 exact ⟨h.lt i hi,h.lt k hk,by rw [h.get i hi,h.get k hk];exact hm⟩
theorem Emb.chain (h : Emb l m φ) : ∀ {x : List Nat},Chain l x → Chain m (x.map φ)
 | [],_ => Chain.nil m
 | [i],hx => Chain.one (h.lt i (hx.1 i (by simp)))
 | i :: j :: x,hx => by
  obtain ⟨h1,h2⟩ := Chain.cons_iff.1 hx
  exact Chain.cons_iff.2 ⟨h.edge h1,h.chain (x := j :: x) h2⟩
theorem Emb.lenAt (h : Emb l m φ) {i : Nat} (hi : i < l.length) : lenAt m (φ i) = lenAt l i := by
 rw [lenAt_eq (h.lt i hi),lenAt_eq hi,h.get i hi]
theorem Emb.sum (h : Emb l m φ) : ∀ {x : List Nat},(∀ i ∈ x,i < l.length) → sumAt m (x.map φ) = sumAt l x
 | [],_ => rfl
 | i :: x,hx => by
  rw [List.map_cons,sumAt_cons,sumAt_cons,h.lenAt (hx i (by simp)),h.sum fun j hj => hx j (by simp [hj])]
theorem Emb.reach (h : Emb l m φ) {i k : Nat} (hr : reach l i k) : reach m (φ i) (φ k) := by
 obtain ⟨z,hz⟩ := hr
 exact ⟨z.map φ,by simpa using h.chain hz⟩
theorem Emb.excl (h : Emb l m φ) {c p : Int} {i k : Nat} (he : excl l c p i k) : excl m c p (φ i) (φ k) := by
 obtain ⟨hi,hk,he⟩ := he
 refine ⟨h.lt i hi,h.lt k hk,?_⟩
 rw [h.get i hi,h.get k hk]
 rcases he with he | he | he | he
 ·exact .inl (h.reach he)
 ·exact .inr (.inl (h.reach he))
 ·exact .inr (.inr (.inl he))
 ·exact .inr (.inr (.inr he))
end
theorem sumAt_perm {l : List Task} {x y : List Nat} (h : x.Perm y) : sumAt l x = sumAt l y := by
 induction h with
 | nil => rfl
 | cons i _ ih => rw [sumAt_cons,sumAt_cons,ih]
 | swap i j z => rw [sumAt_cons,sumAt_cons,sumAt_cons,sumAt_cons];omega
 | trans _ _ ih1 ih2 => rw [ih1,ih2]
theorem nodup_memb (s n : Nat) : (memb s n).Nodup := List.nodup_range.sublist List.filter_sublist
def Apart (l : List Task) (c p : Int) (z : List Nat) : Prop := ∀ i ∈ z,∀ k ∈ z,i ≠ k → excl l c p i k
theorem heavy_apart {l : List Task} {c p L : Int} {S s : Nat} (h : Heavy l c p S L s) : Apart l c p (memb s l.length) := by
 intro i hi k hk hne
 obtain ⟨h1,h2⟩ := mem_memb.1 hi
 obtain ⟨h3,h4⟩ := mem_memb.1 hk
 rcases Nat.lt_or_gt_of_ne hne with hlt | hlt
 ·exact excl_symm (h.clique k i h3 hlt h4 h2)
 ·exact h.clique i k h1 hlt h2 h4
end Go.Proofs.YtfkikpbnigenhaaGreat

namespace Go.Proofs.YtfkikpbnigenhaaGreat
open Go.RowKit Go.Shelf
theorem given_valid {l : List Task} {c p : Int} (h : givenN l c p = 0) : validB l c p = true := by
 cases hv : validB l c p with
 | true => rfl
 | false => unfold givenN at h;rw [hv] at h;simp at h
end Go.Proofs.YtfkikpbnigenhaaGreat

namespace Go.Proofs.YtfkikpbnigenhaaGreat
open Go.RowKit Go.Shelf
def sumT (g : Int → Int) : Nat → Int
 | 0 => 0
 | n + 1 => sumT g n + g (n : Int)
theorem sumT_add (g h : Int → Int) : ∀ n,sumT (fun t => g t + h t) n = sumT g n + sumT h n
 | 0 => rfl
 | n + 1 => by
  rw [sumT,sumT,sumT,sumT_add g h n]
  omega
theorem sumT_le {g : Int → Int} {c : Int} : ∀ n : Nat,(∀ t : Int,0 ≤ t → t < n → g t ≤ c) → sumT g n ≤ c * (n : Int)
 | 0,_ => by simp [sumT]
 | n + 1,h => by
  have h1 := sumT_le n (fun t h0 h1 => h t h0 (by omega))
  have h2 := h n (by omega) (by omega)
  rw [sumT]
  have : c * ((n + 1 : Nat) : Int) = c * n + c := by rw [show ((n + 1 : Nat) : Int) = (n : Int) + 1 from rfl,Int.mul_add,Int.mul_one]
  omega
theorem sumT_zero : ∀ n,sumT (fun _ => 0) n = 0
 | 0 => rfl
 | n + 1 => by rw [sumT,sumT_zero n];rfl
theorem sumT_one (a : Int) (s e : Int) (hs : 0 ≤ s) (hse : s ≤ e) : ∀ n : Nat, sumT (fun t => if s ≤ t ∧ t < e then a else 0) n = a * (min e (max s n) - s)
  | 0 => by rw [sumT]; have : min e (max s (0 : Nat)) - s = 0 := by omega
            rw [this, Int.mul_zero]
  | n + 1 => by
    rw [sumT, sumT_one a s e hs hse n]
    by_cases h : s ≤ (n : Int) ∧ (n : Int) < e
    · rw [if_pos h]
      have h1 : min e (max s ((n + 1 : Nat) : Int)) - s = (min e (max s (n : Int)) - s) + 1 := by omega
      rw [h1, Int.mul_add, Int.mul_one]
    · rw [if_neg h]
      have h1 : min e (max s ((n + 1 : Nat) : Int)) - s = min e (max s (n : Int)) - s := by omega
      rw [h1, Int.add_zero]
def areaTo (f : Task → Int) (l : List Task) : Nat → Int
 | 0 => 0
 | k + 1 => areaTo f l k + fAt f l k * lenAt l k
theorem area_need {f : Task → Int} {l : List Task} : ∀ k,k ≤ l.length → areaTo f l k = needN f (l.take k)
 | 0,_ => rfl
 | k + 1,hk => by
  rw [areaTo,area_need k (by omega),needN_take f l k (by omega),fAt_get (by omega),lenAt_eq (by omega)]
theorem area_sum {f : Task → Int} {l : List Task} {s : List Int} {n : Nat} (hs : ∀ i,i < l.length → 0 ≤ atI s i ∧ endN l s i ≤ n) (hl : ∀ i,i < l.length → 0 ≤ lenAt l i) : ∀ k,k ≤ l.length → sumT (fun t => usedTo f l s t k) n = areaTo f l k
 | 0,_ => sumT_zero n
 | k + 1,hk => by
  have ih := area_sum (f := f) hs hl k (by omega)
  obtain ⟨h1,h2⟩ := hs k (by omega)
  have h3 := hl k (by omega)
  have e : (fun t => usedTo f l s t (k + 1)) = fun t => usedTo f l s t k + if atI s k ≤ t ∧ t < endN l s k then fAt f l k else 0 := by
   funext t
   rw [usedTo,onB_of_nonneg h1]
   by_cases h : onR l s t k = true
   ·rw [if_pos h,if_pos (onR_iff.1 h)]
   ·rw [if_neg h,if_neg (fun h' => h (onR_iff.2 h'))]
  rw [e,sumT_add,ih,sumT_one _ _ _ h1 (by unfold endN;omega),areaTo]
  congr 1
  have : min (endN l s k) (max (atI s k) (n : Int)) - atI s k = lenAt l k := by unfold endN at *;omega
  rw [this]
section
variable {l : List Task} {c p : Int}
theorem used_le (hR : RightT l) (hc : 0 ≤ c ∧ 0 ≤ p) {s : List Int} (hs : ∀ i,i < l.length → 0 ≤ atI s i) (hf : ∀ i,i < l.length → fitsB l c p s (atI s i) = true) (t : Int) : usedTo Task.crew l s t l.length ≤ c ∧ usedTo Task.pow l s t l.length ≤ p := by
 by_cases h : ∃ i,i < l.length ∧ onB l s t i = true
 ·obtain ⟨i,hi,ho⟩ := h
  rw [onB_of_nonneg (hs i hi)] at ho
  exact keeps_at hR hs hf hi ho
 ·have hno : ∀ j,j < l.length → onB l s t j = false := fun j hj => by
   cases hb : onB l s t j with
   | false => rfl
   | true => exact absurd ⟨j,hj,hb⟩ h
  rw [usedTo_none _ hno,usedTo_none _ hno]
  exact hc
theorem lenTo_nonneg {s : List Int} : ∀ k,0 ≤ lenTo l s k
 | 0 => Int.le_refl _
 | k + 1 => by
  have := lenTo_nonneg (s := s) k
  unfold lenTo
  split <;> omega
theorem area_le (hR : RightT l) (hc : 0 ≤ c ∧ 0 ≤ p) {s : List Int} (hs : ∀ i,i < l.length → 0 ≤ atI s i) (hf : ∀ i,i < l.length → fitsB l c p s (atI s i) = true) : needN Task.crew l ≤ c * lenTo l s l.length ∧ needN Task.pow l ≤ p * lenTo l s l.length := by
 have h0 := lenTo_nonneg (l := l) (s := s) l.length
 obtain ⟨n,hn⟩ := Int.eq_ofNat_of_zero_le h0
 have hb : ∀ i,i < l.length → 0 ≤ atI s i ∧ endN l s i ≤ n := fun i hi => ⟨hs i hi,by have := lenTo_ge (l := l) (s := s) l.length i hi;omega⟩
 have hl : ∀ i,i < l.length → 0 ≤ lenAt l i := fun i _ => (lenAt_bd hR i).1
 have h1 := area_sum (f := Task.crew) hb hl l.length (Nat.le_refl _)
 have h2 := area_sum (f := Task.pow) hb hl l.length (Nat.le_refl _)
 have h3 := sumT_le (g := fun t => usedTo Task.crew l s t l.length) (c := c) n fun t _ _ => (used_le hR hc hs hf t).1
 have h4 := sumT_le (g := fun t => usedTo Task.pow l s t l.length) (c := p) n fun t _ _ => (used_le hR hc hs hf t).2
 rw [area_need _ (Nat.le_refl _),List.take_length] at h1 h2
 rw [hn]
 exact ⟨by omega,by omega⟩
theorem ceil_le {a b n : Int} (hb : 0 < b) (h : a ≤ b * n) : (a + b - 1) / b ≤ n := by
 have : (a + b - 1) / b < n + 1 := Int.ediv_lt_of_lt_mul hb (by rw [Int.add_mul,Int.mul_comm n b];omega)
 omega
theorem given_lims (hg : givenN l c p = 0) : RightT l ∧ 0 ≤ c ∧ 0 ≤ p := by
 have h := valid_right (given_valid hg)
 exact ⟨h.1,h.2.1,h.2.2.2.1⟩
theorem work_le (hg : givenN l c p = 0) {s : List Int} (hs : ∀ i,i < l.length → 0 ≤ atI s i) (hf : ∀ i,i < l.length → fitsB l c p s (atI s i) = true) : workN l c p ≤ lenTo l s l.length := by
 obtain ⟨hR,hc0,hp0⟩ := given_lims hg
 obtain ⟨h1,h2⟩ := area_le hR ⟨hc0,hp0⟩ hs hf
 have h0 := lenTo_nonneg (l := l) (s := s) l.length
 generalize lenTo l s l.length = n at *
 unfold workN stepN
 have hcp : 0 < needN Task.crew l → 0 < c := fun h => by
  apply Classical.byContradiction
  intro hn
  have : c = 0 := by omega
  rw [this,Int.zero_mul] at h1
  omega
 have hpp : 0 < needN Task.pow l → 0 < p := fun h => by
  apply Classical.byContradiction
  intro hn
  have : p = 0 := by omega
  rw [this,Int.zero_mul] at h2
  omega
 by_cases ha : 0 < needN Task.crew l
 ·have h3 := ceil_le (hcp ha) h1
  by_cases hb : 0 < needN Task.pow l
  ·have h4 := ceil_le (hpp hb) h2
   rw [if_pos ha,if_pos hb]
   split <;> split <;> omega
  ·rw [if_pos ha,if_neg hb]
   split <;> omega
 ·by_cases hb : 0 < needN Task.pow l
  ·have h4 := ceil_le (hpp hb) h2
   rw [if_neg ha,if_pos hb]
   split <;> omega
  ·rw [if_neg ha,if_neg hb]
   exact h0
theorem excl_apart (hR : RightT l) {s : List Int} (hlen : s.length = l.length) (hs : ∀ i,i < l.length → 0 ≤ atI s i) (hrow : ∀ i,i < l.length → ∀ k ∈ rowAt l i,endN l s k.toNat ≤ atI s i) (hf : ∀ i,i < l.length → fitsB l c p s (atI s i) = true) {i k : Nat} (hik : i ≠ k) (h : excl l c p i k) : endN l s i ≤ atI s k ∨ endN l s k ≤ atI s i := by
 obtain ⟨hi,hk,h⟩ := h
 have hln : ∀ i,0 ≤ lenAt l i := fun i => (lenAt_bd hR i).1
 have hreach : ∀ i k,reach l i k → endN l s i ≤ atI s k := by
  intro i k ⟨z,hz⟩
  generalize hn : z.length = n
  induction n generalizing z k with
  | zero =>
   have : z = [] := List.length_eq_zero_iff.1 hn
   subst this
   have he := (Chain.cons_iff.1 hz).1
   have := hrow k he.2.1 _ (edge_rowAt hR he)
   rwa [Int.toNat_natCast] at this
  | succ n ih =>
   obtain ⟨z',x,rfl,hz'⟩ := snoc_cases hn
   have h1 : Chain l ((i :: z' ++ [x]) ++ [k]) := by simpa using hz
   have h2 := ih (z := z') (k := x) (by simpa using h1.front) hz'
   have he := h1.last_edge (by simp)
   rw [List.getLast_append_of_ne_nil _ (by simp)] at he
   have h3 := hrow k he.2.1 _ (edge_rowAt hR he)
   rw [Int.toNat_natCast] at h3
   have h4 := hln x
   unfold endN at h2 h3 ⊢
   simp only [List.getLast_singleton] at h3 h4
   omega
 have hover : ∀ t,onB l s t i = true → onB l s t k = true → fAt Task.crew l i + fAt Task.crew l k ≤ c ∧ fAt Task.pow l i + fAt Task.pow l k ≤ p := fun t h1 h2 => by
  rw [onB_of_nonneg (hs i hi)] at h1
  obtain ⟨g1,g2⟩ := keeps_at hR hs hf hi h1
  rw [onB_of_nonneg (hs k hk)] at h2
  have hn : ([i,k] : List Nat).Nodup := by simp [hik]
  have h5 := usedY_le (f := Task.crew) (fun i hi => (crew_bd hR i hi).1) (t := t) (y := [i,k]) hlen hs hn (by simp [hi,hk])
  have h6 := usedY_le (f := Task.pow) (fun i hi => (pow_bd hR i hi).1) (t := t) (y := [i,k]) hlen hs hn (by simp [hi,hk])
  rw [show [i,k] = ([] ++ [i]) ++ [k] from rfl,usedY_append,usedY_append,if_pos h1,if_pos h2] at h5 h6
  have e1 : ∀ f,usedY f l s t [] = 0 := fun _ => rfl
  rw [e1] at h5 h6
  omega
 by_cases ho : endN l s i ≤ atI s k ∨ endN l s k ≤ atI s i
 ·exact ho
 ·exfalso
  have hli : 1 ≤ lenAt l i := by rw [lenAt_eq hi];exact (fieldB_len (hR.field i hi)).1
  have hlk : 1 ≤ lenAt l k := by rw [lenAt_eq hk];exact (fieldB_len (hR.field k hk)).1
  have hmax : ∃ t,onB l s t i = true ∧ onB l s t k = true := by
   by_cases hle : atI s i ≤ atI s k
   ·refine ⟨atI s k,?_,?_⟩
    ·rw [onB_of_nonneg (hs i hi),onR_iff];omega
    ·rw [onB_of_nonneg (hs k hk),onR_iff];unfold endN;omega
   ·refine ⟨atI s i,?_,?_⟩
    ·rw [onB_of_nonneg (hs i hi),onR_iff];unfold endN;omega
    ·rw [onB_of_nonneg (hs k hk),onR_iff];omega
  obtain ⟨t,h1,h2⟩ := hmax
  obtain ⟨g1,g2⟩ := hover t h1 h2
  rw [fAt_get hi,fAt_get hk] at g1 g2
  rcases h with h | h | h | h
  ·exact ho (.inl (hreach i k h))
  ·exact ho (.inr (hreach k i h))
  ·omega
  ·omega
theorem apart_sum {s : List Int} {M : Int} (hl : ∀ i,0 ≤ lenAt l i) : ∀ (n : Nat) {z : List Nat},z.length = n → z.Nodup → (∀ i ∈ z,1 ≤ lenAt l i ∧ 0 ≤ atI s i ∧ endN l s i ≤ M) → (∀ i ∈ z,∀ k ∈ z,i ≠ k → endN l s i ≤ atI s k ∨ endN l s k ≤ atI s i) → 0 ≤ M → sumAt l z ≤ M
 | 0,z,hz,_,_,_,hM => by
  have : z = [] := List.length_eq_zero_iff.1 hz
  subst this
  rw [sumAt_nil]
  exact hM
 | n + 1,z,hz,hn,hb,hap,hM => by
  have hne : z ≠ [] := fun e => by rw [e] at hz;simp at hz
  obtain ⟨m,hm,hmost⟩ := most_mem (z.map (atI s)) (by simpa using hne)
  obtain ⟨j,hj,rfl⟩ := List.mem_map.1 hm
  have hperm := List.perm_cons_erase hj
  have hnd : (z.erase j).Nodup := hn.erase j
  have hsub : ∀ i ∈ z.erase j,i ∈ z ∧ i ≠ j := fun i hi => ⟨List.mem_of_mem_erase hi,fun e => by subst e;exact (List.Nodup.not_mem_erase hn) hi⟩
  have hlast : ∀ i ∈ z.erase j,endN l s i ≤ atI s j := fun i hi => by
   obtain ⟨h1,h2⟩ := hsub i hi
   have h3 := hmost (atI s i) (List.mem_map.2 ⟨i,h1,rfl⟩)
   have h4 := (hb j hj).1
   rcases hap i h1 j hj h2 with h | h
   ·exact h
   ·unfold endN at h
    omega
  have ih := apart_sum (s := s) (M := atI s j) hl n (z := z.erase j) (by rw [List.length_erase_of_mem hj];omega) hnd (fun i hi => ⟨(hb i (hsub i hi).1).1,(hb i (hsub i hi).1).2.1,hlast i hi⟩) (fun i hi k hk hik => hap i (hsub i hi).1 k (hsub k hk).1 hik) (hb j hj).2.1
  rw [sumAt_perm hperm,sumAt_cons]
  have := (hb j hj).2.2
  unfold endN at this
  omega
theorem clique_le (hR : RightT l) {s : List Int} (hlen : s.length = l.length) (hs : ∀ i,i < l.length → 0 ≤ atI s i) (hk : checkB l c p s = true) {z : List Nat} (hn : z.Nodup) (hlt : ∀ i ∈ z,i < l.length) (hz : Apart l c p z) : sumAt l z ≤ lenTo l s l.length := by
 obtain ⟨hrow,hf⟩ := keeps_facts hlen hk
 refine apart_sum (fun i => (lenAt_bd hR i).1) _ rfl hn (fun i hi => ⟨by rw [lenAt_eq (hlt i hi)];exact (fieldB_len (hR.field i (hlt i hi))).1,hs i (hlt i hi),lenTo_ge _ i (hlt i hi)⟩) (fun i hi k hk' hik => excl_apart hR hlen hs hrow hf hik (hz i hi k hk' hik)) (lenTo_nonneg _)
theorem best_le (hg : givenN l c p = 0) {L K : Int} {y : List Nat} {z : Nat} (hc : Covers l [l.length] L y) (hh : Heavy l c p (2 ^ l.length) K z) {s : List Int} (hlen : s.length = l.length) (hs : ∀ i,i < l.length → 0 ≤ atI s i) (hk : checkB l c p s = true) : bestN l c p ≤ lenTo l s l.length := by
 obtain ⟨hR,hc0,hp0⟩ := given_lims hg
 obtain ⟨hrow,hf⟩ := keeps_facts hlen hk
 have h1 := work_le hg hs hf
 have h2 : L ≤ lenTo l s l.length := by
  rw [← hc.sum]
  by_cases e : y = []
  ·rw [e,sumAt_nil]
   exact lenTo_nonneg _
  ·have h3 := up_le_len hR hs hrow y.dropLast (y.getLast e) (by rw [List.dropLast_concat_getLast e];exact hc.chain)
   rw [List.dropLast_concat_getLast e] at h3
   have h4 := lenTo_ge (l := l) (s := s) l.length _ (hc.chain.1 _ (List.getLast_mem e))
   omega
 have h3 : K ≤ lenTo l s l.length := by
  rw [← hh.sum]
  exact clique_le hR hlen hs hk (nodup_memb z _) (fun i hi => (mem_memb.1 hi).1) (heavy_apart hh)
 unfold bestN
 rw [pathN_eq hc,cliqueN_eq hh]
 unfold max3
 first | omega | (split <;> split <;> omega)
end
end Go.Proofs.YtfkikpbnigenhaaGreat
