/- Parts of the proof, laid into one text: RefAt, RefFits, Tied, FurP, RefEarly, RefList. -/
import Derived.BigQuiet
import Derived.Deep.AppendLies
import Derived.Deep.Draws
import Derived.Deep.LoopGhost
import Derived.Deep.QuietTactic
import Derived.Deep.RegionHeld3
import Derived.Deep.RegionLaw
import Derived.IntWalk
import Derived.Laws.CopyOwn
import Derived.Laws.EntriesVeiled
import Derived.Lib.Hide
import Derived.Maps.AppendAt
import Derived.Maps.Own
import Derived.Maps.OwnOps
import Derived.Maps.OwnSet
import Derived.Maps.Views
import Derived.PlainAid
import Derived.Shelf.Abstract
import Derived.Shelf.Sort.Plain
import Derived.Sort.OwnSortedInts
import Derived.StillTail
import Derived.StillTailTactics
import Derived.Test.YtfkikpbnigenhaaGreatC1
import Derived.Test.YtfkikpbnigenhaaGreatG1
import Derived.Test.YtfkikpbnigenhaaGreatG2
import Derived.Test.YtfkikpbnigenhaaGreatG4
import Derived.Test.YtfkikpbnigenhaaGreatG8
import Derived.Test.YtfkikpbnigenhaaGreatProg
import Derived.WalkKit
import Derived.WalkLawsBesides
import Derived.WalkSpells

namespace Go.Proofs.YtfkikpbnigenhaaGreat
open Go.RowKit Go.Shelf
def onR (l : List Task) (r : List Int) (t : Int) (i : Nat) : Bool := decide (atI r i ≤ t) && decide (t < endN l r i)
def usedY (f : Task → Int) (l : List Task) (r : List Int) (t : Int) (y : List Nat) : Int := y.foldl (fun a i => a + if onR l r t i then fAt f l i else 0) 0
end Go.Proofs.YtfkikpbnigenhaaGreat

namespace Go.Proofs.YtfkikpbnigenhaaGreat
open Go.RowKit Go.Shelf
def inBy (t n x : Int) : Bool := decide (t < x) && decide (x < t + n)
def timesR (l : List Task) (r : List Int) (i : Nat) (t : Int) (y : List Nat) : List Int := t :: (y.map (atI r)).filter (inBy t (lenAt l i))
def roomB (l : List Task) (c p : Int) (r : List Int) (y : List Nat) (i : Nat) (x : Int) : Bool := decide (usedY Task.crew l r x y + fAt Task.crew l i ≤ c) && decide (usedY Task.pow l r x y + fAt Task.pow l i ≤ p)
def fitsR (l : List Task) (c p : Int) (r : List Int) (y : List Nat) (i : Nat) (t : Int) : Bool := (timesR l r i t y).all (roomB l c p r y i)
end Go.Proofs.YtfkikpbnigenhaaGreat

namespace Go.Proofs.YtfkikpbnigenhaaGreat
open Go.RowKit Go.Shelf
structure Tied (l : List Task) (s r : List Int) (y : List Nat) : Prop where
 len : s.length = l.length
 lenR : r.length = l.length
 nodup : y.Nodup
 lt : ∀ i ∈ y,i < l.length
 on : ∀ i ∈ y,atI s i = atI r i ∧ 0 ≤ atI r i
 off : ∀ i,i < l.length → i ∉ y → atI s i = -1
theorem nodup_snocN {y : List Nat} {i : Nat} (h : (y ++ [i]).Nodup) : y.Nodup ∧ i ∉ y := by
 have hn := List.nodup_append.1 h
 exact ⟨hn.1,fun hm => hn.2.2 i hm i (by simp) rfl⟩
theorem nodup_snocN' {y : List Nat} {i : Nat} (h : y.Nodup) (hi : i ∉ y) : (y ++ [i]).Nodup :=
 List.nodup_append.2 ⟨h,by simp,fun a ha b hb => by rw [List.mem_singleton.1 hb];exact fun e => hi (e ▸ ha)⟩
theorem Tied.snoc_inv {l : List Task} {s r : List Int} {y : List Nat} {i : Nat} (h : Tied l s r (y ++ [i])) : i < l.length ∧ i ∉ y ∧ Tied l (s.set i (-1)) r y := by
 obtain ⟨hn,hiy⟩ := nodup_snocN h.nodup
 have hi := h.lt i (by simp)
 refine ⟨hi,hiy,by rw [List.length_set];exact h.len,h.lenR,hn,fun j hj => h.lt j (by simp [hj]),fun j hj => ?_,fun j hj hjy => ?_⟩
 ·have : i ≠ j := fun e => hiy (e ▸ hj)
  rw [atI_set_ne this]
  exact h.on j (by simp [hj])
 ·by_cases e : i = j
  ·subst e
   rw [atI_set_self (by rw [h.len];exact hj)]
  ·rw [atI_set_ne e]
   exact h.off j hj (by simp only [List.mem_append,List.mem_singleton,not_or];exact ⟨hjy,fun h => e h.symm⟩)
theorem Tied.snoc {l : List Task} {s r : List Int} {y : List Nat} {i : Nat} {t : Int} (h : Tied l s r y) (hi : i < l.length) (hy : i ∉ y) (ht : 0 ≤ t) : Tied l (s.set i t) (r.set i t) (y ++ [i]) := by
 have h1 := h.len
 have h2 := h.lenR
 refine ⟨by rw [List.length_set];exact h.len,by rw [List.length_set];exact h.lenR,nodup_snocN' h.nodup hy,fun j hj => ?_,fun j hj => ?_,fun j hj hjy => ?_⟩
 ·rcases List.mem_append.1 hj with hj | hj
  ·exact h.lt j hj
  ·rw [List.mem_singleton.1 hj];exact hi
 ·by_cases e : i = j
  ·subst e
   rw [atI_set_self (by omega),atI_set_self (by omega)]
   exact ⟨rfl,ht⟩
  ·rw [atI_set_ne e,atI_set_ne e]
   rcases List.mem_append.1 hj with hj | hj
   ·exact h.on j hj
   ·exact absurd (List.mem_singleton.1 hj).symm e
 ·simp only [List.mem_append,List.mem_singleton,not_or] at hjy
  rw [atI_set_ne (fun e => hjy.2 e.symm)]
  exact h.off j hj hjy.1
theorem Tied.all_on {l : List Task} {s r : List Int} {y : List Nat} (h : Tied l s r y) (hy : y.length = l.length) {i : Nat} (hi : i < l.length) : i ∈ y := by
 apply Classical.byContradiction
 intro hn
 have := List.Nodup.length_le_of_subset (nodup_snocN' h.nodup hn) (l₂ := List.range l.length) (fun j hj => by
  rw [List.mem_range]
  rcases List.mem_append.1 hj with hj | hj
  ·exact h.lt j hj
  ·rw [List.mem_singleton.1 hj];exact hi)
 simp only [List.length_append,List.length_range,List.length_singleton] at this
 omega
theorem usedTo_none {f : Task → Int} {l : List Task} {s : List Int} {t : Int} : ∀ k,(∀ j,j < k → onB l s t j = false) → usedTo f l s t k = 0
 | 0,_ => rfl
 | k + 1,h => by
  rw [usedTo,usedTo_none k (fun j hj => h j (by omega)),h k (by omega)]
  rfl
theorem onB_off {l : List Task} {s : List Int} {t : Int} {i : Nat} (h : atI s i < 0) : onB l s t i = false := by
 unfold onB
 rw [decide_eq_false (show ¬ 0 ≤ atI s i by omega)]
 rfl
theorem usedTo_set {f : Task → Int} {l : List Task} {s : List Int} {t x : Int} {i : Nat} (hs : atI s i < 0) : ∀ k,usedTo f l (s.set i x) t k = usedTo f l s t k + if i < k ∧ onB l (s.set i x) t i = true then fAt f l i else 0
 | 0 => by simp [usedTo]
 | k + 1 => by
  have ih := usedTo_set (f := f) (l := l) (t := t) (x := x) hs k
  rw [usedTo,usedTo,ih]
  by_cases e : k = i
  ·subst e
   rw [onB_off (s := s) hs,if_neg (show ¬ (k < k ∧ onB l (s.set k x) t k = true) from fun h => by omega)]
   by_cases h2 : onB l (s.set k x) t k = true
   ·rw [if_pos h2,if_neg (show ¬ false = true by simp),if_pos (show k < k + 1 ∧ onB l (s.set k x) t k = true from ⟨by omega,h2⟩)]
    try omega
   ·rw [if_neg h2,if_neg (show ¬ false = true by simp),if_neg (show ¬ (k < k + 1 ∧ onB l (s.set k x) t k = true) from fun h => h2 h.2)]
    try omega
  ·have h1 : onB l (s.set i x) t k = onB l s t k := by unfold onB;rw [atI_set_ne (Ne.symm e),endN_set_ne (Ne.symm e)]
   rw [h1]
   by_cases h2 : i < k ∧ onB l (s.set i x) t i = true
   ·rw [if_pos h2,if_pos (show i < k + 1 ∧ onB l (s.set i x) t i = true from ⟨by omega,h2.2⟩)];omega
   ·rw [if_neg h2,if_neg (show ¬ (i < k + 1 ∧ onB l (s.set i x) t i = true) from fun h => h2 ⟨by omega,h.2⟩)];omega
theorem Tied.onR {l : List Task} {s r : List Int} {y : List Nat} (h : Tied l s r y) {i : Nat} (hi : i ∈ y) (t : Int) : onB l s t i = onR l r t i := by
 obtain ⟨h1,h2⟩ := h.on i hi
 unfold onB Proofs.YtfkikpbnigenhaaGreat.onR endN
 rw [h1,decide_eq_true h2,Bool.true_and]
theorem usedY_append {f : Task → Int} {l : List Task} {r : List Int} {t : Int} {y : List Nat} {i : Nat} : usedY f l r t (y ++ [i]) = usedY f l r t y + if onR l r t i then fAt f l i else 0 := by
 unfold usedY
 rw [List.foldl_append]
 rfl
theorem snoc_cases {y : List Nat} {n : Nat} (h : y.length = n + 1) : ∃ z i,y = z ++ [i] ∧ z.length = n := by
 have hne : y ≠ [] := fun e => by rw [e] at h;simp at h
 refine ⟨y.dropLast,y.getLast hne,(List.dropLast_concat_getLast hne).symm,by rw [List.length_dropLast];omega⟩
theorem Tied.used {f : Task → Int} {l : List Task} {r : List Int} {t : Int} : ∀ (n : Nat) {y : List Nat} {s : List Int},y.length = n → Tied l s r y → usedTo f l s t l.length = usedY f l r t y
 | 0,y,s,hy,h => by
  have : y = [] := List.length_eq_zero_iff.1 hy
  subst this
  rw [usedTo_none l.length (fun j hj => onB_off (by rw [h.off j hj (by simp)];omega))]
  rfl
 | n + 1,y,s,hy,h => by
  obtain ⟨z,i,rfl,hz⟩ := snoc_cases hy
  obtain ⟨hi,hiz,h'⟩ := h.snoc_inv
  have hl := h.len
  have e : (s.set i (-1)).set i (atI s i) = s := by
   rw [List.set_set,atI_get (by omega)]
   simp
  have e2 := usedTo_set (f := f) (l := l) (s := s.set i (-1)) (t := t) (x := atI s i) (i := i) (by rw [atI_set_self (by omega)];omega) l.length
  rw [e] at e2
  rw [e2,Tied.used n hz h',usedY_append,h.onR (by simp) t]
  by_cases h2 : Proofs.YtfkikpbnigenhaaGreat.onR l r t i = true
  ·rw [if_pos h2,if_pos ⟨hi,h2⟩]
  ·rw [if_neg h2,if_neg (fun h => h2 h.2)]
theorem Tied.whole {l : List Task} {c p : Int} {s r : List Int} {y : List Nat} {i : Nat} {x : Int} (h : Tied l s r y) (hi : i < l.length) (hy : i ∉ y) (hx : 0 ≤ x) (hlen : 1 ≤ lenAt l i) : wholeB l c p (s.set i x) i = fitsR l c p r y i x := by
 have hl := h.len
 have hoff := h.off i hi hy
 have hfit : ∀ z,x ≤ z → z < x + lenAt l i → fitsB l c p (s.set i x) z = roomB l c p r y i z := fun z h1 h2 => by
  have hon : onB l (s.set i x) z i = true := by
   unfold onB
   rw [atI_set_self (by omega),endN_set_self (by omega)]
   simp [hx,h1,h2]
  unfold fitsB roomB
  rw [usedTo_set (by omega),usedTo_set (by omega),if_pos ⟨hi,hon⟩,if_pos ⟨hi,hon⟩,Tied.used _ rfl h,Tied.used _ rfl h]
 have hfx := hfit x (Int.le_refl _) (by omega)
 unfold wholeB fitsR
 rw [atI_set_self (by omega),hfx]
 rw [Bool.eq_iff_iff]
 simp only [Bool.and_eq_true,Bool.not_eq_true',List.any_eq_false,List.all_eq_true]
 constructor
 ·rintro ⟨h1,h2⟩ z hz
  unfold timesR at hz
  rcases List.mem_cons.1 hz with rfl | hz
  ·exact h1
  ·obtain ⟨hz,hin⟩ := List.mem_filter.1 hz
   obtain ⟨j,hj,rfl⟩ := List.mem_map.1 hz
   unfold inBy at hin
   simp only [Bool.and_eq_true,decide_eq_true_eq] at hin
   have hjl := h.lt j hj
   have hij : i ≠ j := fun e => hy (e ▸ hj)
   have hm : atI r j ∈ s.set i x := by
    rw [← (h.on j hj).1,← atI_set_ne (s := s) (x := x) hij,atI_get (by rw [List.length_set];omega)]
    exact List.getElem_mem _
   have h3 := h2 _ hm
   unfold badB at h3
   rw [atI_set_self (by omega),endN_set_self (by omega),decide_eq_true hin.1,decide_eq_true hin.2,hfit _ (by omega) hin.2] at h3
   simpa using h3
 ·intro h1
  refine ⟨h1 x (by unfold timesR;simp),fun z hz => ?_⟩
  obtain ⟨k,hk,rfl⟩ := List.mem_iff_getElem.1 hz
  rw [List.length_set] at hk
  have hat : (s.set i x)[k]'(by rw [List.length_set];exact hk) = atI (s.set i x) k := (atI_get (by rw [List.length_set];exact hk)).symm
  rw [hat]
  unfold badB
  rw [atI_set_self (by omega),endN_set_self (by omega)]
  by_cases e : i = k
  ·subst e
   rw [atI_set_self (by omega),decide_eq_false (show ¬ x < x by omega)]
   simp
  ·rw [atI_set_ne e]
   by_cases hky : k ∈ y
   ·obtain ⟨h3,h4⟩ := h.on k hky
    rw [h3]
    by_cases h5 : x < atI r k
    ·by_cases h6 : atI r k < x + lenAt l i
     ·rw [hfit _ (by omega) h6]
      have := h1 (atI r k) (by
       unfold timesR
       refine List.mem_cons_of_mem _ (List.mem_filter.2 ⟨List.mem_map.2 ⟨k,hky,rfl⟩,?_⟩)
       unfold inBy
       rw [decide_eq_true h5,decide_eq_true h6]
       rfl)
      rw [this]
      simp
     ·rw [decide_eq_false h6];simp
    ·rw [decide_eq_false h5];simp
   ·rw [h.off k (by omega) hky,decide_eq_false (show ¬ x < -1 by omega)]
    simp
theorem find_least {T : List Int} {q : Int → Bool} {t : Int} (hs : T.Pairwise (fun a b => a ≤ b)) (h : T.find? q = some t) : t ∈ T ∧ q t = true ∧ ∀ x ∈ T,q x = true → t ≤ x := by
 refine ⟨List.mem_of_find?_eq_some h,List.find?_some h,fun x hx hq => ?_⟩
 obtain ⟨-,us,vs,rfl,has⟩ := List.find?_eq_some_iff_append.1 h
 rcases List.mem_append.1 hx with hx | hx
 ·have := has x hx
  simp [hq] at this
 ·rcases List.mem_cons.1 hx with rfl | hx
  ·exact Int.le_refl _
  ·exact (List.pairwise_cons.1 (List.pairwise_append.1 hs).2.1).1 x hx
theorem timesTo_inv {l : List Task} {s : List Int} {f x : Int} : ∀ k,x ∈ timesTo l s f k → x = f ∨ ∃ j,j < k ∧ 0 ≤ atI s j ∧ f < endN l s j ∧ x = endN l s j
 | 0,h => by simp only [timesTo,List.mem_singleton] at h;exact .inl h
 | k + 1,h => by
  unfold timesTo at h
  split at h
  ·rename_i hc
   rcases List.mem_append.1 h with h | h
   ·rcases timesTo_inv k h with h | ⟨j,hj,r⟩
    ·exact .inl h
    ·exact .inr ⟨j,by omega,r⟩
   ·exact .inr ⟨k,by omega,hc.1,hc.2,List.mem_singleton.1 h⟩
  ·rcases timesTo_inv k h with h | ⟨j,hj,r⟩
   ·exact .inl h
   ·exact .inr ⟨j,by omega,r⟩
def minStep (e : Nat → Int) (q : Int → Bool) (f b : Int) (j : Nat) : Int := if f < e j ∧ (b < 0 ∨ e j < b) ∧ q (e j) = true then e j else b
def minTo (e : Nat → Int) (q : Int → Bool) (f : Int) (z : List Nat) : Int := z.foldl (minStep e q f) (-1)
theorem minTo_snoc {e : Nat → Int} {q : Int → Bool} {f : Int} {z : List Nat} {k : Nat} (h : k < z.length) : minTo e q f (z.take (k + 1)) = minStep e q f (minTo e q f (z.take k)) z[k] := by
 unfold minTo
 rw [take_snoc z k h,List.foldl_append]
 rfl
theorem minTo_char {e : Nat → Int} {q : Int → Bool} {f : Int} (hf : 0 ≤ f) {z : List Nat} : ∀ k,k ≤ z.length → (minTo e q f (z.take k) = -1 ∧ ∀ j ∈ z.take k,f < e j → q (e j) = false) ∨
  ∃ j ∈ z.take k,minTo e q f (z.take k) = e j ∧ f < e j ∧ q (e j) = true ∧ ∀ i ∈ z.take k,f < e i → q (e i) = true → minTo e q f (z.take k) ≤ e i
 | 0,_ => .inl ⟨rfl,by simp⟩
 | k + 1,hk => by
  have ih := minTo_char (e := e) (q := q) hf (z := z) k (by omega)
  have hlt : k < z.length := by omega
  have hm : ∀ j,j ∈ z.take (k + 1) ↔ j ∈ z.take k ∨ j = z[k] := fun j => by rw [take_snoc z k hlt,List.mem_append,List.mem_singleton]
  rw [minTo_snoc hlt]
  unfold minStep
  split
  ·rename_i hc
   refine .inr ⟨z[k],(hm _).2 (.inr rfl),rfl,hc.1,hc.2.2,fun i hi h1 h2 => ?_⟩
   rcases (hm i).1 hi with hi | rfl
   ·rcases ih with ⟨-,ih⟩ | ⟨j,-,e1,h3,-,ih⟩
    ·have := ih i hi h1
     rw [h2] at this
     cases this
    ·have := ih i hi h1 h2
     omega
   ·exact Int.le_refl _
  ·rename_i hc
   rcases ih with ⟨e1,ih⟩ | ⟨j,hj,e1,h3,h4,ih⟩
   ·refine .inl ⟨e1,fun i hi h1 => ?_⟩
    rcases (hm i).1 hi with hi | rfl
    ·exact ih i hi h1
    ·cases hq : q (e z[k]) with
     | false => rfl
     | true => exact absurd ⟨h1,.inl (by omega),hq⟩ hc
   ·refine .inr ⟨j,(hm _).2 (.inl hj),e1,h3,h4,fun i hi h1 h2 => ?_⟩
    rcases (hm i).1 hi with hi | rfl
    ·exact ih i hi h1 h2
    ·apply Classical.byContradiction
     intro hn
     exact hc ⟨h1,.inr (by omega),h2⟩
def earlyR (l : List Task) (c p : Int) (r : List Int) (y : List Nat) (i : Nat) : Int :=
 if fitsR l c p r y i (firstN l r (rowAt l i)) = true then firstN l r (rowAt l i) else minTo (endN l r) (fitsR l c p r y i) (firstN l r (rowAt l i)) y
theorem firstN_congr {l : List Task} {s r row : List Int} (h : ∀ k ∈ row,atI s k.toNat = atI r k.toNat) : firstN l s row = firstN l r row := by
 unfold firstN
 suffices H : ∀ a,row.foldl (fun a k => max2 a (endN l s k.toNat)) a = row.foldl (fun a k => max2 a (endN l r k.toNat)) a from H 0
 induction row with
 | nil => intro a;rfl
 | cons k row ih =>
  intro a
  rw [List.foldl_cons,List.foldl_cons,show endN l s k.toNat = endN l r k.toNat by unfold endN;rw [h k (by simp)]]
  exact ih (fun j hj => h j (by simp [hj])) _
theorem rowAt_lt {l : List Task} (hR : RightT l) {i : Nat} (hi : i < l.length) {k : Int} (hk : k ∈ rowAt l i) : k.toNat < l.length := by
 have hrow : rowAt l i = pls l l[i].bef := getD_rows hi
 rw [hrow] at hk
 obtain ⟨j,hj,rfl⟩ := mem_row hR hi hk
 simpa using hj
theorem Tied.early {l : List Task} {c p : Int} {s r : List Int} {y : List Nat} {i : Nat} {t : Int} (hR : RightT l) (h : Tied l s r y) (hi : i < l.length) (hy : i ∉ y) (hrow : (rowAt l i).any (unB s) = false) (hp : PutT l c p s i t) : earlyR l c p r y i = t := by
 have hplaced : ∀ j,j < l.length → 0 ≤ atI s j → j ∈ y := fun j hj h0 => by
  apply Classical.byContradiction
  intro hn
  have := h.off j hj hn
  omega
 have hF : firstN l s (rowAt l i) = firstN l r (rowAt l i) := firstN_congr fun k hk => by
  have h1 := List.any_eq_false.1 hrow k hk
  unfold unB at h1
  simp only [decide_eq_true_eq] at h1
  exact (h.on _ (hplaced _ (rowAt_lt hR hi hk) (by omega))).1
 have hE : ∀ j ∈ y,endN l s j = endN l r j := fun j hj => by unfold endN;rw [(h.on j hj).1]
 have hlen : 1 ≤ lenAt l i := by rw [lenAt_eq hi];exact (fieldB_len (hR.field i hi)).1
 have hf0 : 0 ≤ firstN l s (rowAt l i) := by
  have := foldl_max_ge (fun k : Int => endN l s k.toNat) (rowAt l i) 0
  unfold firstN
  simp only [max2_max]
  exact this
 have hsorted : (timesN l s i).Pairwise (fun a b => a ≤ b) := by
  have := List.pairwise_mergeSort (le := fun x y : Int => decide (x ≤ y)) (fun a b c h1 h2 => by simp only [decide_eq_true_eq] at *;omega) (fun a b => by simp only [Bool.or_eq_true,decide_eq_true_eq];omega) (timesTo l s (firstN l s (rowAt l i)) l.length)
  exact this.imp (fun h => by simpa using h)
 obtain ⟨ht,hq,hleast⟩ := find_least hsorted hp
 have hT : ∀ x,x ∈ timesN l s i ↔ x ∈ timesTo l s (firstN l s (rowAt l i)) l.length := fun x => (List.mergeSort_perm _ _).mem_iff
 have hmem := timesTo_mem (l := l) (s := s) (f := firstN l s (rowAt l i)) l.length
 unfold earlyR
 rw [hF] at *
 generalize firstN l r (rowAt l i) = f at *
 have hcase := timesTo_inv _ ((hT t).1 ht)
 split
 ·rename_i hfit
  have h1 := hleast f ((hT f).2 hmem.1) (by rw [h.whole hi hy hf0 hlen];exact hfit)
  rcases hcase with rfl | ⟨j,_,_,h2,rfl⟩
  ·rfl
  ·omega
 ·rename_i hfit
  rcases hcase with rfl | ⟨j,hj,h0,h2,rfl⟩
  ·rw [h.whole hi hy hf0 hlen] at hq
   exact absurd hq hfit
  ·have hjy := hplaced j hj h0
   rw [hE j hjy] at h2 hq hleast ⊢
   rw [h.whole hi hy (by omega) hlen] at hq
   have hch := minTo_char (e := endN l r) (q := fitsR l c p r y i) hf0 (z := y) y.length (Nat.le_refl _)
   rw [List.take_length] at hch
   rcases hch with ⟨-,h3⟩ | ⟨k,hk,h3,h4,h5,h6⟩
   ·have := h3 j hjy h2
    rw [hq] at this
    cases this
   ·have h7 := h6 j hjy h2 hq
    have hks := (h.on k hk)
    have h8 := hleast (endN l r k) ((hT _).2 (by
     rw [← hE k hk]
     exact hmem.2 k (h.lt k hk) (by omega) (by rw [hE k hk];exact h4))) (by rw [h.whole hi hy (by omega) hlen];exact h5)
    omega
end Go.Proofs.YtfkikpbnigenhaaGreat

namespace Go.Proofs.YtfkikpbnigenhaaGreat
open Go.RowKit Go.Shelf
def listR (l : List Task) (c p : Int) (y : List Nat) : Nat → List Int
 | 0 => List.replicate l.length 0
 | k + 1 => (listR l c p y k).set (y.getD k 0) (earlyR l c p (listR l c p y k) (y.take k) (y.getD k 0))
def listAll (l : List Task) (c p : Int) (y : List Nat) : List Int := listR l c p y y.length
theorem listR_len {l : List Task} {c p : Int} {y : List Nat} : ∀ k,(listR l c p y k).length = l.length
 | 0 => by simp [listR]
 | k + 1 => by rw [listR,List.length_set];exact listR_len k
theorem listR_append {l : List Task} {c p : Int} {y : List Nat} {i : Nat} : ∀ k,k ≤ y.length → listR l c p (y ++ [i]) k = listR l c p y k
 | 0,_ => rfl
 | k + 1,hk => by
  rw [listR,listR,listR_append k (by omega),List.take_append_of_le_length (by omega)]
  rw [List.getD_eq_getElem?_getD,List.getD_eq_getElem?_getD,List.getElem?_append_left (by omega)]
theorem listAll_snoc {l : List Task} {c p : Int} {y : List Nat} {i : Nat} : listAll l c p (y ++ [i]) = (listAll l c p y).set i (earlyR l c p (listAll l c p y) y i) := by
 unfold listAll
 rw [List.length_append,List.length_singleton,listR,listR_append _ (Nat.le_refl _),List.take_append_of_le_length (Nat.le_refl _),List.take_length]
 simp
def readyB (l : List Task) (y : List Nat) (i : Nat) : Bool := (rowAt l i).all fun k => decide (k.toNat ∈ y)
def furStep (F : List Nat → Int → Int × List Int) (l : List Task) (y : List Nat) (a : Int × Int × List Int) (i : Nat) : Int × Int × List Int :=
 if decide (i ∈ y) || !readyB l y i then a else if 0 ≤ (F (y ++ [i]) a.2.1).1 then ((F (y ++ [i]) a.2.1).1,(F (y ++ [i]) a.2.1).1,(F (y ++ [i]) a.2.1).2) else a
def furTo (F : List Nat → Int → Int × List Int) (l : List Task) (y : List Nat) (known : Int) (k : Nat) : Int × Int × List Int := (List.range k).foldl (furStep F l y) (-1,known,[])
def furR (l : List Task) (c p : Int) : Nat → List Nat → Int → Int × List Int
 | 0,y,known => if known < 0 ∨ lenTo l (listAll l c p y) l.length < known then (lenTo l (listAll l c p y) l.length,listAll l c p y) else (-1,[])
 | m + 1,y,known => ((furTo (furR l c p m) l y known l.length).1,(furTo (furR l c p m) l y known l.length).2.2)
theorem furTo_succ {F : List Nat → Int → Int × List Int} {l : List Task} {y : List Nat} {known : Int} {k : Nat} : furTo F l y known (k + 1) = furStep F l y (furTo F l y known k) k := by
 unfold furTo
 rw [List.range_succ,List.foldl_append]
 rfl
theorem Tied.skip {l : List Task} {s r : List Int} {y : List Nat} (hR : RightT l) (h : Tied l s r y) {i : Nat} (hi : i < l.length) : skipB l s i = (decide (i ∈ y) || !readyB l y i) := by
 have hon : ∀ j,j < l.length → decide (0 ≤ atI s j) = decide (j ∈ y) := fun j hj => by
  by_cases hm : j ∈ y
  ·rw [decide_eq_true hm,(h.on j hm).1,decide_eq_true (h.on j hm).2]
  ·rw [decide_eq_false hm,h.off j hj hm]
   rfl
 unfold skipB readyB
 rw [hon i hi]
 congr 1
 rw [Bool.eq_iff_iff,Bool.not_eq_true',List.any_eq_true,List.all_eq_false]
 constructor
 ·rintro ⟨k,hk,hu⟩
  refine ⟨k,hk,?_⟩
  rw [← hon _ (rowAt_lt hR hi hk)]
  unfold unB at hu
  simp only [decide_eq_true_eq] at hu ⊢
  omega
 ·rintro ⟨k,hk,hu⟩
  refine ⟨k,hk,?_⟩
  rw [← hon _ (rowAt_lt hR hi hk)] at hu
  unfold unB
  simp only [decide_eq_true_eq] at hu ⊢
  omega
theorem lenPl_lenTo {l : List Task} {s r : List Int} : ∀ k,(∀ j,j < k → atI s j = atI r j ∧ 0 ≤ atI r j) → lenPl l s k = lenTo l r k
 | 0,_ => rfl
 | k + 1,h => by
  have ih := lenPl_lenTo (l := l) k (fun j hj => h j (by omega))
  obtain ⟨h1,h2⟩ := h k (by omega)
  rw [lenPl,lenTo,h1,if_pos h2,ih]
  have : endN l s k = endN l r k := by unfold endN;rw [h1]
  rw [this]
  rfl
theorem list_atI {s r : List Int} {n : Nat} (hs : s.length = n) (hr : r.length = n) (h : ∀ j,j < n → atI s j = atI r j) : s = r := by
 apply List.ext_getElem (by omega)
 intro j h1 h2
 have := h j (by omega)
 rwa [atI_get h1,atI_get h2] at this
theorem srch_fur {l : List Task} {c p : Int} (hR : RightT l) (hc : 0 ≤ c ∧ 0 ≤ p) (hfit : l.any (tooMuch c p) = false) : ∀ (m : Nat) (y : List Nat) (s : List Int) (b : Int × List Int),y.length + m = l.length → Tied l s (listAll l c p y) y →
  srch l c p m s b = if 0 ≤ (furR l c p m y b.1).1 then furR l c p m y b.1 else b
 | 0,y,s,b,hm,h => by
  have hall : ∀ j,j < l.length → atI s j = atI (listAll l c p y) j ∧ 0 ≤ atI (listAll l c p y) j := fun j hj => h.on j (h.all_on (by omega) hj)
  have e1 := lenPl_lenTo (l := l) l.length hall
  have e2 : s = listAll l c p y := list_atI h.len h.lenR fun j hj => (hall j hj).1
  have e3 : 0 ≤ lenTo l (listAll l c p y) l.length := by
   have : ∀ k,0 ≤ lenTo l (listAll l c p y) k := fun k => by
    induction k with
    | zero => exact Int.le_refl _
    | succ k ih => unfold lenTo;split <;> omega
   exact this _
  unfold srch furR
  rw [e1,← e2]
  rw [← e2] at e3
  by_cases hcc : b.1 < 0 ∨ lenTo l s l.length < b.1
  ·simp only [if_pos hcc,if_pos e3]
  ·simp only [if_neg hcc]
   rw [if_neg (by simp)]
 | m + 1,y,s,b,hm,h => by
  unfold srch furR
  suffices H : ∀ k,k ≤ l.length → srchTo l c p m s b k = (if 0 ≤ (furTo (furR l c p m) l y b.1 k).1 then ((furTo (furR l c p m) l y b.1 k).1,(furTo (furR l c p m) l y b.1 k).2.2) else b) ∧ (furTo (furR l c p m) l y b.1 k).2.1 = (srchTo l c p m s b k).1 from (H _ (Nat.le_refl _)).1
  intro k
  induction k with
  | zero => exact fun _ => ⟨rfl,rfl⟩
  | succ k ih =>
   intro hk
   obtain ⟨e1,e2⟩ := ih (by omega)
   rw [srchTo_succ,furTo_succ]
   unfold furStep
   rw [h.skip hR (by omega)]
   cases hsk : (decide (k ∈ y) || !readyB l y k) with
   | true =>
    rw [if_pos rfl,if_pos rfl]
    exact ⟨e1,e2⟩
   | false =>
    simp only [Bool.false_eq_true,if_false]
    have hsk' := h.skip hR (i := k) (by omega)
    rw [hsk] at hsk'
    obtain ⟨hn,hrow⟩ := skip_no hsk'
    have hky : k ∉ y := by simp at hsk;exact hsk.1
    have hput := put_exists (s := s) hR hc hfit h.len (show k < l.length by omega)
    have hearly := h.early hR (by omega) hky hrow hput
    have ht : 0 ≤ putN l c p s k := by
     have := List.mem_of_find?_eq_some hput
     have hm := timesTo_inv _ ((List.mergeSort_perm _ _).mem_iff.1 this)
     have hf0 : 0 ≤ firstN l s (rowAt l k) := by
      have := foldl_max_ge (fun k : Int => endN l s k.toNat) (rowAt l k) 0
      unfold firstN
      simp only [max2_max]
      exact this
     rcases hm with hm | ⟨j,_,_,h1,h2⟩ <;> omega
    have hT := h.snoc (i := k) (by omega) hky ht
    have hT' : Tied l (s.set k (putN l c p s k)) (listAll l c p (y ++ [k])) (y ++ [k]) := by
     rw [listAll_snoc,hearly]
     exact hT
    have hI := srch_fur hR hc hfit m (y ++ [k]) _ (srchTo l c p m s b k) (by rw [List.length_append,List.length_singleton];omega) hT'
    rw [hI,← e2]
    by_cases hcc : 0 ≤ (furR l c p m (y ++ [k]) (furTo (furR l c p m) l y b.1 k).2.1).1
    ·simp only [if_pos hcc]
     exact ⟨trivial,trivial⟩
    ·simp only [if_neg hcc]
     exact ⟨e1,e2⟩
theorem tied_nil {l : List Task} {c p : Int} : Tied l (List.replicate l.length (-1)) (listAll l c p []) [] :=
 ⟨by simp,listR_len _,by simp,by simp,by simp,fun i hi _ => by unfold atI;rw [List.getD_eq_getElem?_getD,List.getElem?_replicate,if_pos hi];rfl⟩
theorem furR_neg {l : List Task} {c p : Int} : ∀ (m : Nat) (y : List Nat) (known : Int),¬ 0 ≤ (furR l c p m y known).1 → furR l c p m y known = (-1,[])
 | 0,y,known,h => by
  unfold furR at h ⊢
  split
  ·rename_i hc
   rw [if_pos hc] at h
   have : ∀ k,0 ≤ lenTo l (listAll l c p y) k := fun k => by
    induction k with
    | zero => exact Int.le_refl _
    | succ k ih => unfold lenTo;split <;> omega
   exact absurd (this _) h
  ·rfl
 | m + 1,y,known,h => by
  unfold furR at h ⊢
  suffices H : ∀ k,0 ≤ (furTo (furR l c p m) l y known k).1 ∨ ((furTo (furR l c p m) l y known k).1 = -1 ∧ (furTo (furR l c p m) l y known k).2.2 = []) by
   rcases H l.length with h1 | ⟨h1,h2⟩
   ·exact absurd h1 h
   ·rw [h1,h2]
  intro k
  induction k with
  | zero => exact .inr ⟨rfl,rfl⟩
  | succ k ih =>
   rw [furTo_succ]
   unfold furStep
   split
   ·exact ih
   ·split
    ·rename_i h1
     exact .inl h1
    ·exact ih
theorem least_fur {l : List Task} {c p : Int} (hR : RightT l) (hc : 0 ≤ c ∧ 0 ≤ p) (hfit : l.any (tooMuch c p) = false) : leastN l c p = furR l c p l.length [] (-1) := by
 unfold leastN
 rw [srch_fur hR hc hfit l.length [] _ _ (by simp) tied_nil]
 split
 ·rfl
 ·rename_i h
  exact (furR_neg _ _ _ h).symm
end Go.Proofs.YtfkikpbnigenhaaGreat

namespace Go.Proofs.YtfkikpbnigenhaaGreat
open Go.RowKit Go.Shelf
structure RefSt (w : World) (B : Nat) (v u z : Value) (l : List Task) (r : List Int) (y : List Nat) : Prop where
 tasks : TasksAt w B v l
 starts : IntsAt w B u r
 list : IntsAt w B z (ints y)
 len : r.length = l.length
 bd : ∀ x ∈ r,0 ≤ x ∧ x ≤ 90000
 lt : ∀ i ∈ y,i < l.length
 y8 : y.length ≤ 8
theorem RefSt.below {w w' : World} {B : Nat} {v u z : Value} {l : List Task} {r : List Int} {y : List Nat} (h : RefSt w B v u z l r y) (hb : Below B w w') : RefSt w' B v u z l r y :=
 ⟨h.tasks.below hb (Nat.le_refl _),h.starts.below hb (Nat.le_refl _),h.list.below hb (Nat.le_refl _),h.len,h.bd,h.lt,h.y8⟩
theorem RefSt.mono {w : World} {B B' : Nat} {v u z : Value} {l : List Task} {r : List Int} {y : List Nat} (h : RefSt w B v u z l r y) (hB : B ≤ B') : RefSt w B' v u z l r y :=
 ⟨h.tasks.mono hB,h.starts.mono hB,h.list.mono hB,h.len,h.bd,h.lt,h.y8⟩
theorem RefSt.at_ {w : World} {B : Nat} {v u z : Value} {l : List Task} {r : List Int} {y : List Nat} (h : RefSt w B v u z l r y) {i : Nat} (hi : i < l.length) : 0 ≤ atI r i ∧ atI r i ≤ 90000 := by
 have hl := h.len
 rw [atI_get (by omega)]
 exact h.bd _ (List.getElem_mem _)
theorem RefSt.endBd {w : World} {B : Nat} {v u z : Value} {l : List Task} {r : List Int} {y : List Nat} (h : RefSt w B v u z l r y) (hR : RightT l) {i : Nat} (hi : i < l.length) : 0 ≤ endN l r i ∧ endN l r i ≤ 100000 := by
 have h1 := h.at_ hi
 have h2 := fieldB_len (hR.field i hi)
 unfold endN
 rw [lenAt_eq hi]
 omega
theorem RefSt.cellS {w : World} {B : Nat} {v u z : Value} {l : List Task} {r : List Int} {y : List Nat} (h : RefSt w B v u z l r y) {i : Nat} (hi : i < l.length) :
  ∃ b off cap,u = .slice (some ⟨b,off,none⟩) l.length cap ∧ b < B ∧ l.length ≤ cap ∧ cap ≤ 9223372036854775807 ∧ w.cell? ⟨b,off + i,none⟩ = some (.int .i64 (atI r i)) := by
 have hl := h.len
 obtain ⟨A,cap,rfl,h1,h2,h3⟩ := h.starts.open_
 unfold maxLen at h2
 obtain ⟨b,off,rfl,hb,hc⟩ := h3 i (by omega)
 exact ⟨b,off,cap,by rw [hl],hb,by omega,h2,by rw [atI_get (by omega)];exact hc i (by omega)⟩
end Go.Proofs.YtfkikpbnigenhaaGreat

namespace Go.Proofs.YtfkikpbnigenhaaGreat
open Go.RowKit Go.Shelf
structure Placed (l : List Task) (y : List Nat) : Prop where
 nodup : y.Nodup
 lt : ∀ i ∈ y,i < l.length
 ready : ∀ k (hk : k < y.length),readyB l (y.take k) y[k] = true
theorem Placed.nil (l : List Task) : Placed l [] := ⟨by simp,by simp,fun k hk => absurd hk (by simp)⟩
theorem Placed.snoc {l : List Task} {y : List Nat} {i : Nat} (h : Placed l y) (hi : i < l.length) (hy : i ∉ y) (hr : readyB l y i = true) : Placed l (y ++ [i]) := by
 refine ⟨nodup_snocN' h.nodup hy,fun j hj => ?_,fun k hk => ?_⟩
 ·rcases List.mem_append.1 hj with hj | hj
  ·exact h.lt j hj
  ·rw [List.mem_singleton.1 hj];exact hi
 ·rw [List.length_append,List.length_singleton] at hk
  by_cases e : k < y.length
  ·rw [List.take_append_of_le_length (by omega),List.getElem_append_left e]
   exact h.ready k e
  ·have : k = y.length := by omega
   subst this
   rw [List.take_append_of_le_length (Nat.le_refl _),List.take_length]
   simpa using hr
theorem Placed.front {l : List Task} {y z : List Nat} (h : Placed l (y ++ z)) : Placed l y := by
 refine ⟨(List.nodup_append.1 h.nodup).1,fun j hj => h.lt j (List.mem_append_left _ hj),fun k hk => ?_⟩
 have := h.ready k (by rw [List.length_append];omega)
 rwa [List.take_append_of_le_length (by omega),List.getElem_append_left hk] at this
theorem Placed.take {l : List Task} {y : List Nat} (h : Placed l y) (k : Nat) : Placed l (y.take k) := by
 rw [← List.take_append_drop k y] at h
 exact h.front
theorem Placed.short {l : List Task} {y : List Nat} (h : Placed l y) : y.length ≤ l.length := by
 have := List.Nodup.length_le_of_subset h.nodup (l₂ := List.range l.length) (fun j hj => List.mem_range.2 (h.lt j hj))
 simpa using this
theorem Placed.tied {l : List Task} {c p : Int} (hR : RightT l) (hc : 0 ≤ c ∧ 0 ≤ p) (hfit : l.any (tooMuch c p) = false) : ∀ (n : Nat) {y : List Nat},y.length = n → Placed l y →
  ∃ s,Tied l s (listAll l c p y) y ∧ (∀ x ∈ s,-1 ≤ x ∧ x ≤ 10000 * (n : Int)) ∧ ∀ x ∈ listAll l c p y,0 ≤ x ∧ x ≤ 10000 * (n : Int)
 | 0,y,hy,_ => by
  have : y = [] := List.length_eq_zero_iff.1 hy
  subst this
  exact ⟨_,tied_nil,fun x hx => by rw [(List.mem_replicate.1 hx).2];omega,fun x hx => by
   have : x ∈ List.replicate l.length (0 : Int) := hx
   rw [(List.mem_replicate.1 this).2];omega⟩
 | n + 1,y,hy,h => by
  obtain ⟨z,i,rfl,hz⟩ := snoc_cases hy
  obtain ⟨s,hT,hsb,hb⟩ := Placed.tied hR hc hfit n hz h.front
  obtain ⟨hn,hiz⟩ := nodup_snocN h.nodup
  have hi := h.lt i (by simp)
  have hr := h.ready z.length (by simp)
  rw [List.take_append_of_le_length (Nat.le_refl _),List.take_length] at hr
  have hr' : readyB l z i = true := by simpa using hr
  have hsk := hT.skip hR hi
  rw [hr',decide_eq_false hiz] at hsk
  obtain ⟨hun,hrow⟩ := skip_no hsk
  have hput := put_exists (s := s) hR hc hfit hT.len hi
  have he := hT.early hR hi hiz hrow hput
  have hbd := putN_bd (count := n) hR hT.len hi (fun x hx => (hsb x hx).2) hput
  refine ⟨s.set i (putN l c p s i),by rw [listAll_snoc,he];exact hT.snoc hi hiz hbd.1,fun x hx => ?_,fun x hx => ?_⟩
  ·rcases List.mem_or_eq_of_mem_set hx with hx | rfl
   ·have := hsb x hx;omega
   ·omega
  ·rw [listAll_snoc,he] at hx
   rcases List.mem_or_eq_of_mem_set hx with hx | rfl
   ·have := hb x hx;omega
   ·omega
theorem RowAt.take {α : Type} {enc : α → Value} {w : World} {B n c : Nat} {A : Option Addr} {l : List α} (h : RowAt enc w B (.slice A n c) l) (k : Nat) (hk : k ≤ l.length) : RowAt enc w B (.slice A k c) (l.take k) := by
 obtain ⟨A',c',e,h2,h3,h4⟩ := h
 injection e with e1 e2 e3
 subst e1 e3
 have hl : (l.take k).length = k := by rw [List.length_take];omega
 refine ⟨A,c,by rw [hl],by omega,h3,fun hn => ?_⟩
 obtain ⟨b,off,e,hlt,hc⟩ := h4 (by omega)
 refine ⟨b,off,e,hlt,fun j u hu => hc j u ?_⟩
 rw [List.getElem?_map,Option.map_eq_some_iff] at hu
 obtain ⟨a,ha,rfl⟩ := hu
 rw [List.getElem?_map,Option.map_eq_some_iff]
 refine ⟨a,?_,rfl⟩
 rw [List.getElem?_take] at ha
 split at ha
 ·exact ha
 ·cases ha
end Go.Proofs.YtfkikpbnigenhaaGreat
