/- Parts of the proof, laid into one text: Words, BitsW, Words2, DivW, GcdW, Words3, Held, QTail, GrowR, BeamP, BeamFit. -/
import Derived.BigQuiet
import Derived.Deep.AppendLies
import Derived.Deep.Draws
import Derived.Deep.LoopGhost
import Derived.Deep.QuietTactic
import Derived.Laws.Bits64b
import Derived.Lib.Hide
import Derived.Maps.AppendAt
import Derived.Shelf.Abstract
import Derived.StillTail
import Derived.StillTailTactics
import Derived.Test.YtknkhnahflmjiaaGreatDoorB1
import Derived.Test.YtknkhnahflmjiaaGreatDoorProg
import Derived.WalkKit
import Derived.WalkLawsBesides
import Derived.WalkSpells

namespace Go.Proofs.YtknkhnahflmjiaaGreatDoor
def wsum (f : Nat → Nat) : Nat → Nat
 | 0 => 0
 | k + 1 => wsum f k + 4294967296 ^ k * f k
def wAt (L : List Nat) (i : Nat) : Nat := L.getD i 0
def wv (L : List Nat) : Nat := wsum (wAt L) L.length
def Wok (L : List Nat) : Prop := ∀ x ∈ L,x < 4294967296
def Trim (L : List Nat) : Prop := L ≠ [] → wAt L (L.length - 1) ≠ 0
theorem pow_pos' (k : Nat) : 0 < 4294967296 ^ k := Nat.pow_pos (by decide)
theorem wAt_get {L : List Nat} {i : Nat} (h : i < L.length) : wAt L i = L[i] := by unfold wAt;rw [List.getD_eq_getElem?_getD,List.getElem?_eq_getElem h];rfl
theorem wAt_none {L : List Nat} {i : Nat} (h : L.length ≤ i) : wAt L i = 0 := by unfold wAt;rw [List.getD_eq_getElem?_getD,List.getElem?_eq_none h];rfl
theorem wAt_lt {L : List Nat} (h : Wok L) (i : Nat) : wAt L i < 4294967296 := by
 by_cases hi : i < L.length
 ·rw [wAt_get hi];exact h _ (List.getElem_mem hi)
 ·rw [wAt_none (by omega)];decide
theorem wsum_congr {f g : Nat → Nat} : ∀ {k : Nat},(∀ i,i < k → f i = g i) → wsum f k = wsum g k
 | 0,_ => rfl
 | k + 1,h => by
  show wsum f k + _ = wsum g k + _
  rw [wsum_congr (k := k) fun i hi => h i (by omega),h k (by omega)]
theorem wsum_lt {f : Nat → Nat} (h : ∀ i,f i < 4294967296) : ∀ k,wsum f k < 4294967296 ^ k
 | 0 => Nat.one_pos
 | k + 1 => by
  have ih := wsum_lt h k
  have hk := h k
  have h1 : 4294967296 ^ k * f k ≤ 4294967296 ^ k * 4294967295 := Nat.mul_le_mul_left _ (by omega)
  show wsum f k + 4294967296 ^ k * f k < 4294967296 ^ (k + 1)
  rw [Nat.pow_succ]
  omega
theorem wsum_zero {f : Nat → Nat} {k : Nat} (h : ∀ i,k ≤ i → f i = 0) : ∀ m,k ≤ m → wsum f m = wsum f k
 | 0,hm => by rw [show k = 0 by omega]
 | m + 1,hm => by
  by_cases e : k = m + 1
  ·rw [e]
  ·show wsum f m + 4294967296 ^ m * f m = _
   rw [h m (by omega),wsum_zero h m (by omega),Nat.mul_zero,Nat.add_zero]
theorem wv_upto (L : List Nat) {m : Nat} (h : L.length ≤ m) : wsum (wAt L) m = wv L := wsum_zero (fun _ hi => wAt_none hi) m h
theorem wv_lt {L : List Nat} (h : Wok L) : wv L < 4294967296 ^ L.length := wsum_lt (wAt_lt h) _
theorem wv_take (L : List Nat) (k : Nat) (hk : k ≤ L.length) : wv (L.take k) = wsum (wAt L) k := by
 unfold wv
 rw [List.length_take,Nat.min_eq_left hk]
 refine wsum_congr fun i hi => ?_
 rw [wAt_get (by simp;omega),wAt_get (by omega)]
 simp
theorem Wok.take {L : List Nat} (h : Wok L) (k : Nat) : Wok (L.take k) := fun x hx => h x (List.mem_of_mem_take hx)
theorem wv_drop0 {L : List Nat} {k : Nat} (hk : k < L.length) (h : wAt L k = 0) : wv (L.take (k + 1)) = wv (L.take k) := by
 rw [wv_take L (k + 1) (by omega),wv_take L k (by omega)]
 show wsum _ k + 4294967296 ^ k * wAt L k = _
 rw [h,Nat.mul_zero,Nat.add_zero]
theorem wv_ge {L : List Nat} (ht : Trim L) (h : L ≠ []) : 4294967296 ^ (L.length - 1) ≤ wv L := by
 have h1 := ht h
 have hl : L.length ≠ 0 := fun e => h (List.length_eq_zero_iff.1 e)
 have e : wv L = wsum (wAt L) (L.length - 1) + 4294967296 ^ (L.length - 1) * wAt L (L.length - 1) := by
  unfold wv
  conv => lhs;rw [show L.length = L.length - 1 + 1 by omega]
  rfl
 have h2 : 4294967296 ^ (L.length - 1) * 1 ≤ 4294967296 ^ (L.length - 1) * wAt L (L.length - 1) := Nat.mul_le_mul_left _ (by omega)
 omega
theorem wv_zero {L : List Nat} (ht : Trim L) : wv L = 0 ↔ L = [] := by
 refine ⟨fun h => ?_,fun h => by rw [h];rfl⟩
 by_cases e : L = []
 ·exact e
 ·have := wv_ge ht e
  have := pow_pos' (L.length - 1)
  omega
theorem wv_len {L M : List Nat} (hL : Wok L) (hM : Trim M) (h : L.length < M.length) : wv L < wv M := by
 have h1 := wv_lt hL
 have hne : M ≠ [] := fun e => by rw [e] at h;simp at h
 have h2 := wv_ge hM hne
 have h3 : 4294967296 ^ L.length ≤ 4294967296 ^ (M.length - 1) := Nat.pow_le_pow_right (by decide) (by omega)
 omega
theorem wv_short {L : List Nat} (ht : Trim L) {k : Nat} (h : wv L < 4294967296 ^ k) : L.length ≤ k := by
 by_cases e : L = []
 ·rw [e];simp
 ·have h1 := wv_ge ht e
  have hl : L.length ≠ 0 := fun e' => e (List.length_eq_zero_iff.1 e')
  by_cases hk : L.length ≤ k
  ·exact hk
  ·have h3 : 4294967296 ^ k ≤ 4294967296 ^ (L.length - 1) := Nat.pow_le_pow_right (by decide) (by omega)
   omega
theorem wsum_cmp {f g : Nat → Nat} (hf : ∀ i,f i < 4294967296) {i : Nat} : ∀ n,i < n → (∀ j,i < j → j < n → f j = g j) → f i < g i → wsum f n < wsum g n
 | 0,h,_,_ => by omega
 | n + 1,h,he,hlt => by
  show wsum f n + 4294967296 ^ n * f n < wsum g n + 4294967296 ^ n * g n
  by_cases e : i = n
  ·subst e
   have h1 := wsum_lt hf i
   have h2 : 4294967296 ^ i * (f i + 1) ≤ 4294967296 ^ i * g i := Nat.mul_le_mul_left _ (by omega)
   rw [Nat.mul_add] at h2
   omega
  ·have ih := wsum_cmp hf n (by omega) (fun j h1 h2 => he j h1 (by omega)) hlt
   rw [he n (by omega) (by omega)]
   omega
theorem wAt_set {L : List Nat} {i j x : Nat} (hi : i < L.length) : wAt (L.set i x) j = if j = i then x else wAt L j := by
 unfold wAt
 rw [List.getD_eq_getElem?_getD,List.getD_eq_getElem?_getD,List.getElem?_set]
 by_cases e : i = j
 ·subst e;simp [hi]
 ·rw [if_neg e,if_neg (fun h => e h.symm)]
theorem wsum_set_ge {L : List Nat} {i x : Nat} (hi : i < L.length) : ∀ k,k ≤ i → wsum (wAt (L.set i x)) k = wsum (wAt L) k := fun k hk =>
 wsum_congr fun j hj => by rw [wAt_set hi,if_neg (by omega)]
theorem wsum_set_lt {L : List Nat} {i x : Nat} (hi : i < L.length) : ∀ k,i < k → wsum (wAt (L.set i x)) k + 4294967296 ^ i * wAt L i = wsum (wAt L) k + 4294967296 ^ i * x
 | 0,h => by omega
 | k + 1,h => by
  show wsum (wAt (L.set i x)) k + 4294967296 ^ k * wAt (L.set i x) k + _ = wsum (wAt L) k + 4294967296 ^ k * wAt L k + _
  by_cases e : i = k
  ·subst e
   rw [wsum_set_ge hi i (Nat.le_refl _),wAt_set hi,if_pos rfl]
   omega
  ·have ih := wsum_set_lt (x := x) hi k (by omega)
   rw [wAt_set hi,if_neg (by omega)]
   omega
theorem Wok.set {L : List Nat} (h : Wok L) (i : Nat) {x : Nat} (hx : x < 4294967296) : Wok (L.set i x) := fun y hy => by
 rcases List.mem_or_eq_of_mem_set hy with h1 | h1
 ·exact h y h1
 ·omega
theorem Wok.zeros (n : Nat) : Wok (List.replicate n 0) := fun x hx => by rw [List.eq_of_mem_replicate hx];decide
theorem wAt_zeros (n i : Nat) : wAt (List.replicate n 0) i = 0 := by
 by_cases h : i < n
 ·rw [wAt_get (by simpa using h)];simp
 ·exact wAt_none (by simpa using h)
theorem wsum_zeros (n : Nat) : ∀ k,wsum (wAt (List.replicate n 0)) k = 0
 | 0 => rfl
 | k + 1 => by
  show wsum _ k + 4294967296 ^ k * wAt _ k = 0
  rw [wAt_zeros,wsum_zeros n k,Nat.mul_zero]
theorem add_step {P s x y c : Nat} {P' : Nat} (hP : P' = P * 4294967296) (h : s + P * c = x + y) (a b : Nat) : s + P * ((a + b + c) % 4294967296) + P' * ((a + b + c) / 4294967296) = x + P * a + (y + P * b) := by
 have e := Nat.div_add_mod (a + b + c) 4294967296
 have h1 : P * ((a + b + c) % 4294967296) + P' * ((a + b + c) / 4294967296) = P * (a + b + c) := by
  rw [hP,Nat.mul_assoc,← Nat.mul_add]
  congr 1
  omega
 have h2 : P * (a + b + c) = P * a + P * b + P * c := by rw [Nat.mul_add,Nat.mul_add]
 omega
theorem sub_step {P s x y c P' a b d c' : Nat} (hP : P' = P * 4294967296) (h : s + y = x + P * c) (hd : a + c' * 4294967296 = d + b + c) : s + P * d + (y + P * b) = x + P * a + P' * c' := by
 have h1 : P * a + P' * c' = P * d + P * b + P * c := by
  rw [hP,Nat.mul_assoc,← Nat.mul_add,Nat.mul_comm 4294967296 c',hd,Nat.mul_add,Nat.mul_add]
 omega
theorem mul_carry {x y o c : Nat} (hx : x < 4294967296) (hy : y < 4294967296) (ho : o < 4294967296) (hc : c < 4294967296) : x * y + o + c < 18446744073709551616 ∧ (x * y + o + c) / 4294967296 < 4294967296 := by
 have h1 : x * y ≤ 4294967295 * 4294967295 := Nat.mul_le_mul (by omega) (by omega)
 omega
theorem half_step {P s x a b z P' : Nat} (hP : P' = P * 4294967296) (h : 2 * s + z = x + P * (a % 2)) : 2 * (s + P * (a / 2 + 2147483648 * (b % 2))) + z = x + P * a + P' * (b % 2) := by
 have e := Nat.div_add_mod a 2
 have h1 : P * a = P * (2 * (a / 2)) + P * (a % 2) := by rw [← Nat.mul_add,e]
 have h2 : P' * (b % 2) = P * (4294967296 * (b % 2)) := by rw [hP,Nat.mul_assoc]
 have h3 : 2 * (P * (a / 2 + 2147483648 * (b % 2))) = P * (2 * (a / 2)) + P * (4294967296 * (b % 2)) := by
  rw [← Nat.mul_add,Nat.mul_left_comm]
  congr 1
  omega
 rw [Nat.mul_add,h3,h2,h1]
 omega
theorem add_set {X Y : Nat → Nat} {O : List Nat} {k cy z : Nat} (hk : k < O.length) (h : wsum (wAt O) k + 4294967296 ^ k * cy = wsum X k + wsum Y k) (hz : z = X k + Y k + cy) :
  wsum (wAt (O.set k (z % 4294967296))) (k + 1) + 4294967296 ^ (k + 1) * (z / 4294967296) = wsum X (k + 1) + wsum Y (k + 1) := by
 have e : wsum (wAt (O.set k (z % 4294967296))) (k + 1) = wsum (wAt O) k + 4294967296 ^ k * (z % 4294967296) := by
  show wsum _ k + 4294967296 ^ k * wAt _ k = _
  rw [wsum_set_ge hk k (Nat.le_refl _),wAt_set hk,if_pos rfl]
 rw [e,hz]
 exact add_step (Nat.pow_succ _ _) h (X k) (Y k)
theorem add_end {X Y O : List Nat} {cy : Nat} (hX : Wok X) (hY : Wok Y) (hO : O.length = X.length + 1) (hxy : Y.length ≤ X.length)
  (h : wsum (wAt O) (X.length + 1) + 4294967296 ^ (X.length + 1) * cy = wsum (wAt X) (X.length + 1) + wsum (wAt Y) (X.length + 1)) : wv O = wv X + wv Y := by
 have h2 := wsum_lt (wAt_lt hX) X.length
 have h3 := wsum_lt (wAt_lt hY) X.length
 have h4 : wsum (wAt X) (X.length + 1) = wsum (wAt X) X.length := wsum_zero (fun i hi => wAt_none hi) _ (by omega)
 have h5 : wsum (wAt Y) (X.length + 1) = wsum (wAt Y) X.length := by rw [wv_upto Y (by omega),wv_upto Y hxy]
 have h6 : wv Y = wsum (wAt Y) X.length := (wv_upto Y hxy).symm
 have h7 : wv O = wsum (wAt O) (X.length + 1) := by unfold wv;rw [hO]
 have h9 : wv X = wsum (wAt X) X.length := rfl
 rw [h7,h6,h9]
 rw [h4,h5,Nat.pow_succ,Nat.mul_assoc] at h
 clear h4 h5 h6 h7 h9 hX hY hO
 generalize 4294967296 ^ X.length = P at *
 generalize wsum (wAt X) X.length = x at *
 generalize wsum (wAt Y) X.length = y at *
 generalize wsum (wAt O) (X.length + 1) = o at *
 rcases Nat.lt_or_ge cy 1 with hc | hc
 ·obtain rfl : cy = 0 := by omega
  simpa using h
 ·have h10 : P * 2 ≤ P * (4294967296 * cy) := Nat.mul_le_mul_left _ (by omega)
  omega
theorem sub_set {X Y : Nat → Nat} {O : List Nat} {k cy d c' : Nat} (hk : k < O.length) (h : wsum (wAt O) k + wsum Y k = wsum X k + 4294967296 ^ k * cy) (hd : X k + c' * 4294967296 = d + Y k + cy) :
  wsum (wAt (O.set k d)) (k + 1) + wsum Y (k + 1) = wsum X (k + 1) + 4294967296 ^ (k + 1) * c' := by
 have e : wsum (wAt (O.set k d)) (k + 1) = wsum (wAt O) k + 4294967296 ^ k * d := by
  show wsum _ k + 4294967296 ^ k * wAt _ k = _
  rw [wsum_set_ge hk k (Nat.le_refl _),wAt_set hk,if_pos rfl]
 rw [e]
 exact sub_step (Nat.pow_succ _ _) h hd
theorem sub_end {X Y O : List Nat} {cy : Nat} (hO : Wok O) (hl : O.length = X.length) (hxy : Y.length ≤ X.length) (hle : wv Y ≤ wv X)
  (h : wsum (wAt O) X.length + wsum (wAt Y) X.length = wsum (wAt X) X.length + 4294967296 ^ X.length * cy) : wv O = wv X - wv Y := by
 have h2 := wsum_lt (wAt_lt hO) X.length
 have h6 : wsum (wAt Y) X.length = wv Y := wv_upto Y hxy
 have h7 : wsum (wAt O) X.length = wv O := by unfold wv;rw [hl]
 have h9 : wsum (wAt X) X.length = wv X := rfl
 rw [h6,h7,h9] at h
 rw [h7] at h2
 clear h6 h7 h9 hO hl hxy
 generalize 4294967296 ^ X.length = P at *
 generalize wv X = x at *
 generalize wv Y = y at *
 generalize wv O = o at *
 rcases Nat.lt_or_ge cy 1 with hc | hc
 ·obtain rfl : cy = 0 := by omega
  rw [Nat.mul_zero] at h
  omega
 ·have h10 : P * 1 ≤ P * cy := Nat.mul_le_mul_left _ hc
  omega
def trimTo (L : List Nat) : Nat → Nat
 | 0 => 0
 | k + 1 => if wAt L k = 0 then trimTo L k else k + 1
def trimLen (L : List Nat) : Nat := trimTo L L.length
theorem trimTo_facts (L : List Nat) : ∀ k,k ≤ L.length → trimTo L k ≤ k ∧ Trim (L.take (trimTo L k)) ∧ wv (L.take (trimTo L k)) = wv (L.take k)
 | 0,_ => ⟨Nat.le_refl _,by simp [trimTo,Trim],rfl⟩
 | k + 1,hk => by
  obtain ⟨h1,h2,h3⟩ := trimTo_facts L k (by omega)
  by_cases e : wAt L k = 0
  ·rw [trimTo,if_pos e]
   exact ⟨by omega,h2,h3.trans (wv_drop0 (by omega) e).symm⟩
  ·rw [trimTo,if_neg e]
   refine ⟨Nat.le_refl _,fun _ => ?_,rfl⟩
   have hl : (L.take (k + 1)).length = k + 1 := by rw [List.length_take];omega
   rw [hl,Nat.add_sub_cancel,wAt_get (by omega),List.getElem_take]
   rwa [wAt_get (by omega)] at e
theorem trim_facts (L : List Nat) : trimLen L ≤ L.length ∧ Trim (L.take (trimLen L)) ∧ wv (L.take (trimLen L)) = wv L := by
 have h := trimTo_facts L L.length (Nat.le_refl _)
 rwa [List.take_length] at h
theorem half_set {X : Nat → Nat} {O : List Nat} {k z : Nat} (hk : k < O.length) (h : 2 * wsum (wAt O) k + z = wsum X k + 4294967296 ^ k * (X k % 2)) :
  2 * wsum (wAt (O.set k (X k / 2 + 2147483648 * (X (k + 1) % 2)))) (k + 1) + z = wsum X (k + 1) + 4294967296 ^ (k + 1) * (X (k + 1) % 2) := by
 have e : wsum (wAt (O.set k (X k / 2 + 2147483648 * (X (k + 1) % 2)))) (k + 1) = wsum (wAt O) k + 4294967296 ^ k * (X k / 2 + 2147483648 * (X (k + 1) % 2)) := by
  show wsum _ k + 4294967296 ^ k * wAt _ k = _
  rw [wsum_set_ge hk k (Nat.le_refl _),wAt_set hk,if_pos rfl]
 rw [e]
 exact half_step (Nat.pow_succ _ _) h
theorem half_end {X O : List Nat} (hl : O.length = X.length) (h : 2 * wsum (wAt O) X.length + wAt X 0 % 2 = wsum (wAt X) X.length + 4294967296 ^ X.length * (wAt X X.length % 2)) : wv O = wv X / 2 := by
 have h1 : wAt X X.length = 0 := wAt_none (Nat.le_refl _)
 have h2 : wv O = wsum (wAt O) X.length := by unfold wv;rw [hl]
 have h3 : wv X = wsum (wAt X) X.length := rfl
 rw [h1,Nat.zero_mod,Nat.mul_zero,← h2,← h3] at h
 omega
end Go.Proofs.YtknkhnahflmjiaaGreatDoor

namespace Go.Proofs.YtknkhnahflmjiaaGreatDoor
def dig (Q j : Nat) : Nat := Q / 4294967296 ^ j % 4294967296
theorem dig_sum (Q : Nat) : ∀ n,wsum (dig Q) n = Q % 4294967296 ^ n
 | 0 => by show 0 = Q % 1;omega
 | n + 1 => by
  show wsum (dig Q) n + 4294967296 ^ n * dig Q n = _
  rw [dig_sum Q n,Nat.pow_succ,Nat.mod_mul]
  rfl
theorem dig_zero (j : Nat) : dig 0 j = 0 := by unfold dig;rw [Nat.zero_div]
theorem base_pow (j : Nat) : 4294967296 ^ j = 2 ^ (32 * j) := by rw [Nat.pow_mul]
theorem dig_bit {m i j0 t : Nat} (hi : i = 32 * j0 + t) (ht : t < 32) (j : Nat) : dig (2 ^ (i + 1) * m + 2 ^ i) j = if j = j0 then dig (2 ^ (i + 1) * m) j + 2 ^ t else dig (2 ^ (i + 1) * m) j := by
 unfold dig
 rw [base_pow]
 by_cases e : j = j0
 ·subst e
  rw [if_pos rfl]
  have e1 : 2 ^ (i + 1) * m = 2 ^ (32 * j) * (2 ^ (t + 1) * m) := by rw [← Nat.mul_assoc,← Nat.pow_add];congr 2;omega
  have e2 : (2 : Nat) ^ i = 2 ^ (32 * j) * 2 ^ t := by rw [← Nat.pow_add];congr 1
  rw [e1,e2,← Nat.mul_add,Nat.mul_div_cancel_left _ (Nat.two_pow_pos _),Nat.mul_div_cancel_left _ (Nat.two_pow_pos _)]
  have e3 : (4294967296 : Nat) = 2 ^ (t + 1) * 2 ^ (31 - t) := by rw [← Nat.pow_add,show t + 1 + (31 - t) = 32 by omega]
  have e4 : 2 ^ (t + 1) * m % 4294967296 = 2 ^ (t + 1) * (m % 2 ^ (31 - t)) := by rw [e3,Nat.mul_mod_mul_left]
  have e5 : 2 ^ (t + 1) * (m % 2 ^ (31 - t)) + 2 ^ (t + 1) ≤ 4294967296 := by
   have : m % 2 ^ (31 - t) + 1 ≤ 2 ^ (31 - t) := Nat.mod_lt _ (Nat.two_pow_pos _)
   calc 2 ^ (t + 1) * (m % 2 ^ (31 - t)) + 2 ^ (t + 1) = 2 ^ (t + 1) * (m % 2 ^ (31 - t) + 1) := by rw [Nat.mul_add,Nat.mul_one]
    _ ≤ 2 ^ (t + 1) * 2 ^ (31 - t) := Nat.mul_le_mul_left _ this
    _ = 4294967296 := e3.symm
  have e6 : (2 : Nat) ^ (t + 1) = 2 ^ t + 2 ^ t := by rw [Nat.pow_succ];omega
  have e7 := Nat.two_pow_pos t
  rw [← Nat.mod_add_mod,e4,Nat.mod_eq_of_lt (by omega)]
 ·rw [if_neg e]
  by_cases hlt : j < j0
  ·have e2 : (2 : Nat) ^ i = 2 ^ (32 * j) * 2 ^ (i - 32 * j) := by rw [← Nat.pow_add];congr 1;omega
   have e3 : (2 : Nat) ^ (i - 32 * j) = 4294967296 * 2 ^ (i - 32 * j - 32) := by rw [show (4294967296 : Nat) = 2 ^ 32 from rfl,← Nat.pow_add];congr 1;omega
   rw [e2,Nat.add_mul_div_left _ _ (Nat.two_pow_pos _),e3,Nat.add_mul_mod_self_left]
  ·have e2 : (2 : Nat) ^ (32 * j) = 2 ^ (i + 1) * 2 ^ (32 * j - i - 1) := by rw [← Nat.pow_add];congr 1;omega
   have e3 : (2 : Nat) ^ i < 2 ^ (i + 1) := Nat.pow_lt_pow_right (by decide) (by omega)
   rw [e2,← Nat.div_div_eq_div_mul,← Nat.div_div_eq_div_mul,Nat.mul_add_div (Nat.two_pow_pos _),Nat.div_eq_of_lt e3,Nat.add_zero,Nat.mul_div_cancel_left _ (Nat.two_pow_pos _)]
theorem dig_low {m i j0 t : Nat} (hi : i = 32 * j0 + t) (ht : t < 32) : dig (2 ^ (i + 1) * m) j0 ||| 2 ^ t = dig (2 ^ (i + 1) * m) j0 + 2 ^ t := by
 unfold dig
 rw [base_pow]
 have e1 : 2 ^ (i + 1) * m = 2 ^ (32 * j0) * (2 ^ (t + 1) * m) := by rw [← Nat.mul_assoc,← Nat.pow_add];congr 2;omega
 rw [e1,Nat.mul_div_cancel_left _ (Nat.two_pow_pos _)]
 have e3 : (4294967296 : Nat) = 2 ^ (t + 1) * 2 ^ (31 - t) := by rw [← Nat.pow_add,show t + 1 + (31 - t) = 32 by omega]
 have e4 : 2 ^ (t + 1) * m % 4294967296 = 2 ^ (t + 1) * (m % 2 ^ (31 - t)) := by rw [e3,Nat.mul_mod_mul_left]
 rw [e4,Nat.two_pow_add_eq_or_of_lt (Nat.pow_lt_pow_right (by decide) (by omega))]
theorem div_step {A d i r q : Nat} (hq : A / 2 ^ (i + 1) = q * d + r) (hr : r < d) {b : Nat} (hb : b = A / 2 ^ i % 2) :
  if d ≤ 2 * r + b then A / 2 ^ i = (2 * q + 1) * d + (2 * r + b - d) ∧ 2 * r + b - d < d else A / 2 ^ i = 2 * q * d + (2 * r + b) ∧ 2 * r + b < d := by
 have e : A / 2 ^ i = 2 * (A / 2 ^ (i + 1)) + b := by
  rw [hb,Nat.pow_succ,← Nat.div_div_eq_div_mul]
  omega
 rw [hq,Nat.mul_add,← Nat.mul_assoc] at e
 have hb2 : b < 2 := by omega
 split
 ·rename_i h
  rw [Nat.add_mul,Nat.one_mul]
  omega
 ·omega
end Go.Proofs.YtknkhnahflmjiaaGreatDoor

namespace Go.Proofs.YtknkhnahflmjiaaGreatDoor
open Go.RowKit Go.Shelf
theorem wrap_u32' (n : Int) : IntKind.u32.wrap n = n % 4294967296 := by simp [IntKind.wrap,IntKind.bits,IntKind.signed]
theorem bits_or_u32 (a b : Nat) (ha : a < 4294967296) (hb : b < 4294967296) : bits .or .u32 (a : Int) (b : Int) = ((a ||| b : Nat) : Int) := by
 have hx : a ||| b < 2 ^ 32 := Nat.or_lt_two_pow (by omega) (by omega)
 have h1 : (BitVec.ofInt 32 (a : Int)).toNat = a := by
  rw [BitVec.ofInt_natCast,BitVec.toNat_ofNat];exact Nat.mod_eq_of_lt (by omega)
 have h2 : (BitVec.ofInt 32 (b : Int)).toNat = b := by
  rw [BitVec.ofInt_natCast,BitVec.toNat_ofNat];exact Nat.mod_eq_of_lt (by omega)
 show IntKind.u32.wrap ((BitVec.ofInt 32 (a : Int) ||| BitVec.ofInt 32 (b : Int)).toNat : Int) = _
 rw [BitVec.toNat_or,h1,h2,wrap_u32']
 omega
theorem half_or (x y : Nat) (hx : x < 4294967296) : bits .or .u32 ((x : Int) / 2) ((y : Int) * 2147483648 % 4294967296) = ((x / 2 + 2147483648 * (y % 2) : Nat) : Int) := by
 have e1 : ((x : Int) / 2) = ((x / 2 : Nat) : Int) := by omega
 have e2 : ((y : Int) * 2147483648 % 4294967296) = ((2147483648 * (y % 2) : Nat) : Int) := by omega
 rw [e1,e2,bits_or_u32 _ _ (by omega) (by omega)]
 have h := Nat.two_pow_add_eq_or_of_lt (i := 31) (b := x / 2) (by omega) (y % 2)
 have e3 : (2 : Nat) ^ 31 = 2147483648 := by decide
 rw [e3] at h
 rw [Nat.or_comm,← h,Nat.add_comm]
end Go.Proofs.YtknkhnahflmjiaaGreatDoor

namespace Go.Proofs.YtknkhnahflmjiaaGreatDoor
theorem dig_below {P x s j n : Nat} (hP : P = 4294967296 ^ n) (h : j < n) : dig (s + P * x) j = dig s j := by
 unfold dig
 have e : P = 4294967296 ^ j * (4294967296 * 4294967296 ^ (n - j - 1)) := by
  rw [hP,← Nat.pow_succ',← Nat.pow_add]
  congr 1
  omega
 rw [e,Nat.mul_assoc,Nat.add_mul_div_left _ _ (pow_pos' j),Nat.mul_assoc,Nat.add_mul_mod_self_left]
theorem dig_of_sum {f : Nat → Nat} (hf : ∀ i,f i < 4294967296) : ∀ {n j : Nat},j < n → dig (wsum f n) j = f j
 | 0,_,h => absurd h (by omega)
 | n + 1,j,h => by
  show dig (wsum f n + 4294967296 ^ n * f n) j = _
  by_cases e : j < n
  ·rw [dig_below rfl e,dig_of_sum hf e]
  ·obtain rfl : j = n := by omega
   unfold dig
   rw [Nat.add_mul_div_left _ _ (pow_pos' j),Nat.div_eq_of_lt (wsum_lt hf j),Nat.zero_add,Nat.mod_eq_of_lt (hf j)]
theorem wAt_dig {L : List Nat} (h : Wok L) {j : Nat} (hj : j < L.length) : wAt L j = dig (wv L) j := (dig_of_sum (wAt_lt h) hj).symm
theorem dig_div (A j t : Nat) (ht : t < 32) : dig A j / 2 ^ t % 2 = A / 2 ^ (32 * j + t) % 2 := by
 unfold dig
 have e1 : A / 2 ^ (32 * j + t) = A / 4294967296 ^ j / 2 ^ t := by rw [Nat.pow_add,← Nat.div_div_eq_div_mul,base_pow]
 rw [e1]
 generalize A / 4294967296 ^ j = x
 have e2 : (4294967296 : Nat) = 2 ^ t * 2 ^ (32 - t) := by rw [← Nat.pow_add,show t + (32 - t) = 32 by omega]
 have e3 : (2 : Nat) ^ (32 - t) = 2 * 2 ^ (31 - t) := by rw [show 32 - t = (31 - t) + 1 by omega,Nat.pow_succ,Nat.mul_comm]
 rw [e2,Nat.mod_mul_right_div_self,e3,Nat.mod_mul_right_mod]
theorem bit_of {X : List Nat} (h : Wok X) {i : Nat} (hi : i / 32 < X.length) : wAt X (i / 32) / 2 ^ (i % 32) % 2 = wv X / 2 ^ i % 2 := by
 rw [wAt_dig h hi,dig_div _ _ _ (Nat.mod_lt _ (by decide)),Nat.div_add_mod]
theorem div_is {x d q r : Nat} (h : x = q * d + r) (hr : r < d) : x / d = q ∧ x % d = r := (Nat.div_mod_unique (by omega)).2 ⟨by rw [h,Nat.add_comm,Nat.mul_comm],hr⟩
structure DivSt (A d I : Nat) (O : List Nat) (r : Nat) : Prop where
 rest : r = A / 2 ^ I % d
 out : ∀ j,wAt O j = dig (2 ^ I * (A / 2 ^ I / d)) j
theorem DivSt.start {A d n : Nat} (hA : A < 4294967296 ^ n) (m : Nat) : DivSt A d (32 * n) (List.replicate m 0) 0 := by
 have e : A / 2 ^ (32 * n) = 0 := Nat.div_eq_of_lt (by rwa [← base_pow])
 exact ⟨by rw [e,Nat.zero_mod],fun j => by rw [wAt_zeros,e,Nat.zero_div,Nat.mul_zero,dig_zero]⟩
theorem DivSt.lt {A d I r : Nat} {O : List Nat} (h : DivSt A d I O r) (hd : 0 < d) : r < d := by rw [h.rest];exact Nat.mod_lt _ hd
theorem DivSt.yes {A d i r : Nat} {O : List Nat} (hd : 0 < d) (h : DivSt A d (i + 1) O r) (hl : i / 32 < O.length) {s : Nat} (hs : s = 2 * r + A / 2 ^ i % 2) (hle : d ≤ s) :
  DivSt A d i (O.set (i / 32) (wAt O (i / 32) ||| 2 ^ (i % 32))) (s - d) := by
 subst hs
 have hdm : A / 2 ^ (i + 1) = A / 2 ^ (i + 1) / d * d + r := by rw [h.rest,Nat.mul_comm];exact (Nat.div_add_mod _ _).symm
 have h1 := div_step hdm (h.lt hd) rfl
 rw [if_pos hle] at h1
 have h2 := div_is h1.1 h1.2
 have hi : i = 32 * (i / 32) + i % 32 := (Nat.div_add_mod i 32).symm
 have ht : i % 32 < 32 := Nat.mod_lt _ (by decide)
 generalize hq : A / 2 ^ (i + 1) / d = q at *
 have e2 : 2 ^ i * (2 * q + 1) = 2 ^ (i + 1) * q + 2 ^ i := by rw [Nat.mul_add,Nat.mul_one,Nat.pow_succ,Nat.mul_assoc]
 refine ⟨h2.2.symm,fun j => ?_⟩
 rw [h2.1,e2,dig_bit hi ht,wAt_set hl,h.out,h.out]
 split
 ·rename_i e
  subst e
  rw [hq]
  exact dig_low hi ht
 ·rw [hq]
theorem DivSt.no {A d i r : Nat} {O : List Nat} (hd : 0 < d) (h : DivSt A d (i + 1) O r) {s : Nat} (hs : s = 2 * r + A / 2 ^ i % 2) (hlt : s < d) : DivSt A d i O s := by
 subst hs
 have hdm : A / 2 ^ (i + 1) = A / 2 ^ (i + 1) / d * d + r := by rw [h.rest,Nat.mul_comm];exact (Nat.div_add_mod _ _).symm
 have h1 := div_step hdm (h.lt hd) rfl
 rw [if_neg (by omega)] at h1
 have h2 := div_is h1.1 h1.2
 generalize hq : A / 2 ^ (i + 1) / d = q at *
 have e2 : 2 ^ i * (2 * q) = 2 ^ (i + 1) * q := by rw [Nat.pow_succ,Nat.mul_assoc]
 refine ⟨h2.2.symm,fun j => ?_⟩
 rw [h2.1,e2,h.out,hq]
theorem DivSt.done {A d r n : Nat} {O : List Nat} (h : DivSt A d 0 O r) (hO : O.length = n) (hA : A < 4294967296 ^ n) : wv O = A / d := by
 have e : wv O = wsum (dig (A / d)) n := by
  unfold wv
  rw [hO]
  refine wsum_congr fun i _ => ?_
  rw [h.out,Nat.pow_zero,Nat.div_one,Nat.one_mul]
 rw [e,dig_sum,Nat.mod_eq_of_lt (Nat.lt_of_le_of_lt (Nat.div_le_self _ _) hA)]
end Go.Proofs.YtknkhnahflmjiaaGreatDoor

namespace Go.Proofs.YtknkhnahflmjiaaGreatDoor
theorem gcd_half_l {a b : Nat} (ha : a % 2 = 0) (hb : b % 2 = 1) : Nat.gcd (a / 2) b = Nat.gcd a b := by
 have e : a = 2 * (a / 2) := by omega
 conv => rhs;rw [e]
 exact (Nat.Coprime.gcd_mul_left_cancel _ (by unfold Nat.Coprime;rw [Nat.gcd_rec,hb];rfl)).symm
theorem gcd_half_r {a b : Nat} (ha : a % 2 = 1) (hb : b % 2 = 0) : Nat.gcd a (b / 2) = Nat.gcd a b := by
 rw [Nat.gcd_comm,gcd_half_l hb ha,Nat.gcd_comm]
theorem gcd_half_both {a b : Nat} (ha : a % 2 = 0) (hb : b % 2 = 0) : Nat.gcd a b = 2 * Nat.gcd (a / 2) (b / 2) := by
 rw [← Nat.gcd_mul_left]
 congr 1 <;> omega
theorem gcd_diff {a b : Nat} (h : b ≤ a) : Nat.gcd (a - b) b = Nat.gcd a b := Nat.gcd_sub_self_left h
theorem low_num {n d : Int} (hd : d ≠ 0) : (Rat.divInt n d).num.natAbs = n.natAbs / Nat.gcd n.natAbs d.natAbs ∧ (Rat.divInt n d).den = d.natAbs / Nat.gcd n.natAbs d.natAbs := by
 have hg : Int.gcd d n = Nat.gcd n.natAbs d.natAbs := by rw [Int.gcd_comm];rfl
 rw [Rat.num_divInt,Rat.den_divInt,if_neg hd,hg]
 refine ⟨?_,rfl⟩
 have hdv : ((Nat.gcd n.natAbs d.natAbs : Nat) : Int) ∣ d.sign * n := Int.dvd_mul_of_dvd_right (Int.ofNat_dvd_left.2 (Nat.gcd_dvd_left _ _))
 rw [Int.natAbs_ediv_of_dvd hdv,Int.natAbs_natCast,Int.natAbs_mul,Int.natAbs_sign_of_ne_zero hd,Nat.one_mul]
theorem low_neg {n d : Int} (hd : d ≠ 0) (hn : n ≠ 0) : (Rat.divInt n d).num < 0 ↔ ((n < 0 ∧ 0 < d) ∨ (0 < n ∧ d < 0)) := by
 have hg : Int.gcd d n = Nat.gcd n.natAbs d.natAbs := by rw [Int.gcd_comm];rfl
 have hg0 : 0 < Nat.gcd n.natAbs d.natAbs := Nat.gcd_pos_of_pos_left _ (by omega)
 rw [Rat.num_divInt,hg]
 obtain ⟨m,hm⟩ : ((Nat.gcd n.natAbs d.natAbs : Nat) : Int) ∣ n := Int.ofNat_dvd_left.2 (Nat.gcd_dvd_left _ _)
 have hgi : (0 : Int) < ((Nat.gcd n.natAbs d.natAbs : Nat) : Int) := by omega
 generalize ((Nat.gcd n.natAbs d.natAbs : Nat) : Int) = g at *
 have e : d.sign * n = g * (d.sign * m) := by rw [hm,Int.mul_left_comm]
 have hm0 : (n < 0 ↔ m < 0) ∧ (0 < n ↔ 0 < m) := by
  rw [hm]
  refine ⟨⟨fun h => ?_,fun h => Int.mul_neg_of_pos_of_neg hgi h⟩,⟨fun h => ?_,fun h => Int.mul_pos hgi h⟩⟩
  ·by_cases h0 : 0 ≤ m
   ·have := Int.mul_nonneg (Int.le_of_lt hgi) h0;omega
   ·omega
  ·by_cases h0 : 0 < m
   ·exact h0
   ·have := Int.mul_nonneg (Int.le_of_lt hgi) (show 0 ≤ -m by omega);rw [Int.mul_neg] at this;omega
 rw [e,Int.mul_ediv_cancel_left _ (by omega)]
 rcases Int.lt_or_lt_of_ne hd with h | h
 ·rw [Int.sign_eq_neg_one_of_neg h];omega
 ·rw [Int.sign_eq_one_of_pos h];omega
theorem rat_add (a b : Rat) : a + b = Rat.divInt (a.num * b.den + b.num * a.den) ((a.den * b.den : Nat) : Int) := by rw [Rat.add_def',Rat.divInt_ofNat]
theorem rat_mul (a b : Rat) : a * b = Rat.divInt (a.num * b.num) ((a.den * b.den : Nat) : Int) := by rw [Rat.mul_def,Rat.divInt_ofNat,Rat.mkRat_def,dif_neg]
theorem rat_div (a b : Rat) : a / b = Rat.divInt (a.num * b.den) (a.den * b.num) := by
 rw [Rat.div_def,Rat.inv_def]
 conv => lhs;rw [← Rat.num_divInt_den a]
 rw [Rat.divInt_mul_divInt]
end Go.Proofs.YtknkhnahflmjiaaGreatDoor

namespace Go.Proofs.YtknkhnahflmjiaaGreatDoor
theorem mul_row {O : List Nat} {n p x y cy R : Nat} (hp : p < O.length) (hn : O.length = n) (h : wsum (wAt O) n + 4294967296 ^ p * cy = R) :
  wsum (wAt (O.set p ((x * y + wAt O p + cy) % 4294967296))) n + 4294967296 ^ (p + 1) * ((x * y + wAt O p + cy) / 4294967296) = R + 4294967296 ^ p * (x * y) := by
 have h1 := wsum_set_lt (L := O) (x := (x * y + wAt O p + cy) % 4294967296) hp n (by omega)
 have h2 : 4294967296 ^ p * ((x * y + wAt O p + cy) % 4294967296) + 4294967296 ^ (p + 1) * ((x * y + wAt O p + cy) / 4294967296) = 4294967296 ^ p * (x * y + wAt O p + cy) := by
  rw [Nat.pow_succ,Nat.mul_assoc,← Nat.mul_add]
  congr 1
  have := Nat.div_add_mod (x * y + wAt O p + cy) 4294967296
  omega
 have h3 : 4294967296 ^ p * (x * y + wAt O p + cy) = 4294967296 ^ p * (x * y) + 4294967296 ^ p * wAt O p + 4294967296 ^ p * cy := by rw [Nat.mul_add,Nat.mul_add]
 generalize 4294967296 ^ p * ((x * y + wAt O p + cy) % 4294967296) = u at *
 generalize 4294967296 ^ (p + 1) * ((x * y + wAt O p + cy) / 4294967296) = v at *
 generalize 4294967296 ^ p * (x * y) = z at *
 generalize 4294967296 ^ p * wAt O p = s at *
 generalize 4294967296 ^ p * cy = t at *
 omega
theorem mul_last {O : List Nat} {n p cy R : Nat} (hp : p < O.length) (hn : O.length = n) (h0 : wAt O p = 0) (h : wsum (wAt O) n + 4294967296 ^ p * cy = R) : wsum (wAt (O.set p cy)) n = R := by
 have h1 := wsum_set_lt (L := O) (x := cy) hp n (by omega)
 rw [h0,Nat.mul_zero] at h1
 omega
theorem mul_acc {i k a x y : Nat} {Y : Nat → Nat} (hy : y = Y k) : a + 4294967296 ^ i * (x * wsum Y k) + 4294967296 ^ (i + k) * (x * y) = a + 4294967296 ^ i * (x * wsum Y (k + 1)) := by
 have e : wsum Y (k + 1) = wsum Y k + 4294967296 ^ k * Y k := rfl
 rw [e,hy,Nat.mul_add,Nat.mul_add,Nat.pow_add,Nat.add_assoc]
 congr 2
 rw [Nat.mul_assoc,Nat.mul_left_comm x]
theorem mul_next {i b : Nat} {X : Nat → Nat} : wsum X i * b + 4294967296 ^ i * (X i * b) = wsum X (i + 1) * b := by
 show _ = (wsum X i + 4294967296 ^ i * X i) * b
 rw [Nat.add_mul,Nat.mul_assoc]
end Go.Proofs.YtknkhnahflmjiaaGreatDoor

namespace Go.Proofs.YtknkhnahflmjiaaGreatDoor
open Go.RowKit Go.Shelf
structure HeldB (W : World) where
 w : World
 h : Below W.heap.size W w
instance (W : World) : Nonempty (HeldB W) := ⟨⟨W,Below.refl _ _⟩⟩
theorem HeldB.cell {W : World} {b o : Nat} {v : Value} (hc : W.cell? ⟨b,o,none⟩ = some v) (x : HeldB W) : x.w.cell? ⟨b,o,none⟩ = some v :=
 (x.h.cell (p := ⟨b,o,none⟩) (World.block_lt_of_cell? _ _ hc)).trans hc
theorem HeldB.call {W : World} {P : Program} {f : FuncId} {args : Array Value} {v : Value} (h : ∀ w',Below W.heap.size W w' → Calls P f args w' fun e w'' => e = .returned v ∧ Below w'.heap.size w' w'') (x : HeldB W) :
  Calls P f args x.w fun e w'' => e = .returned v ∧ ∃ y : HeldB W,w'' = y.w :=
 (h x.w x.h).mono fun _ w'' ⟨he,hb⟩ => ⟨he,⟨w'',x.h.trans (hb.mono x.h.size)⟩,rfl⟩
theorem HeldB.callq {W : World} {P : Program} {f : FuncId} {args : Array Value} {v : Value} (h : ∀ w',Below W.heap.size W w' → Calls P f args w' fun e w'' => e = .returned v ∧ ∃ q,w'.drewN q = w'') (x : HeldB W) :
  Calls P f args x.w fun e w'' => e = .returned v ∧ ∃ y : HeldB W,w'' = y.w :=
 (h x.w x.h).mono fun _ w'' ⟨he,q,hq⟩ => ⟨he,⟨w'',by rw [← hq];exact below_drewN x.h q⟩,rfl⟩
theorem wp_region_heldb {P : Program} {id : Nat} {Q : Exit → Act → World → Prop} {a : Act} {w : World} {l : List Oper} (hm : P.follows .mixedOrders = true) (hB : Region.lexB .any l.toArray = true)
  (h : wpQuiet P l.toArray (fun w' => ∃ x : HeldB w,w' = x.w) (fun a' => ∀ w',(∃ x : HeldB w,w' = x.w) → Q .normal a' w') l a) : (Code.region id l.toArray true).wp P Q a w :=
 wp_region_quiet (C := fun w' => ∃ x : HeldB w,w' = x.w) hm hB ⟨⟨w.drew,(Below.refl _ _).drew⟩,rfl⟩ (by simpa using h)
end Go.Proofs.YtknkhnahflmjiaaGreatDoor

namespace Go.Proofs.YtknkhnahflmjiaaGreatDoor
open Go.RowKit Go.Shelf
section
variable {P : Program} {ops : Array Oper} {md : Region.Mode} {C : World → Prop}
def anyHead (P : Program) (md : Region.Mode) (ops : Array Oper) (C : World → Prop) (n : Nat) (L : Array Bool → Act → Prop) : Nat → Array Bool → Act → Prop
 | 0,done,a => L done a
 | f + 1,done,a => ¬ Region.ready md ops done = [] ∧ ∀ i ∈ Region.ready md ops done,i < n ∧ qOp P ops C i (anyHead P md ops C n L f (done.setIfInBounds i true)) a
theorem any_of_head {n g : Nat} {L : Array Bool → Act → Prop} {Q : Exit → Act → World → Prop} (hL : ∀ done a w,C w → L done a → wpAny P md ops Q g done a w) (f : Nat) :
  ∀ (done : Array Bool) (a : Act) (w : World),C w → anyHead P md ops C n L f done a → wpAny P md ops Q (f + g) done a w := by
 induction f with
 | zero => intro done a w hw h;rw [Nat.zero_add];exact hL done a w hw h
 | succ f ih =>
  intro done a w hw h
  rw [Nat.succ_add]
  exact ⟨fun e => absurd e h.1,fun i hi => wpOp_of_qOp hw (fun a' w' hw' h' => ih _ a' w' hw' h') (h.2 i hi).2⟩
theorem head_first {n i : Nat} {o : Oper} {v : Value} {L : Array Bool → Act → Prop} (ho : ops[i]? = some o) (hin : i < n) (hn : n < ops.size) (hsel : ∀ (j : Nat) (o : Oper) cs b,ops[j]? = some o → o.op ≠ .select cs b)
  (hsink : Region.sinkB md ops n = true) (hchain : Region.chainB md ops n = true) (hL : ∀ done a,L done a → ∀ j ∈ Region.ready md ops done,n ≤ j) (f : Nat) :
  ∀ (done : Array Bool) (a : Act),HeadInv md ops n done → (∀ j oj,ops[j]? = some oj → j ≠ i → done.getD j true = false → (∀ e ∈ oj.after,Region.binds md e = true → e.on ≠ i) → o.apart ops oj = true) →
   i ∈ Region.ready md ops done → YieldsIn P ops C o v a → anyHead P md ops C n L f (done.setIfInBounds i true) (a.put o.dst v) → anyHead P md ops C n L (f + 1) done a := by
 induction f with
 | zero =>
  intro done a inv hap hr hy h
  have hun := (mem_ready.1 hr).1
  refine ⟨(fun e => by rw [e] at hr;cases hr),fun j hj => ?_⟩
  have hjn : j < n := Nat.lt_of_not_le fun hle => tail_waits hsink hchain hn inv (n - i) i rfl hin hun j hle hj
  refine ⟨hjn,?_⟩
  by_cases e : j = i
  ·rw [e]
   exact hy.qOp ho h
  ·have := hL _ _ h j (ready_mono hj e)
   omega
 | succ f ih =>
  intro done a inv hap hr hy h
  have hun := (mem_ready.1 hr).1
  refine ⟨(fun e => by rw [e] at hr;cases hr),fun j hj => ?_⟩
  have hjn : j < n := Nat.lt_of_not_le fun hle => tail_waits hsink hchain hn inv (n - i) i rfl hin hun j hle hj
  refine ⟨hjn,?_⟩
  by_cases e : j = i
  ·rw [e]
   exact hy.qOp ho h
  ·have h1 := (h.2 j (ready_mono hj e)).2
   obtain ⟨hju,oj,hoj,hall⟩ := mem_ready.1 hj
   have hno : ∀ x ∈ oj.after,Region.binds md x = true → x.on ≠ i := fun x hx hb he => by
    have h0 := hall x hx hb
    rw [he,getD_both hun] at h0
    cases h0
   have h2 := qOp_put hoj (hap j oj hoj e hju hno) (fun cs b => hsel i o cs b ho) (fun cs b => hsel j oj cs b hoj) hy h1
   refine qOp_mono (fun a' h3 => ?_) h2
   refine ih _ a' (inv.set hj hjn) (fun k ok hk hki hku hkn => ?_) (ready_mono hr (Ne.symm e)) h3.1 ?_
   ·refine hap k ok hk hki ?_ hkn
    by_cases hjk : j = k
    ·rw [← hjk];exact hju
    ·rwa [getD_set_ne true hjk] at hku
   ·rw [Array.setIfInBounds_comm _ _ e]
    exact h3.2
theorem head_lex {n g : Nat} {K : Act → Prop} (hn : n < ops.size) (hsel : Region.noSelect ops = true) (hsink : Region.sinkB md ops n = true) (hchain : Region.chainB md ops n = true) (l : List Oper) :
  ∀ (k : Nat) (done : Array Bool) (a : Act),k + l.length = n → (∀ j,j < l.length → l[j]? = ops[k + j]?) → HeadInv md ops n done → Region.lexHead md ops g l.length k done = true → wpQuiet P ops C K l a →
   anyHead P md ops C n (fun done' a' => Region.seqB md ops g n done' = true ∧ K a') l.length done a := by
 induction l with
 | nil =>
  intro k done a hk _ _ hB h
  obtain rfl : k = n := by simpa using hk
  exact ⟨by simpa [Region.lexHead] using hB,h⟩
 | cons o l ih =>
  intro k done a hk hl inv hB h
  have ho : ops[k]? = some o := by simpa using (hl 0 (by simp)).symm
  rw [List.length_cons] at hk hB
  simp only [Region.lexHead,Bool.and_eq_true] at hB
  obtain ⟨⟨h1,h2⟩,h3⟩ := hB
  have hr : k ∈ Region.ready md ops done := by simpa using h1
  have hq : qOp P ops C k (wpQuiet P ops C K l) a := by
   unfold qOp
   rw [ho]
   exact h
  obtain ⟨v,hy,hK⟩ := yieldsIn_of_qOp ho hq
  have hkn : k < n := by omega
  refine head_first ho hkn hn (Region.noSelect_spec hsel) hsink hchain (fun _ _ hL => seqB_ready hL.1) l.length done a inv (Region.free_spec ho h2) hr hy ?_
  refine ih (k + 1) _ _ (by omega) (fun j hj => ?_) (inv.set hr hkn) h3 hK
  have := hl (j + 1) (by rw [List.length_cons];omega)
  rw [List.getElem?_cons_succ] at this
  rw [this,show k + (j + 1) = k + 1 + j by omega]
theorem wp_region_qtail {id : Nat} {Q : Exit → Act → World → Prop} {a : Act} {w : World} {l : List Oper} (n : Nat) (hm : P.follows .mixedOrders = true) (hB : Region.lexTailB .any l.toArray n = true) (hC : C w.drew)
  (h : wpQuiet P l.toArray C (fun a' => ∀ w',C w' → wpList P l.toArray Q (l.drop n) a' w') (l.take n) a) : (Code.region id l.toArray true).wp P Q a w := by
 simp only [Region.lexTailB,Bool.and_eq_true,decide_eq_true_eq] at hB
 obtain ⟨⟨⟨⟨hsel,hn⟩,hsink⟩,hchain⟩,hlex⟩ := hB
 have hnl : n < l.length := by simpa using hn
 have htl : (l.take n).length = n := by rw [List.length_take];omega
 have hdl : (l.drop n).length = l.toArray.size - n := by simp
 have inv0 : HeadInv .any l.toArray n (Array.replicate l.toArray.size false) := by
  refine ⟨by simp,fun j oj _ hj => ?_,fun t _ ht => getD_in (by simpa using ht) (getD_replicate_false _ _)⟩
  rw [getD_replicate_false] at hj
  cases hj
 have H := head_lex (md := .any) (g := l.toArray.size - n) hn hsel hsink hchain (l.take n) 0 _ a (by omega) (fun j hj => by
  rw [htl] at hj
  simp [hj]) inv0 (by rw [htl];exact hlex) h
 refine wp_region_any hm ?_
 have H2 := any_of_head (Q := Q) (g := l.toArray.size - n) (fun done a' w' hw' hL => by
  have h1 := wpAny_of_seq (md := .any) (Q' := Q) (l.drop n) n done a' w' (fun j => by simp [List.getElem?_drop]) (by rw [hdl];exact hL.1) (hL.2 w' hw')
  rwa [hdl] at h1) _ _ a _ hC H
 rw [htl,show n + (l.toArray.size - n) = l.toArray.size by omega] at H2
 exact H2
theorem wp_region_heldtail {id : Nat} {Q : Exit → Act → World → Prop} {a : Act} {w : World} {l : List Oper} (n : Nat) (hm : P.follows .mixedOrders = true) (hB : Region.lexTailB .any l.toArray n = true)
  (h : wpQuiet P l.toArray (fun w' => ∃ x : HeldB w,w' = x.w) (fun a' => ∀ w',(∃ x : HeldB w,w' = x.w) → wpList P l.toArray Q (l.drop n) a' w') (l.take n) a) : (Code.region id l.toArray true).wp P Q a w :=
 wp_region_qtail (C := fun w' => ∃ x : HeldB w,w' = x.w) n hm hB ⟨⟨w.drew,(Below.refl _ _).drew⟩,rfl⟩ h
end
end Go.Proofs.YtknkhnahflmjiaaGreatDoor

namespace Go.Proofs.YtknkhnahflmjiaaGreatDoor
open Go.RowKit Go.Shelf
abbrev FactsT := Tmp → World → Prop
def putF (F : FactsT) (d : Option Tmp) (p : World → Prop) : FactsT := fun k w => if d = some k then p w else F k w
def Stab (p : World → Prop) : Prop := ∀ w w',Below w.heap.size w w' → p w → p w'
def known (ops : Array Oper) (o : Oper) (F : FactsT) (w : World) : Prop := ∀ k ∈ o.looksAt ops,F k w
theorem putF_comm {F : FactsT} {d e : Option Tmp} {p q : World → Prop} (h : ∀ x,d = some x → e ≠ some x) : putF (putF F d p) e q = putF (putF F e q) d p := by
 funext k w
 unfold putF
 by_cases h1 : d = some k
 ·rw [if_neg (h k h1),if_pos h1,if_pos h1]
 ·by_cases h2 : e = some k
  ·rw [if_pos h2,if_neg h1,if_pos h2]
  ·rw [if_neg h2,if_neg h1,if_neg h1,if_neg h2]
theorem known_putF {ops : Array Oper} {o : Oper} {F : FactsT} {d : Option Tmp} {p : World → Prop} (h : ∀ x,d = some x → x ∉ o.looksAt ops) : known ops o (putF F d p) = known ops o F := by
 funext w
 unfold known putF
 refine propext ⟨fun H k hk => ?_,fun H k hk => ?_⟩
 ·have := H k hk
  rwa [if_neg (fun e => h k e hk)] at this
 ·rw [if_neg (fun e => h k e hk)]
  exact H k hk
def stillB (o : Oper) : Bool :=
 match o.op with
 | .move _ | .assign _ | .load _ _ | .fieldAddr _ _ _ | .indexAddr _ _ _ | .binOp _ _ _ _ _ | .unOp _ _ _ | .convert _ _ _ | .build _ _ | .extract _ _ | .index _ _ _ | .field _ _ _ | .slice _ _ _ _ _ => true
 | .call c => match c.callee with
  | .builtin .len => true
  | _ => false
 | _ => false
theorem run_value {P : Program} {s : Sem Value} {w w' : World} {n : Next} (h : (do pure (Next.value (← s)) : Sem Next).run P w = .ok n w') : ∃ u,n = .value u := by
 rw [Sem.run_bind] at h
 cases hs : s.run P w with
 | ok u w2 =>
  rw [hs] at h
  simp only [Result.andThen,Sem.run_pure] at h
  injection h with h1 _
  exact ⟨u,h1.symm⟩
 | halt x w2 =>
  rw [hs] at h
  simp only [Result.andThen] at h
  cases h
theorem no_enter {P : Program} {o : Oper} (hs : stillB o = true) {ρ : Operand → Value} {w w' : World} {f : FuncId} {args : Array Value} : (execOp ρ o).run P w ≠ .ok (.enter f args) w' := by
 intro h
 have key : ∀ {s : Sem Value} {n : Next},(do pure (Next.value (← s)) : Sem Next).run P w = .ok n w' → n = .enter f args → False := fun h he => by
  obtain ⟨u,hu⟩ := run_value h
  rw [hu] at he
  cases he
 unfold stillB at hs
 unfold execOp at h
 cases ho : o.op <;> rw [ho] at hs h <;> first
  | (cases hs;done)
  | (exact key h rfl)
  | (simp only [Sem.run_pure] at h;injection h with h1 _;cases h1;done)
  | skip
 rename_i c
 dsimp only at hs h
 cases hc : c.callee with
 | builtin b =>
  rw [hc] at hs
  cases b <;> first
   | (cases hs;done)
   | skip
  simp only [resolve,hc,Sem.run_bind,Sem.run_pure,Result.andThen_ok,invoke,builtin] at h
  exact key (s := Builtin.len_ c.argTypes o.type (c.args.map ρ)) (by rw [Sem.run_bind];exact h) rfl
 | invoke r n => rw [hc] at hs;cases hs
 | value v => rw [hc] at hs;cases hs
structure GPost where
 σ : Value → Prop
 φ : Value → World → Prop
 ne : ∃ v,σ v
 st : ∀ v,Stab (φ v)
 fr : Bool := false
def blkOf : Value → Option Nat
 | .pointer (some p) => some p.block
 | .slice (some p) _ _ => some p.block
 | _ => none
def ApartD (D : List Tmp) (a : Act) (w : World) : Prop := ∀ d ∈ D,∀ b,blkOf (a.eval (.tmp d)) = some b → b < w.heap.size ∧ ∀ e ∈ D,e ≠ d → blkOf (a.eval (.tmp e)) ≠ some b
theorem eval_put (a : Act) (dst : Option Tmp) (v : Value) (d : Tmp) : (a.put dst v).eval (.tmp d) = a.eval (.tmp d) ∨ (dst = some d ∧ (a.put dst v).eval (.tmp d) = v) := by
 cases dst with
 | none => exact .inl rfl
 | some e =>
  show (a.tmps.setIfInBounds e v).getD d undef = a.tmps.getD d undef ∨ _ ∧ (a.tmps.setIfInBounds e v).getD d undef = v
  rw [Array.getD_eq_getD_getElem?,Array.getD_eq_getD_getElem?,Array.getElem?_setIfInBounds]
  by_cases h : e = d
  ·subst h
   by_cases h2 : e < a.tmps.size
   ·exact .inr ⟨rfl,by simp [h2]⟩
   ·exact .inl (by simp [h2])
  ·exact .inl (by simp [h])
theorem apart_keep {D : List Tmp} {a : Act} {w w' : World} {dst : Option Tmp} {v : Value} (h : ApartD D a w) (hs : w.heap.size ≤ w'.heap.size) (hd : ∀ d,dst = some d → d ∈ D → blkOf v = none) : ApartD D (a.put dst v) w' := fun d hdD b hb => by
 rcases eval_put a dst v d with e | ⟨e1,e2⟩
 ·rw [e] at hb
  obtain ⟨h1,h2⟩ := h d hdD b hb
  refine ⟨Nat.lt_of_lt_of_le h1 hs,fun x hx hne => ?_⟩
  rcases eval_put a dst v x with f | ⟨f1,f2⟩
  ·rw [f];exact h2 x hx hne
  ·rw [f2,hd x f1 hx];simp
 ·rw [e2,hd d e1 hdD] at hb
  cases hb
theorem apart_own {D : List Tmp} {a : Act} {w w' : World} {d : Option Tmp} {v : Value} {b : Nat} (h : ApartD D a w) (hv : blkOf v = some b) (h1 : w.heap.size ≤ b) (h2 : b < w'.heap.size) (hs : w.heap.size ≤ w'.heap.size) : ApartD D (a.put d v) w' := fun x hxD c hc => by
 rcases eval_put a d v x with e | ⟨e1,e2⟩
 ·rw [e] at hc
  obtain ⟨h3,h4⟩ := h x hxD c hc
  refine ⟨Nat.lt_of_lt_of_le h3 hs,fun y hy hne => ?_⟩
  rcases eval_put a d v y with f | ⟨f1,f2⟩
  ·rw [f];exact h4 y hy hne
  ·rw [f2,hv]
   intro he
   injection he with he
   omega
 ·rw [e2,hv] at hc
  injection hc with hc
  subst hc
  refine ⟨h2,fun y hy hne => ?_⟩
  rcases eval_put a d v y with f | ⟨f1,f2⟩
  ·rw [f]
   intro he
   have := (h y hy _ he).1
   omega
  ·rw [e1] at f1
   injection f1 with f1
   exact absurd f1.symm hne
section
variable {P : Program} {ops : Array Oper} {md : Region.Mode} {W : World} {Φ : Nat → Option GPost}
def callsAt (P : Program) (o : Oper) (a : Act) (φ : GPost) (w : World) : Prop :=
 ∃ f args,(execOp a.eval o).run P w = .ok (.enter f args) w ∧ Calls P f args w fun e w'' => ∃ v,e = .returned v ∧ Below w.heap.size w w'' ∧ φ.σ v ∧ φ.φ v w''
def newAt (P : Program) (o : Oper) (a : Act) (φ : GPost) (w : World) : Prop :=
 ∃ v w',(execOp a.eval o).run P w = .ok (.value v) w' ∧ Below w.heap.size w w' ∧ φ.σ v ∧ φ.φ v w' ∧ (φ.fr = true → ∃ b,blkOf v = some b ∧ w.heap.size ≤ b ∧ b < w'.heap.size)
def makesAt (P : Program) (o : Oper) (a : Act) (φ : GPost) (w : World) : Prop := (φ.fr = false ∧ callsAt P o a φ w) ∨ newAt P o a φ w
def pureUpon (w : World) (v : Value) : Result Next → Prop
 | .ok (.value u) w' => w' = w ∧ u = v
 | .ok .skip w' => w' = w ∧ v = undef
 | _ => False
def quietG (P : Program) (W : World) (o : Oper) (a : Act) (v : Value) : Prop := ∀ w,Below W.heap.size W w → pureUpon w v ((execOp a.eval o).run P w)
theorem quietG_of {C : World → Prop} (hC : ∀ w,Below W.heap.size W w → C w) {o : Oper} {a : Act} {v : Value} (hs : stillB o = true) (h : ∀ w,C w → o.quietAt P a C w v) : quietG P W o a v := fun w hw => by
 have h1 := h w (hC w hw)
 have h2 := fun f args w' => no_enter (P := P) (o := o) hs (ρ := a.eval) (w := w) (w' := w') (f := f) (args := args)
 unfold Oper.quietAt at h1
 generalize (execOp a.eval o).run P w = r at *
 cases r with
 | ok n w' =>
  cases n <;> simp only [Oper.quietUpon] at h1
  case value u => exact h1
  case skip => exact h1
  case enter f args => exact absurd rfl (h2 f args w')
 | halt x w' => simp only [Oper.quietUpon] at h1
def gStep (P : Program) (ops : Array Oper) (W : World) (o : Oper) (φ : Option GPost) (K : Act → FactsT → Prop) (a : Act) (F : FactsT) : Prop :=
 if Region.wanted o (yielded ops a.tmps) = true then
  match φ with
  | none => ∃ v,quietG P W o a v ∧ K (a.put o.dst v) (putF F o.dst (known ops o F))
  | some φ => (∀ w,Below W.heap.size W w → known ops o F w → makesAt P o a φ w) ∧ ∀ v,φ.σ v → K (a.put o.dst v) (putF F o.dst (φ.φ v))
 else K (a.put o.dst undef) (putF F o.dst fun _ => True)
theorem gStep_mono {o : Oper} {φ : Option GPost} {K K' : Act → FactsT → Prop} {a : Act} {F : FactsT} (h : ∀ a F,K a F → K' a F) (hh : gStep P ops W o φ K a F) : gStep P ops W o φ K' a F := by
 unfold gStep at *
 split
 ·rename_i hw
  rw [if_pos hw] at hh
  cases φ with
  | none =>
   obtain ⟨v,h1,h2⟩ := hh
   exact ⟨v,h1,h _ _ h2⟩
  | some φ => exact ⟨hh.1,fun v hv => h _ _ (hh.2 v hv)⟩
 ·rename_i hw
  rw [if_neg hw] at hh
  exact h _ _ hh
theorem gStep_some {o : Oper} {φ : Option GPost} {K : Act → FactsT → Prop} {a : Act} {F : FactsT} (hh : gStep P ops W o φ K a F) : ∃ a' F',K a' F' := by
 unfold gStep at hh
 split at hh
 ·cases φ with
  | none =>
   obtain ⟨v,-,h2⟩ := hh
   exact ⟨_,_,h2⟩
  | some φ => exact ⟨_,_,hh.2 _ φ.ne.choose_spec⟩
 ·exact ⟨_,_,hh⟩
theorem quiet_one {o : Oper} {a : Act} {u v : Value} (h1 : quietG P W o a u) (h2 : quietG P W o a v) : u = v := by
 have e1 := h1 W (Below.refl _ _)
 have e2 := h2 W (Below.refl _ _)
 generalize (execOp a.eval o).run P W = r at *
 cases r with
 | ok n w' =>
  cases n <;> simp only [pureUpon] at e1 e2
  case value x => rw [← e1.2,← e2.2]
  case skip => rw [e1.2,e2.2]
 | halt x w' => simp only [pureUpon] at e1
theorem gStep_mono2 {o : Oper} {φ : Option GPost} {K K' : Act → FactsT → Prop} {a : Act} {F : FactsT} (hh : gStep P ops W o φ K a F) (h : ∀ v p,K (a.put o.dst v) (putF F o.dst p) → K' (a.put o.dst v) (putF F o.dst p)) : gStep P ops W o φ K' a F := by
 unfold gStep at *
 split
 ·rename_i hw
  rw [if_pos hw] at hh
  cases φ with
  | none =>
   obtain ⟨v,h1,h2⟩ := hh
   exact ⟨v,h1,h _ _ h2⟩
  | some φ => exact ⟨hh.1,fun v hv => h _ _ (hh.2 v hv)⟩
 ·rename_i hw
  rw [if_neg hw] at hh
  exact h _ _ hh
theorem gStep_all {o : Oper} {φ : Option GPost} {ι : Type} (x0 : ι) {K : ι → Act → FactsT → Prop} {K' : Act → FactsT → Prop} {a : Act} {F : FactsT} (hh : ∀ x,gStep P ops W o φ (K x) a F) (h : ∀ v p,(∀ x,K x (a.put o.dst v) (putF F o.dst p)) → K' (a.put o.dst v) (putF F o.dst p)) : gStep P ops W o φ K' a F := by
 unfold gStep at *
 split
 ·rename_i hw
  simp only [if_pos hw] at hh
  cases φ with
  | none =>
   obtain ⟨v,h1,-⟩ := hh x0
   refine ⟨v,h1,h _ _ fun x => ?_⟩
   obtain ⟨u,h3,h4⟩ := hh x
   rw [quiet_one h1 h3]
   exact h4
  | some φ => exact ⟨(hh x0).1,fun v hv => h _ _ fun x => (hh x).2 v hv⟩
 ·rename_i hw
  simp only [if_neg hw] at hh
  exact h _ _ hh
theorem quietG_put {o : Oper} (hsel : ∀ cs b,o.op ≠ .select cs b) {a : Act} {d : Option Tmp} {u v : Value} (h : ∀ x,d = some x → x ∉ o.looksAt ops) : quietG P W o (a.put d u) v ↔ quietG P W o a v := by
 unfold quietG
 rw [execOp_put o hsel a d u h]
theorem makesAt_put {o : Oper} (hsel : ∀ cs b,o.op ≠ .select cs b) {a : Act} {d : Option Tmp} {u : Value} {φ : GPost} {w : World} (h : ∀ x,d = some x → x ∉ o.looksAt ops) : makesAt P o (a.put d u) φ w ↔ makesAt P o a φ w := by
 unfold makesAt callsAt newAt
 rw [execOp_put o hsel a d u h]
theorem step_comm {oi oj : Oper} {φi φj : Option GPost} (hap : oi.apart ops oj = true) (hsi : ∀ cs b,oi.op ≠ .select cs b) (hsj : ∀ cs b,oj.op ≠ .select cs b) {K : Act → FactsT → Prop} {a : Act} {F : FactsT}
  (h : gStep P ops W oi φi (fun a F => gStep P ops W oj φj K a F) a F) : gStep P ops W oj φj (fun a F => gStep P ops W oi φi K a F) a F := by
 obtain ⟨h1,h2,h3⟩ := Oper.apart_spec hap
 have h2' : ∀ x,oi.dst = some x → oj.dst ≠ some x := h2
 -- what j sees behind i
 have J : ∀ v p,gStep P ops W oj φj K (a.put oi.dst v) (putF F oi.dst p) → gStep P ops W oj φj (fun a' F' => K (a'.put oi.dst v) (putF F' oi.dst p)) a F := fun v p hh => by
  unfold gStep at hh ⊢
  rw [wanted_put oj a oi.dst v h1] at hh
  split
  ·rename_i hw
   rw [if_pos hw] at hh
   cases φj with
   | none =>
    obtain ⟨u,q,k⟩ := hh
    rw [known_putF h1,Act.put_comm a v u h2,putF_comm h2'] at k
    exact ⟨u,(quietG_put hsj h1).1 q,k⟩
   | some φ =>
    refine ⟨fun w hw2 hk => (makesAt_put hsj h1).1 (hh.1 w hw2 (by rw [known_putF h1];exact hk)),fun u hu => ?_⟩
    have k := hh.2 u hu
    rw [Act.put_comm a v u h2,putF_comm h2'] at k
    exact k
  ·rename_i hw
   rw [if_neg hw] at hh
   rw [Act.put_comm a v undef h2,putF_comm h2'] at hh
   exact hh
 unfold gStep at h
 by_cases hwi : Region.wanted oi (yielded ops a.tmps) = true
 ·rw [if_pos hwi] at h
  cases φi with
  | none =>
   obtain ⟨v,hq,h⟩ := h
   refine gStep_mono2 (J v _ h) fun u p hK => ?_
   unfold gStep
   rw [wanted_put oi a oj.dst u h3,if_pos hwi]
   refine ⟨v,(quietG_put hsi h3).2 hq,?_⟩
   rw [known_putF h3]
   exact hK
  | some φ =>
   obtain ⟨hc,h⟩ := h
   have hJ := fun v : {v : Value // φ.σ v} => J v.1 _ (h v.1 v.2)
   refine gStep_all ⟨φ.ne.choose,φ.ne.choose_spec⟩ hJ fun u p hK => ?_
   unfold gStep
   rw [wanted_put oi a oj.dst u h3,if_pos hwi]
   exact ⟨fun w hw2 hk => (makesAt_put hsi h3).2 (hc w hw2 (by rwa [known_putF h3] at hk)),fun v hv => hK ⟨v,hv⟩⟩
 ·rw [if_neg hwi] at h
  refine gStep_mono2 (J undef _ h) fun u p hK => ?_
  unfold gStep
  rw [wanted_put oi a oj.dst u h3,if_neg hwi]
  exact hK
def gAt (P : Program) (ops : Array Oper) (W : World) (Φ : Nat → Option GPost) (i : Nat) (K : Act → FactsT → Prop) (a : Act) (F : FactsT) : Prop :=
 match ops[i]? with
 | none => K a F
 | some o => gStep P ops W o (Φ i) K a F
def anyG (P : Program) (md : Region.Mode) (ops : Array Oper) (W : World) (Φ : Nat → Option GPost) (n : Nat) (L : Array Bool → Act → FactsT → Prop) : Nat → Array Bool → Act → FactsT → Prop
 | 0,done,a,F => L done a F
 | f + 1,done,a,F => ¬ Region.ready md ops done = [] ∧ ∀ i ∈ Region.ready md ops done,i < n ∧ gAt P ops W Φ i (anyG P md ops W Φ n L f (done.setIfInBounds i true)) a F
theorem stab_put {F : FactsT} (hF : ∀ k,Stab (F k)) {d : Option Tmp} {p : World → Prop} (hp : Stab p) (k : Tmp) : Stab (putF F d p k) := by
 unfold putF
 intro w w' hb h
 by_cases e : d = some k
 ·rw [if_pos e] at h ⊢
  exact hp w w' hb h
 ·rw [if_neg e] at h ⊢
  exact hF k w w' hb h
theorem stab_known {F : FactsT} (hF : ∀ k,Stab (F k)) (o : Oper) : Stab (known ops o F) := fun w w' hb h k hk => hF k w w' hb (h k hk)
theorem put_holds {F : FactsT} {d : Option Tmp} {p : World → Prop} {w : World} (hF : ∀ k,F k w) (hp : p w) (k : Tmp) : putF F d p k w := by
 unfold putF
 by_cases e : d = some k
 ·rw [if_pos e];exact hp
 ·rw [if_neg e];exact hF k
theorem wpOp_of_gAt {i : Nat} {K : Act → FactsT → Prop} {K' : Act → World → Prop} {Q : Exit → Act → World → Prop} {a : Act} {F : FactsT} {w : World} {D : List Tmp} (hD : ∀ o d,ops[i]? = some o → o.dst = some d → d ∈ D → ∃ φ,Φ i = some φ ∧ φ.fr = true) (hA : ApartD D a w) (hw : Below W.heap.size W w) (hs : ∀ k,Stab (F k)) (hF : ∀ k,F k w)
  (h : ∀ a' F' w',Below W.heap.size W w' → (∀ k,Stab (F' k)) → (∀ k,F' k w') → ApartD D a' w' → K a' F' → K' a' w') (hh : gAt P ops W Φ i K a F) : wpOp P ops Q i K' a w := by
 unfold gAt at hh
 unfold wpOp
 split
 ·rename_i ho
  rw [ho] at hh
  exact h _ _ _ hw hs hF hA hh
 ·rename_i o ho
  rw [ho] at hh
  simp only [gStep] at hh
  split
  ·rename_i hwn
   rw [if_pos hwn] at hh
   refine .inl ?_
   cases hφ : Φ i with
   | none =>
    rw [hφ] at hh
    obtain ⟨v,hq,hK⟩ := hh
    have h3 := hq w hw
    unfold Oper.wp
    have hk := h _ _ w hw (stab_put hs (stab_known hs o)) (put_holds hF (fun k _ => hF k)) (apart_keep hA (Nat.le_refl _) (fun d e1 e2 => by
     obtain ⟨φ,e3,-⟩ := hD o d ho e1 e2
     rw [hφ] at e3
     cases e3)) hK
    generalize (execOp a.eval o).run P w = r at *
    cases r with
    | ok n w' =>
     cases n <;> simp only [pureUpon] at h3 <;> simp only [Oper.upon]
     case value u =>
      obtain ⟨e1,e2⟩ := h3
      rw [e1,e2]
      exact hk
     case skip =>
      obtain ⟨e1,e2⟩ := h3
      rw [e1,← e2]
      exact hk
    | halt x w' => simp only [pureUpon] at h3
   | some φ =>
    rw [hφ] at hh
    rcases hh.1 w hw (fun k _ => hF k) with ⟨hfr,f,args,hrun,hc⟩ | ⟨v,w'',hrun,hb,hσ,hv,hown⟩
    ·unfold Oper.wp
     rw [hrun]
     simp only [Oper.upon]
     refine hc.mono ?_
     rintro e w'' ⟨v,rfl,hb,hσ,hv⟩
     exact h _ _ w'' (hw.trans (hb.mono hw.size)) (stab_put hs (φ.st v)) (put_holds (fun k => hs k w w'' hb (hF k)) hv) (apart_keep hA hb.size (fun d e1 e2 => by
      obtain ⟨φ',e3,e4⟩ := hD o d ho e1 e2
      rw [hφ] at e3
      injection e3 with e3
      subst e3
      rw [hfr] at e4
      cases e4)) (hh.2 v hσ)
    ·unfold Oper.wp
     rw [hrun]
     simp only [Oper.upon]
     refine h _ _ w'' (hw.trans (hb.mono hw.size)) (stab_put hs (φ.st v)) (put_holds (fun k => hs k w w'' hb (hF k)) hv) ?_ (hh.2 v hσ)
     cases hf : φ.fr with
     | true =>
      obtain ⟨b,h1,h2,h3⟩ := hown hf
      exact apart_own hA h1 h2 h3 hb.size
     | false =>
      refine apart_keep hA hb.size (fun d e1 e2 => ?_)
      obtain ⟨φ',e3,e4⟩ := hD o d ho e1 e2
      rw [hφ] at e3
      injection e3 with e3
      subst e3
      rw [hf] at e4
      cases e4
  ·rename_i hwn
   rw [if_neg hwn] at hh
   exact h _ _ w hw (stab_put hs (fun _ _ _ h => h)) (put_holds hF trivial) (apart_keep hA (Nat.le_refl _) (fun _ _ _ => rfl)) hh
theorem any_of_G {n g : Nat} {L : Array Bool → Act → FactsT → Prop} {Q : Exit → Act → World → Prop} {D : List Tmp} (hD : ∀ i o d,ops[i]? = some o → o.dst = some d → d ∈ D → ∃ φ,Φ i = some φ ∧ φ.fr = true) (hL : ∀ done a F w,Below W.heap.size W w → (∀ k,F k w) → ApartD D a w → L done a F → wpAny P md ops Q g done a w) (f : Nat) :
  ∀ (done : Array Bool) (a : Act) (F : FactsT) (w : World),ApartD D a w → Below W.heap.size W w → (∀ k,Stab (F k)) → (∀ k,F k w) → anyG P md ops W Φ n L f done a F → wpAny P md ops Q (f + g) done a w := by
 induction f with
 | zero => intro done a F w hA hw _ hF h;rw [Nat.zero_add];exact hL done a F w hw hF hA h
 | succ f ih =>
  intro done a F w hA hw hs hF h
  rw [Nat.succ_add]
  exact ⟨fun e => absurd e h.1,fun i hi => wpOp_of_gAt (hD i) hA hw hs hF (fun a' F' w' hw' hs' hF' hA' h' => ih _ a' F' w' hA' hw' hs' hF' h') (h.2 i hi).2⟩
theorem g_first {n i : Nat} {o : Oper} {L : Array Bool → Act → FactsT → Prop} (ho : ops[i]? = some o) (hin : i < n) (hn : n < ops.size) (hsel : ∀ (j : Nat) (o : Oper) cs b,ops[j]? = some o → o.op ≠ .select cs b)
  (hsink : Region.sinkB md ops n = true) (hchain : Region.chainB md ops n = true) (hL : ∀ done a F,L done a F → ∀ j ∈ Region.ready md ops done,n ≤ j) (f : Nat) :
  ∀ (done : Array Bool) (a : Act) (F : FactsT),HeadInv md ops n done → (∀ j oj,ops[j]? = some oj → j ≠ i → done.getD j true = false → (∀ e ∈ oj.after,Region.binds md e = true → e.on ≠ i) → o.apart ops oj = true) →
   i ∈ Region.ready md ops done → gStep P ops W o (Φ i) (anyG P md ops W Φ n L f (done.setIfInBounds i true)) a F → anyG P md ops W Φ n L (f + 1) done a F := by
 have hat : ∀ {K : Act → FactsT → Prop} {a : Act} {F : FactsT},gStep P ops W o (Φ i) K a F → gAt P ops W Φ i K a F := fun h => by
  unfold gAt
  rw [ho]
  exact h
 induction f with
 | zero =>
  intro done a F inv hap hr h
  have hun := (mem_ready.1 hr).1
  refine ⟨(fun e => by rw [e] at hr;cases hr),fun j hj => ?_⟩
  have hjn : j < n := Nat.lt_of_not_le fun hle => tail_waits hsink hchain hn inv (n - i) i rfl hin hun j hle hj
  refine ⟨hjn,?_⟩
  by_cases e : j = i
  ·rw [e];exact hat h
  ·obtain ⟨a',F',h'⟩ := gStep_some h
   have := hL _ _ _ h' j (ready_mono hj e)
   omega
 | succ f ih =>
  intro done a F inv hap hr h
  have hun := (mem_ready.1 hr).1
  refine ⟨(fun e => by rw [e] at hr;cases hr),fun j hj => ?_⟩
  have hjn : j < n := Nat.lt_of_not_le fun hle => tail_waits hsink hchain hn inv (n - i) i rfl hin hun j hle hj
  refine ⟨hjn,?_⟩
  by_cases e : j = i
  ·rw [e];exact hat h
  ·obtain ⟨hju,oj,hoj,hall⟩ := mem_ready.1 hj
   have hno : ∀ x ∈ oj.after,Region.binds md x = true → x.on ≠ i := fun x hx hb he => by
    have h0 := hall x hx hb
    rw [he,getD_both hun] at h0
    cases h0
   have h2 : gStep P ops W o (Φ i) (fun a F => gStep P ops W oj (Φ j) (anyG P md ops W Φ n L f ((done.setIfInBounds i true).setIfInBounds j true)) a F) a F := gStep_mono (fun a' F' h' => by
    have h3 := (h'.2 j (ready_mono hj e)).2
    unfold gAt at h3
    rw [hoj] at h3
    exact h3) h
   have h4 := step_comm (hap j oj hoj e hju hno) (fun cs b => hsel i o cs b ho) (fun cs b => hsel j oj cs b hoj) h2
   have h5 : gStep P ops W oj (Φ j) (anyG P md ops W Φ n L (f + 1) (done.setIfInBounds j true)) a F := gStep_mono (fun a' F' h' => by
    refine ih _ a' F' (inv.set hj hjn) (fun k ok hk hki hku hkn => ?_) (ready_mono hr (Ne.symm e)) ?_
    ·refine hap k ok hk hki ?_ hkn
     by_cases hjk : j = k
     ·rw [← hjk];exact hju
     ·rwa [getD_set_ne true hjk] at hku
    ·rw [Array.setIfInBounds_comm _ _ e]
     exact h') h4
   unfold gAt
   rw [hoj]
   exact h5
def wpG (P : Program) (ops : Array Oper) (W : World) (Φ : Nat → Option GPost) (K : Act → FactsT → Prop) : Nat → List Oper → Act → FactsT → Prop
 | _,[],a,F => K a F
 | k,o :: r,a,F => gStep P ops W o (Φ k) (wpG P ops W Φ K (k + 1) r) a F
theorem g_lex {n g : Nat} {K : Act → FactsT → Prop} (hn : n < ops.size) (hsel : Region.noSelect ops = true) (hsink : Region.sinkB md ops n = true) (hchain : Region.chainB md ops n = true) (l : List Oper) :
  ∀ (k : Nat) (done : Array Bool) (a : Act) (F : FactsT),k + l.length = n → (∀ j,j < l.length → l[j]? = ops[k + j]?) → HeadInv md ops n done → Region.lexHead md ops g l.length k done = true → wpG P ops W Φ K k l a F →
   anyG P md ops W Φ n (fun done' a' F' => Region.seqB md ops g n done' = true ∧ K a' F') l.length done a F := by
 induction l with
 | nil =>
  intro k done a F hk _ _ hB h
  obtain rfl : k = n := by simpa using hk
  exact ⟨by simpa [Region.lexHead] using hB,h⟩
 | cons o l ih =>
  intro k done a F hk hl inv hB h
  have ho : ops[k]? = some o := by simpa using (hl 0 (by simp)).symm
  rw [List.length_cons] at hk hB
  simp only [Region.lexHead,Bool.and_eq_true] at hB
  obtain ⟨⟨h1,h2⟩,h3⟩ := hB
  have hr : k ∈ Region.ready md ops done := by simpa using h1
  have hkn : k < n := by omega
  refine g_first ho hkn hn (Region.noSelect_spec hsel) hsink hchain (fun _ _ _ hL => seqB_ready hL.1) l.length done a F inv (Region.free_spec ho h2) hr ?_
  refine gStep_mono (fun a' F' h' => ?_) h
  refine ih (k + 1) _ _ _ (by omega) (fun j hj => ?_) (inv.set hr hkn) h3 h'
  have := hl (j + 1) (by rw [List.length_cons];omega)
  rw [List.getElem?_cons_succ] at this
  rw [this,show k + (j + 1) = k + 1 + j by omega]
def ownB (ops : List Oper) (Φ : Nat → Option GPost) (D : List Tmp) : Bool := (List.range ops.length).all fun k => match ops[k]? with
 | some o => match o.dst with
  | some d => !(D.contains d) || (match Φ k with | some φ => φ.fr | none => false)
  | none => true
 | none => true
theorem ownB_spec {l : List Oper} {D : List Tmp} (h : ownB l Φ D = true) : ∀ i o d,l.toArray[i]? = some o → o.dst = some d → d ∈ D → ∃ φ,Φ i = some φ ∧ φ.fr = true := fun i o d ho hd hm => by
 have hi : i < l.length := by
  rcases Nat.lt_or_ge i l.length with h | h
  ·exact h
  ·rw [List.getElem?_toArray,List.getElem?_eq_none h] at ho
   cases ho
 have h1 := List.all_eq_true.1 h i (List.mem_range.2 hi)
 rw [List.getElem?_toArray] at ho
 simp only [ho,hd] at h1
 have h2 : D.contains d = true := by simpa using hm
 rw [h2] at h1
 cases hφ : Φ i with
 | none => rw [hφ] at h1;cases h1
 | some φ => rw [hφ] at h1;exact ⟨φ,rfl,by simpa using h1⟩
theorem wp_region_apart {id : Nat} {Q : Exit → Act → World → Prop} {a : Act} {w : World} {l : List Oper} (n : Nat) (Φ : Nat → Option GPost) (D : List Tmp) (hm : P.follows .mixedOrders = true) (hB : Region.lexTailB .any l.toArray n = true) (hD : ownB l Φ D = true) (h0 : ∀ d ∈ D,blkOf (a.eval (.tmp d)) = none)
  (h : wpG P l.toArray w Φ (fun a' F' => ∀ w',Below w.heap.size w w' → (∀ k,F' k w') → ApartD D a' w' → wpList P l.toArray Q (l.drop n) a' w') 0 (l.take n) a fun _ _ => True) : (Code.region id l.toArray true).wp P Q a w := by
 simp only [Region.lexTailB,Bool.and_eq_true,decide_eq_true_eq] at hB
 obtain ⟨⟨⟨⟨hsel,hn⟩,hsink⟩,hchain⟩,hlex⟩ := hB
 have hnl : n < l.length := by simpa using hn
 have htl : (l.take n).length = n := by rw [List.length_take];omega
 have hdl : (l.drop n).length = l.toArray.size - n := by simp
 have inv0 : HeadInv .any l.toArray n (Array.replicate l.toArray.size false) := by
  refine ⟨by simp,fun j oj _ hj => ?_,fun t _ ht => getD_in (by simpa using ht) (getD_replicate_false _ _)⟩
  rw [getD_replicate_false] at hj
  cases hj
 have H := g_lex (md := .any) (g := l.toArray.size - n) hn hsel hsink hchain (l.take n) 0 _ a _ (by omega) (fun j hj => by
  rw [htl] at hj
  simp [hj]) inv0 (by rw [htl];exact hlex) h
 refine wp_region_any hm ?_
 have H2 := any_of_G (Q := Q) (g := l.toArray.size - n) (D := D) (ownB_spec hD) (fun done a' F' w' hw' hF' hA' hL => by
  have h1 := wpAny_of_seq (md := .any) (Q' := Q) (l.drop n) n done a' w' (fun j => by simp [List.getElem?_drop]) (by rw [hdl];exact hL.1) (hL.2 w' hw' hF' hA')
  rwa [hdl] at h1) _ _ a _ _ (fun d hd b hb => by rw [h0 d hd] at hb;cases hb) ((Below.refl _ _).drew) (fun _ _ _ _ h => h) (fun _ => trivial) H
 rw [htl,show n + (l.toArray.size - n) = l.toArray.size by omega] at H2
 exact H2
theorem wpG_mono {K K' : Act → FactsT → Prop} (hK : ∀ a F,K a F → K' a F) : ∀ (l : List Oper) (k : Nat) (a : Act) (F : FactsT),wpG P ops W Φ K k l a F → wpG P ops W Φ K' k l a F
 | [],_,a,F,h => hK a F h
 | _ :: r,k,_,_,h => gStep_mono (fun a' F' h' => wpG_mono hK r (k + 1) a' F' h') h
theorem ownB_nil (l : List Oper) : ownB l Φ [] = true := by
 unfold ownB
 rw [List.all_eq_true]
 intro k _
 cases l[k]? with
 | none => rfl
 | some o =>
  dsimp only
  cases h : o.dst <;> rfl
theorem wp_region_grow {id : Nat} {Q : Exit → Act → World → Prop} {a : Act} {w : World} {l : List Oper} (n : Nat) (Φ : Nat → Option GPost) (hm : P.follows .mixedOrders = true) (hB : Region.lexTailB .any l.toArray n = true)
  (h : wpG P l.toArray w Φ (fun a' F' => ∀ w',Below w.heap.size w w' → (∀ k,F' k w') → wpList P l.toArray Q (l.drop n) a' w') 0 (l.take n) a fun _ _ => True) : (Code.region id l.toArray true).wp P Q a w :=
 wp_region_apart n Φ [] hm hB (ownB_nil l) (fun d hd => by cases hd) (wpG_mono (fun a' F' h' w' h1 h2 _ => h' w' h1 h2) _ _ _ _ h)
def factsTo (ops : Array Oper) : List Oper → FactsT → FactsT
 | [],F => F
 | o :: r,F => factsTo ops r (putF F o.dst (known ops o F))
theorem wpG_quiet {K : Act → FactsT → Prop} (m : Nat) {k : Nat} {l : List Oper} {a : Act} {F : FactsT} (hs : (l.take m).all (fun o => stillB o && o.guard.isNone) = true) (hΦ : ((List.range m).all fun j => (Φ (k + j)).isNone) = true) (hm : m ≤ l.length)
  (h : wpQuiet P ops (fun w' => ∃ x : HeldB W,w' = x.w) (fun a' => wpG P ops W Φ K (k + m) (l.drop m) a' (factsTo ops (l.take m) F)) (l.take m) a) : wpG P ops W Φ K k l a F := by
 induction m generalizing k l a F with
 | zero => simpa [wpQuiet,factsTo] using h
 | succ m ih =>
  cases l with
  | nil => simp at hm
  | cons o r =>
   simp only [List.take_succ_cons,List.all_cons,Bool.and_eq_true] at hs
   obtain ⟨⟨hso,hgo⟩,hs⟩ := hs
   have hw : Region.wanted o (yielded ops a.tmps) = true := by
    unfold Region.wanted
    rw [Option.isNone_iff_eq_none] at hgo
    rw [hgo]
   have hk0 : Φ k = none := by
    rw [List.all_eq_true] at hΦ
    have := hΦ 0 (List.mem_range.2 (by omega))
    simpa using this
   simp only [List.take_succ_cons,List.drop_succ_cons,wpQuiet] at h
   rw [if_pos hw] at h
   obtain ⟨v,hq,h⟩ := h
   show gStep P ops W o (Φ k) _ a F
   unfold gStep
   rw [if_pos hw,hk0]
   refine ⟨v,quietG_of (fun w hw => ⟨⟨w,hw⟩,rfl⟩) hso hq,?_⟩
   refine ih hs ?_ (by simpa using hm) ?_
   ·rw [List.all_eq_true] at hΦ ⊢
    intro j hj
    have := hΦ (j + 1) (List.mem_range.2 (by have := List.mem_range.1 hj;omega))
    rwa [show k + (j + 1) = k + 1 + j by omega] at this
   ·rw [show k + 1 + m = k + (m + 1) by omega]
    exact h
theorem wpG_call {K : Act → FactsT → Prop} {k : Nat} {o : Oper} {r : List Oper} {a : Act} {F : FactsT} {φ : GPost} (hg : o.guard = none) (hφ : Φ k = some φ)
  (h : ∀ w,Below W.heap.size W w → known ops o F w → callsAt P o a φ w) (hK : ∀ v,φ.σ v → wpG P ops W Φ K (k + 1) r (a.put o.dst v) (putF F o.dst (φ.φ v))) (hfr : φ.fr = false := by rfl) : wpG P ops W Φ K k (o :: r) a F := by
 show gStep P ops W o (Φ k) _ a F
 have hw : Region.wanted o (yielded ops a.tmps) = true := by
  unfold Region.wanted
  rw [hg]
 unfold gStep
 rw [if_pos hw,hφ]
 exact ⟨fun w h1 h2 => .inl ⟨hfr,h w h1 h2⟩,hK⟩
theorem wpG_new {K : Act → FactsT → Prop} {k : Nat} {o : Oper} {r : List Oper} {a : Act} {F : FactsT} {φ : GPost} (hg : o.guard = none) (hφ : Φ k = some φ)
  (h : ∀ w,Below W.heap.size W w → known ops o F w → newAt P o a φ w) (hK : ∀ v,φ.σ v → wpG P ops W Φ K (k + 1) r (a.put o.dst v) (putF F o.dst (φ.φ v))) : wpG P ops W Φ K k (o :: r) a F := by
 show gStep P ops W o (Φ k) _ a F
 have hw : Region.wanted o (yielded ops a.tmps) = true := by
  unfold Region.wanted
  rw [hg]
 unfold gStep
 rw [if_pos hw,hφ]
 exact ⟨fun w h1 h2 => .inr (h w h1 h2),hK⟩
theorem wpG_nil {K : Act → FactsT → Prop} {k : Nat} {a : Act} {F : FactsT} (h : K a F) : wpG P ops W Φ K k [] a F := h
end
end Go.Proofs.YtknkhnahflmjiaaGreatDoor

namespace Go.Proofs.YtknkhnahflmjiaaGreatDoor
def fits (q : Rat) (K : Nat) : Prop := q.num.natAbs < 4294967296 ^ K ∧ q.den < 4294967296 ^ K
theorem fits_mono {q : Rat} {K M : Nat} (h : fits q K) (hM : K ≤ M) : fits q M := by
 have h3 : 4294967296 ^ K ≤ 4294967296 ^ M := Nat.pow_le_pow_right (by decide) hM
 exact ⟨Nat.lt_of_lt_of_le h.1 h3,Nat.lt_of_lt_of_le h.2 h3⟩
theorem fits_low {n d : Int} {K : Nat} (hd : d ≠ 0) (h1 : n.natAbs < 4294967296 ^ K) (h2 : d.natAbs < 4294967296 ^ K) : fits (Rat.divInt n d) K := by
 obtain ⟨e1,e2⟩ := low_num (n := n) hd
 exact ⟨by rw [e1];exact Nat.lt_of_le_of_lt (Nat.div_le_self _ _) h1,by rw [e2];exact Nat.lt_of_le_of_lt (Nat.div_le_self _ _) h2⟩
theorem mul_lt_pow {a b K M : Nat} (ha : a < 4294967296 ^ K) (hb : b < 4294967296 ^ M) : a * b < 4294967296 ^ (K + M) := by
 rw [Nat.pow_add]
 exact Nat.mul_lt_mul'' ha hb
theorem den_ne (q : Rat) : ((q.den : Nat) : Int) ≠ 0 := by have := q.den_nz;omega
theorem fits_add {a b : Rat} {K M : Nat} (ha : fits a K) (hb : fits b M) : fits (a + b) (K + M + 1) := by
 have hd : ((a.den * b.den : Nat) : Int) ≠ 0 := by have := Nat.mul_ne_zero a.den_nz b.den_nz;omega
 have h0 := pow_pos' (K + M)
 rw [rat_add]
 refine fits_low hd ?_ ?_
 ·have h1 : (a.num * b.den + b.num * a.den).natAbs ≤ a.num.natAbs * b.den + b.num.natAbs * a.den := by
   refine Nat.le_trans (Int.natAbs_add_le _ _) ?_
   rw [Int.natAbs_mul,Int.natAbs_mul,Int.natAbs_natCast,Int.natAbs_natCast]
   exact Nat.le_refl _
  have h2 := mul_lt_pow ha.1 hb.2
  have h3 := mul_lt_pow hb.1 ha.2
  rw [Nat.add_comm M K] at h3
  rw [Nat.pow_succ]
  omega
 ·rw [Int.natAbs_natCast]
  have h2 := mul_lt_pow ha.2 hb.2
  rw [Nat.pow_succ]
  omega
theorem fits_neg {a : Rat} {K : Nat} (ha : fits a K) : fits (-a) K := ⟨by rw [Rat.neg_num,Int.natAbs_neg];exact ha.1,ha.2⟩
theorem fits_sub {a b : Rat} {K M : Nat} (ha : fits a K) (hb : fits b M) : fits (a - b) (K + M + 1) := by rw [Rat.sub_eq_add_neg];exact fits_add ha (fits_neg hb)
theorem fits_mul {a b : Rat} {K M : Nat} (ha : fits a K) (hb : fits b M) : fits (a * b) (K + M) := by
 rw [rat_mul]
 refine fits_low (by have := Nat.mul_ne_zero a.den_nz b.den_nz;omega) ?_ ?_
 ·rw [Int.natAbs_mul];exact mul_lt_pow ha.1 hb.1
 ·rw [Int.natAbs_natCast];exact mul_lt_pow ha.2 hb.2
theorem fits_div {a b : Rat} {K M : Nat} (hz : b.num ≠ 0) (ha : fits a K) (hb : fits b M) : fits (a / b) (K + M) := by
 rw [rat_div]
 refine fits_low (Int.mul_ne_zero (den_ne a) hz) ?_ ?_
 ·rw [Int.natAbs_mul,Int.natAbs_natCast];exact mul_lt_pow ha.1 hb.2
 ·rw [Int.natAbs_mul,Int.natAbs_natCast];exact mul_lt_pow ha.2 hb.1
theorem fits_int {n : Int} {K : Nat} (h : n.natAbs < 4294967296 ^ K) (hK : 1 ≤ K) : fits (n : Rat) K := by
 refine ⟨by rw [Rat.num_intCast];exact h,?_⟩
 rw [Rat.den_intCast]
 have : 4294967296 ^ 1 ≤ 4294967296 ^ K := Nat.pow_le_pow_right (by decide) hK
 omega
structure LoadT where
 pos : Int
 wt : Int
structure BeamT where
 name : ByteArray
 len : Int
 sup : List Int
 loads : List LoadT
 even : Int
def prodZ (l : List Int) : Int := l.foldl (· * ·) 1
def prodR (b : Int) (l : List Int) : Rat := Rat.divInt (prodZ l) b
def supAt (b : BeamT) (i : Nat) : Int := b.sup.getD i 0
def overLoads (b : BeamT) (f : LoadT → Option Rat) (s : Rat) (k : Nat) : Rat := (b.loads.take k).foldl (fun s x => match f x with | some y => s + y | none => s) s
theorem overLoads_succ {b : BeamT} {f : LoadT → Option Rat} {s : Rat} {k : Nat} (hk : k < b.loads.length) : overLoads b f s (k + 1) = match f b.loads[k] with | some y => overLoads b f s k + y | none => overLoads b f s k := by
 unfold overLoads
 rw [List.take_succ_eq_append_getElem hk,List.foldl_append]
 rfl
theorem fits_over {b : BeamT} {f : LoadT → Option Rat} {s : Rat} {K M : Nat} (hs : fits s K) (hf : ∀ x ∈ b.loads,∀ y,f x = some y → fits y M) : ∀ k,k ≤ b.loads.length → fits (overLoads b f s k) (K + k * (M + 1))
 | 0,_ => by rw [Nat.zero_mul];exact hs
 | k + 1,hk => by
  have ih := fits_over hs hf k (by omega)
  rw [overLoads_succ (by omega)]
  have e : K + (k + 1) * (M + 1) = K + k * (M + 1) + M + 1 := by rw [Nat.add_mul];omega
  rw [e]
  split
  ·rename_i y hy
   exact fits_add ih (hf _ (List.getElem_mem (by omega)) y hy)
  ·exact fits_mono ih (by omega)
def turnedT (b : BeamT) : BeamT := ⟨b.name,b.len,b.sup.reverse.map (b.len - ·),b.loads.map fun x => ⟨b.len - x.pos,x.wt⟩,b.even⟩
def hangF (a : Int) (x : LoadT) : Option Rat := if x.pos < a then some (prodR 1 [x.wt,a - x.pos]) else none
def hangTo (b : BeamT) (k : Nat) : Rat := overLoads b (hangF (supAt b 0)) (prodR 2000 [b.even,supAt b 0,supAt b 0]) k
def hangR (b : BeamT) : Rat := ((0 : Int) : Rat) - hangTo b b.loads.length
def sideF (lo hi : Int) (left : Bool) (x : LoadT) : Option Rat :=
 if x.pos ≤ lo ∨ hi ≤ x.pos then none else
  some (prodR (hi - lo) [x.wt,if left then x.pos - lo else hi - x.pos,(hi - lo) * (hi - lo) - (if left then x.pos - lo else hi - x.pos) * (if left then x.pos - lo else hi - x.pos)])
def sideTo (b : BeamT) (lo hi : Int) (left : Bool) (k : Nat) : Rat := overLoads b (sideF lo hi left) (prodR 4000 [b.even,hi - lo,hi - lo,hi - lo]) k
def sideR (b : BeamT) (lo hi : Int) (left : Bool) : Rat := sideTo b lo hi left b.loads.length
def spanK (b : BeamT) (i : Nat) : Int := supAt b i - supAt b (i - 1)
def diagR (b : BeamT) : Nat → Rat
 | 0 => 0
 | 1 => ((2 * (spanK b 1 + spanK b 2) : Int) : Rat)
 | i + 2 => ((2 * (spanK b (i + 2) + spanK b (i + 3)) : Int) : Rat) - ((spanK b (i + 2) : Int) : Rat) / diagR b (i + 1) * ((spanK b (i + 2) : Int) : Rat)
def rhs0 (b : BeamT) (i : Nat) : Rat := ((0 : Int) : Rat) - sideR b (supAt b (i - 1)) (supAt b i) true - sideR b (supAt b i) (supAt b (i + 1)) false
def rhsR (b : BeamT) : Nat → Rat
 | 0 => 0
 | 1 => rhs0 b 1 - hangR b * ((spanK b 1 : Int) : Rat)
 | i + 2 => rhs0 b (i + 2) - ((spanK b (i + 2) : Int) : Rat) / diagR b (i + 1) * rhsR b (i + 1)
def backR (b : BeamT) : Nat → Rat
 | 0 => hangR (turnedT b)
 | j + 1 => (rhsR b (b.sup.length - 2 - j) - backR b j * ((spanK b (b.sup.length - 1 - j) : Int) : Rat)) / diagR b (b.sup.length - 2 - j)
def momAt (b : BeamT) (i : Nat) : Rat := if i = 0 then hangR b else backR b (b.sup.length - 1 - i)
def leverF (lo hi : Int) (left : Bool) (x : LoadT) : Option Rat := if x.pos ≤ lo ∨ hi ≤ x.pos then none else some (prodR (hi - lo) [x.wt,if left then hi - x.pos else x.pos - lo])
def leverTo (b : BeamT) (lo hi : Int) (left : Bool) (k : Nat) : Rat := overLoads b (leverF lo hi left) (prodR 2000 [b.even,hi - lo]) k
def leverR (b : BeamT) (lo hi : Int) (left : Bool) : Rat := leverTo b lo hi left b.loads.length
def beyondF (a : Int) (x : LoadT) : Option Rat := if x.pos < a then some ((x.wt : Int) : Rat) else none
def beyondTo (b : BeamT) (a : Int) (k : Nat) : Rat := overLoads b (beyondF a) (prodR 1000 [b.even,a]) k
def beyondR (b : BeamT) (a : Int) : Rat := beyondTo b a b.loads.length
def hereF (a : Int) (x : LoadT) : Option Rat := if x.pos = a then some ((x.wt : Int) : Rat) else none
def hereTo (b : BeamT) (a : Int) (k : Nat) : Rat := overLoads b (hereF a) ((0 : Int) : Rat) k
def react1 (b : BeamT) (i : Nat) : Rat := hereTo b (supAt b i) b.loads.length
def react2 (b : BeamT) (i : Nat) : Rat := if 0 < i then react1 b i + leverR b (supAt b (i - 1)) (supAt b i) false + (momAt b (i - 1) - momAt b i) / ((spanK b i : Int) : Rat) else react1 b i
def react3 (b : BeamT) (i : Nat) : Rat := if i + 1 < b.sup.length then react2 b i + leverR b (supAt b i) (supAt b (i + 1)) true + (momAt b (i + 1) - momAt b i) / ((spanK b (i + 1) : Int) : Rat) else react2 b i
def react4 (b : BeamT) (i : Nat) : Rat := if i = 0 then react3 b i + beyondR b (supAt b i) else react3 b i
def reactR (b : BeamT) (i : Nat) : Rat := if i + 1 = b.sup.length then react4 b i + beyondR (turnedT b) (b.len - supAt b i) else react4 b i
def reactL (b : BeamT) : List Rat := (List.range b.sup.length).map (reactR b)
def momL (b : BeamT) : List Rat := (List.range b.sup.length).map (momAt b)
example : reactL ⟨⟨#[]⟩,1000,[0,1000],[⟨500,10⟩],0⟩ = [5,5] := by decide +kernel
example : reactL ⟨⟨#[]⟩,4000,[0,4000],[⟨1000,600⟩],500⟩ = [1450,1150] := by decide +kernel
end Go.Proofs.YtknkhnahflmjiaaGreatDoor

namespace Go.Proofs.YtknkhnahflmjiaaGreatDoor
structure BeamOk (b : BeamT) : Prop where
 len : 1 ≤ b.len ∧ b.len ≤ 1048576
 even : 0 ≤ b.even ∧ b.even ≤ 1048576
 sup1 : 1 ≤ b.sup.length ∧ b.sup.length ≤ 10
 sup : ∀ i,i < b.sup.length → 0 ≤ supAt b i ∧ supAt b i ≤ b.len
 inc : ∀ i,i + 1 < b.sup.length → supAt b i < supAt b (i + 1)
 loads1 : b.loads.length ≤ 40
 loads : ∀ x ∈ b.loads,0 ≤ x.pos ∧ x.pos ≤ b.len ∧ 0 ≤ x.wt ∧ x.wt ≤ 67108864
theorem rat_step (k n : Rat) (x : Rat) (hk : 1 ≤ k) (hn : 1 ≤ n) (hx : k ≤ x) : n ≤ 2 * (k + n) - k / x * k := by
 have hx0 : (0 : Rat) < x := by grind
 have h1 : k / x ≤ 1 := Rat.not_lt.1 fun h => by rw [Rat.lt_div_iff hx0] at h;grind
 have h2 : k / x * k ≤ 1 * k := Rat.mul_le_mul_of_nonneg_right h1 (by grind)
 grind
section
variable {b : BeamT}
theorem span_ge (h : BeamOk b) {i : Nat} (h0 : 1 ≤ i) (hi : i < b.sup.length) : 1 ≤ spanK b i ∧ spanK b i ≤ 1048576 := by
 have h1 := h.inc (i - 1) (by omega)
 rw [show i - 1 + 1 = i by omega] at h1
 have h2 := h.sup i hi
 have h3 := h.sup (i - 1) (by omega)
 have h4 := h.len
 unfold spanK
 omega
theorem cast_ge {k : Int} (h : 1 ≤ k) : (1 : Rat) ≤ ((k : Int) : Rat) := by
 have := Rat.intCast_le_intCast.2 h
 simpa using this
theorem diag_ge (h : BeamOk b) : ∀ i,1 ≤ i → i + 1 < b.sup.length → ((spanK b (i + 1) : Int) : Rat) ≤ diagR b i
 | 0,h0,_ => by omega
 | 1,_,hi => by
  have h1 := cast_ge (span_ge h (i := 1) (by omega) (by omega)).1
  have h2 := cast_ge (span_ge h (i := 2) (by omega) (by omega)).1
  show _ ≤ (((2 * (spanK b 1 + spanK b 2) : Int)) : Rat)
  rw [Rat.intCast_mul,Rat.intCast_add]
  simp only [Rat.intCast_ofNat]
  grind
 | i + 2,_,hi => by
  have ih := diag_ge h (i + 1) (by omega) (by omega)
  have h1 := cast_ge (span_ge h (i := i + 2) (by omega) (by omega)).1
  have h2 := cast_ge (span_ge h (i := i + 3) (by omega) (by omega)).1
  have h3 := rat_step _ _ _ h1 h2 ih
  show _ ≤ (((2 * (spanK b (i + 2) + spanK b (i + 3)) : Int)) : Rat) - _
  rw [Rat.intCast_mul,Rat.intCast_add]
  simp only [Rat.intCast_ofNat]
  exact h3
theorem diag_ne (h : BeamOk b) {i : Nat} (h0 : 1 ≤ i) (hi : i + 1 < b.sup.length) : (diagR b i).num ≠ 0 := by
 have h1 := diag_ge h i h0 hi
 have h2 := cast_ge (span_ge h (i := i + 1) (by omega) (by omega)).1
 intro e
 have : diagR b i = 0 := Rat.num_eq_zero.1 e
 rw [this] at h1
 grind
theorem prodZ_two (x y : Int) : prodZ [x,y] = x * y := by simp [prodZ]
theorem prodZ_three (x y z : Int) : prodZ [x,y,z] = x * y * z := by simp [prodZ]
theorem prodZ_four (x y z u : Int) : prodZ [x,y,z,u] = x * y * z * u := by simp [prodZ]
theorem abs_mul {x y : Int} {K M : Nat} (hx : x.natAbs < 4294967296 ^ K) (hy : y.natAbs < 4294967296 ^ M) : (x * y).natAbs < 4294967296 ^ (K + M) := by rw [Int.natAbs_mul];exact mul_lt_pow hx hy
theorem one_word {x : Int} (h : x.natAbs < 4294967296) : x.natAbs < 4294967296 ^ 1 := h
theorem fits2 {d x y : Int} (hd : d ≠ 0) (h0 : d.natAbs < 4294967296) (hx : x.natAbs < 4294967296) (hy : y.natAbs < 4294967296) : fits (prodR d [x, y]) 5 := by
  refine fits_mono (K := 2) (fits_low hd ?_ (by have : (4294967296 : Nat) ^ 2 = 18446744073709551616 := by decide
                                                omega)) (by decide)
  rw [prodZ_two]
  exact abs_mul (one_word hx) (one_word hy)
theorem fits3 {d x y z : Int} (hd : d ≠ 0) (h0 : d.natAbs < 4294967296) (hx : x.natAbs < 4294967296) (hy : y.natAbs < 4294967296) (hz : z.natAbs < 4294967296 ^ 2) : fits (prodR d [x, y, z]) 5 := by
  refine fits_mono (K := 4) (fits_low hd ?_ (by have : (4294967296 : Nat) ^ 4 = 340282366920938463463374607431768211456 := by decide
                                                omega)) (by decide)
  rw [prodZ_three]
  exact abs_mul (abs_mul (one_word hx) (one_word hy)) hz
theorem fits4 {d x y z u : Int} (hd : d ≠ 0) (h0 : d.natAbs < 4294967296) (hx : x.natAbs < 4294967296) (hy : y.natAbs < 4294967296) (hz : z.natAbs < 4294967296) (hu : u.natAbs < 4294967296) : fits (prodR d [x, y, z, u]) 5 := by
  refine fits_mono (K := 4) (fits_low hd ?_ (by have : (4294967296 : Nat) ^ 4 = 340282366920938463463374607431768211456 := by decide
                                                omega)) (by decide)
  rw [prodZ_four]
  exact abs_mul (abs_mul (abs_mul (one_word hx) (one_word hy)) (one_word hz)) (one_word hu)
theorem fits_loads {f : LoadT → Option Rat} {s : Rat} (h : BeamOk b) (hs : fits s 5) (hf : ∀ x ∈ b.loads,∀ y,f x = some y → fits y 5) {k : Nat} (hk : k ≤ b.loads.length) : fits (overLoads b f s k) 245 := by
 have h1 := h.loads1
 exact fits_mono (fits_over hs hf k hk) (by omega)
theorem hang_fits (h : BeamOk b) {k : Nat} (hk : k ≤ b.loads.length) : fits (hangTo b k) 245 := by
 have h1 := h.even
 have h2 := h.sup 0 h.sup1.1
 have h3 := h.len
 refine fits_loads h (fits3 (by decide) (by decide) (by omega) (by omega) ?_) (fun x hx y hy => ?_) hk
 ·have : (4294967296 : Nat) ^ 2 = 18446744073709551616 := by decide
  omega
 ·have h4 := h.loads x hx
  unfold hangF at hy
  split at hy
  ·injection hy with hy
   subst hy
   exact fits2 (by decide) (by decide) (by omega) (by omega)
  ·cases hy
theorem hangR_fits (h : BeamOk b) : fits (hangR b) 247 := fits_mono (fits_sub (K := 1) (fits_int (by decide) (Nat.le_refl _)) (hang_fits h (Nat.le_refl _))) (by decide)
theorem sq_abs {l a : Int} (h0 : 0 ≤ a) (h1 : a ≤ l) (h2 : l ≤ 1048576) : (l * l - a * a).natAbs < 4294967296 ^ 2 := by
 have e : (4294967296 : Nat) ^ 2 = 18446744073709551616 := by decide
 have h3 : a * a ≤ l * l := Int.mul_le_mul h1 h1 h0 (by omega)
 have h4 : l * l ≤ 1048576 * 1048576 := Int.mul_le_mul h2 h2 (by omega) (by decide)
 have h5 := Int.mul_nonneg h0 h0
 omega
theorem side_fits (h : BeamOk b) {lo hi : Int} (h0 : 0 ≤ lo) (h1 : lo < hi) (h2 : hi ≤ b.len) (left : Bool) {k : Nat} (hk : k ≤ b.loads.length) : fits (sideTo b lo hi left k) 245 := by
 have h3 := h.even
 have h4 := h.len
 refine fits_loads h (fits4 (by decide) (by decide) (by omega) (by omega) (by omega) (by omega)) (fun x hx y hy => ?_) hk
 have h5 := h.loads x hx
 unfold sideF at hy
 split at hy
 ·cases hy
 ·rename_i hno
  injection hy with hy
  subst hy
  cases left with
  | true => exact fits3 (by omega) (by omega) (by omega) (by show (x.pos - lo).natAbs < _;omega) (sq_abs (by show 0 ≤ x.pos - lo;omega) (by show x.pos - lo ≤ _;omega) (by omega))
  | false => exact fits3 (by omega) (by omega) (by omega) (by show (hi - x.pos).natAbs < _;omega) (sq_abs (by show 0 ≤ hi - x.pos;omega) (by show hi - x.pos ≤ _;omega) (by omega))
theorem sideR_fits (h : BeamOk b) {i : Nat} (hi : i + 1 < b.sup.length) (left : Bool) : fits (sideR b (supAt b i) (supAt b (i + 1)) left) 245 := by
 have h1 := h.sup i (by omega)
 have h2 := h.sup (i + 1) hi
 exact side_fits h h1.1 (h.inc i hi) h2.2 left (Nat.le_refl _)
theorem rhs0_fits (h : BeamOk b) {i : Nat} (h0 : 1 ≤ i) (hi : i + 1 < b.sup.length) : fits (rhs0 b i) 493 := by
 have h1 := sideR_fits h (i := i - 1) (by omega) true
 rw [show i - 1 + 1 = i by omega] at h1
 exact fits_mono (fits_sub (fits_sub (K := 1) (fits_int (by decide) (Nat.le_refl _)) h1) (sideR_fits h hi false)) (by decide)
theorem span_fits (h : BeamOk b) {i : Nat} (h0 : 1 ≤ i) (hi : i < b.sup.length) : fits ((spanK b i : Int) : Rat) 1 := by
 have h1 := span_ge h h0 hi
 refine fits_int ?_ (Nat.le_refl _)
 rw [Nat.pow_one]
 omega
theorem two_fits (h : BeamOk b) {i : Nat} (h0 : 1 ≤ i) (hi : i + 1 < b.sup.length) : fits ((2 * (spanK b i + spanK b (i + 1)) : Int) : Rat) 1 := by
 have h1 := span_ge h h0 (by omega)
 have h2 := span_ge h (i := i + 1) (by omega) hi
 refine fits_int ?_ (Nat.le_refl _)
 rw [Nat.pow_one]
 omega
theorem diag_fits (h : BeamOk b) : ∀ i,1 ≤ i → i + 1 < b.sup.length → fits (diagR b i) (1 + 4 * i)
 | 0,h0,_ => by omega
 | 1,_,hi => fits_mono (two_fits h (i := 1) (Nat.le_refl _) hi) (by decide)
 | i + 2,_,hi => by
  have ih := diag_fits h (i + 1) (by omega) (by omega)
  have hz := diag_ne h (i := i + 1) (by omega) (by omega)
  have h1 := span_fits h (i := i + 2) (by omega) (by omega)
  exact fits_mono (fits_sub (two_fits h (i := i + 2) (by omega) hi) (fits_mul (fits_div hz h1 ih) h1)) (by omega)
theorem ratio_fits (h : BeamOk b) {i : Nat} (h0 : 1 ≤ i) (hi : i + 2 < b.sup.length) : fits (((spanK b (i + 1) : Int) : Rat) / diagR b i) 38 := by
 have h1 := h.sup1
 exact fits_mono (fits_div (diag_ne h h0 (by omega)) (span_fits h (i := i + 1) (by omega) (by omega)) (diag_fits h i h0 (by omega))) (by omega)
theorem rhs_fits (h : BeamOk b) : ∀ i,1 ≤ i → i + 1 < b.sup.length → fits (rhsR b i) (742 + 540 * i)
 | 0,h0,_ => by omega
 | 1,_,hi => fits_mono (fits_sub (rhs0_fits h (i := 1) (Nat.le_refl _) hi) (fits_mul (hangR_fits h) (span_fits h (i := 1) (Nat.le_refl _) (by omega)))) (by decide)
 | i + 2,_,hi => by
  have ih := rhs_fits h (i + 1) (by omega) (by omega)
  exact fits_mono (fits_sub (rhs0_fits h (i := i + 2) (by omega) hi) (fits_mul (ratio_fits h (i := i + 1) (by omega) (by omega)) ih)) (by omega)
theorem turned_ok (h : BeamOk b) : BeamOk (turnedT b) := by
 have hs : ∀ i,i < b.sup.length → supAt (turnedT b) i = b.len - supAt b (b.sup.length - 1 - i) := fun i hi => by
  show (b.sup.reverse.map (b.len - ·)).getD i 0 = _
  rw [List.getD_eq_getElem?_getD,List.getElem?_eq_getElem (by simpa using hi)]
  simp only [Option.getD_some,List.getElem_map,List.getElem_reverse]
  unfold supAt
  rw [List.getD_eq_getElem?_getD,List.getElem?_eq_getElem (by omega)]
  rfl
 have hl : (turnedT b).sup.length = b.sup.length := by simp [turnedT]
 refine ⟨h.len,h.even,by rw [hl];exact h.sup1,fun i hi => ?_,fun i hi => ?_,by simp [turnedT];exact h.loads1,fun x hx => ?_⟩
 ·rw [hl] at hi
  rw [hs i hi]
  have := h.sup (b.sup.length - 1 - i) (by omega)
  show 0 ≤ b.len - _ ∧ b.len - _ ≤ b.len
  omega
 ·rw [hl] at hi
  rw [hs i (by omega),hs (i + 1) hi]
  have := h.inc (b.sup.length - 1 - (i + 1)) (by omega)
  rw [show b.sup.length - 1 - (i + 1) + 1 = b.sup.length - 1 - i by omega] at this
  omega
 ·obtain ⟨y,hy,rfl⟩ := List.mem_map.1 hx
  have := h.loads y hy
  show 0 ≤ b.len - y.pos ∧ b.len - y.pos ≤ b.len ∧ 0 ≤ y.wt ∧ y.wt ≤ 67108864
  omega
theorem back_fits (h : BeamOk b) : ∀ j,j + 1 < b.sup.length → fits (backR b j) (247 + 6300 * j)
 | 0,_ => hangR_fits (turned_ok h)
 | j + 1,hj => by
  have ih := back_fits h j (by omega)
  have h1 := h.sup1
  have h2 := rhs_fits h (b.sup.length - 2 - j) (by omega) (by omega)
  have h3 := diag_fits h (b.sup.length - 2 - j) (by omega) (by omega)
  have h4 := span_fits h (i := b.sup.length - 1 - j) (by omega) (by omega)
  exact fits_mono (fits_div (diag_ne h (i := b.sup.length - 2 - j) (by omega) (by omega)) (fits_sub h2 (fits_mul ih h4)) h3) (by omega)
theorem mom_fits (h : BeamOk b) {i : Nat} (hi : i < b.sup.length) : fits (momAt b i) 60000 := by
 have h1 := h.sup1
 unfold momAt
 split
 ·exact fits_mono (hangR_fits h) (by decide)
 ·exact fits_mono (back_fits h (b.sup.length - 1 - i) (by omega)) (by omega)
theorem lever_fits (h : BeamOk b) {lo hi : Int} (h0 : 0 ≤ lo) (h1 : lo < hi) (h2 : hi ≤ b.len) (left : Bool) {k : Nat} (hk : k ≤ b.loads.length) : fits (leverTo b lo hi left k) 245 := by
 have h3 := h.even
 have h4 := h.len
 refine fits_loads h (fits2 (by decide) (by decide) (by omega) (by omega)) (fun x hx y hy => ?_) hk
 have h5 := h.loads x hx
 unfold leverF at hy
 split at hy
 ·cases hy
 ·rename_i hno
  injection hy with hy
  subst hy
  cases left with
  | true => exact fits2 (by omega) (by omega) (by omega) (by show (hi - x.pos).natAbs < _;omega)
  | false => exact fits2 (by omega) (by omega) (by omega) (by show (x.pos - lo).natAbs < _;omega)
theorem leverR_fits (h : BeamOk b) {i : Nat} (hi : i + 1 < b.sup.length) (left : Bool) : fits (leverR b (supAt b i) (supAt b (i + 1)) left) 245 := by
 have h1 := h.sup i (by omega)
 have h2 := h.sup (i + 1) hi
 exact lever_fits h h1.1 (h.inc i hi) h2.2 left (Nat.le_refl _)
theorem wt_fits {x : LoadT} (h : 0 ≤ x.wt ∧ x.wt ≤ 67108864) : fits ((x.wt : Int) : Rat) 5 := by
 refine fits_mono (K := 1) (fits_int ?_ (Nat.le_refl _)) (by decide)
 rw [Nat.pow_one]
 omega
theorem beyond_fits (h : BeamOk b) {a : Int} (h0 : 0 ≤ a) (h1 : a ≤ b.len) {k : Nat} (hk : k ≤ b.loads.length) : fits (beyondTo b a k) 245 := by
 have h3 := h.even
 have h4 := h.len
 refine fits_loads h (fits2 (by decide) (by decide) (by omega) (by omega)) (fun x hx y hy => ?_) hk
 unfold beyondF at hy
 split at hy
 ·injection hy with hy
  subst hy
  exact wt_fits (h.loads x hx).2.2
 ·cases hy
theorem here_fits (h : BeamOk b) (a : Int) {k : Nat} (hk : k ≤ b.loads.length) : fits (hereTo b a k) 245 := by
 refine fits_loads h (fits_mono (K := 1) (fits_int (by decide) (Nat.le_refl _)) (by decide)) (fun x hx y hy => ?_) hk
 unfold hereF at hy
 split at hy
 ·injection hy with hy
  subst hy
  exact wt_fits (h.loads x hx).2.2
 ·cases hy
theorem turn_fits (h : BeamOk b) {i j : Nat} (hi : i < b.sup.length) (hj : j < b.sup.length) {k : Nat} (h0 : 1 ≤ k) (hk : k < b.sup.length) : fits ((momAt b i - momAt b j) / ((spanK b k : Int) : Rat)) 120002 := by
 have h1 := span_ge h h0 hk
 exact fits_mono (fits_div (by rw [Rat.num_intCast];omega) (fits_sub (mom_fits h hi) (mom_fits h hj)) (span_fits h h0 hk)) (by decide)
theorem react1_fits (h : BeamOk b) (i : Nat) : fits (react1 b i) 245 := here_fits h _ (Nat.le_refl _)
theorem react2_fits (h : BeamOk b) {i : Nat} (hi : i < b.sup.length) : fits (react2 b i) 121000 := by
 unfold react2
 split
 ·have h1 := leverR_fits h (i := i - 1) (by omega) false
  rw [show i - 1 + 1 = i by omega] at h1
  exact fits_mono (fits_add (fits_add (react1_fits h i) h1) (turn_fits h (by omega) hi (by omega) hi)) (by decide)
 ·exact fits_mono (react1_fits h i) (by decide)
theorem react3_fits (h : BeamOk b) {i : Nat} (hi : i < b.sup.length) : fits (react3 b i) 242000 := by
 unfold react3
 split
 ·exact fits_mono (fits_add (fits_add (react2_fits h hi) (leverR_fits h (by omega) true)) (turn_fits h (by omega) hi (by omega) (by omega))) (by decide)
 ·exact fits_mono (react2_fits h hi) (by decide)
theorem react4_fits (h : BeamOk b) {i : Nat} (hi : i < b.sup.length) : fits (react4 b i) 242300 := by
 have h1 := h.sup i hi
 unfold react4
 split
 ·exact fits_mono (fits_add (react3_fits h hi) (beyond_fits h h1.1 h1.2 (Nat.le_refl _))) (by decide)
 ·exact fits_mono (react3_fits h hi) (by decide)
end
end Go.Proofs.YtknkhnahflmjiaaGreatDoor
