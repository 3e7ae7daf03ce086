/- Bits of a small number, as the walk spells them. -/
import Derived.Test.YtcjejcbikgcnbaaHeavy
import Derived.Laws.BitsLemmas
namespace Go.Proofs.Ytcjejcbikgcnbaa
open Go.RowKit Go.Shelf

theorem i64_and1 (n : Int) : bits .and .i64 n 1 = n % 2 := by
  have h1 : (BitVec.ofInt 64 1).toNat = 2 ^ 1 - 1 := by decide
  have key : (BitVec.ofInt 64 n &&& BitVec.ofInt 64 1).toNat = (n % ((2 ^ 64 : Nat) : Int)).toNat % 2 ^ 1 := by
    rw [BitVec.toNat_and, BitVec.toNat_ofInt, h1, Nat.and_two_pow_sub_one_eq_mod]
  show IntKind.i64.wrap ((BitVec.ofInt 64 n &&& BitVec.ofInt 64 1).toNat : Nat) = n % 2
  rw [key, IntKind.wrap_i64]
  omega
theorem bit_at (s i : Nat) : bits .and .i64 ((s : Int) / 2 ^ ((i : Int).toNat)) 1 = if s.testBit i then 1 else 0 := by
  rw [i64_and1, Int.toNat_natCast]
  have h1 : ((s : Int) / 2 ^ i) % 2 = ((s / 2 ^ i % 2 : Nat) : Int) := by
    rw [Int.natCast_emod, Int.natCast_ediv, Int.natCast_pow]
    rfl
  rw [h1, Nat.testBit_eq_decide_div_mod_eq]
  have h2 : s / 2 ^ i % 2 = 0 ∨ s / 2 ^ i % 2 = 1 := by omega
  rcases h2 with h | h
  · rw [h]; simp
  · rw [h]; simp
theorem bit_no0 {s i : Nat} (h : s.testBit i = false) : (bits .and .i64 ((s : Int) / 2 ^ i) 1 == 0) = true := by
  have := bit_at s i
  rw [Int.toNat_natCast] at this
  rw [this, h]; rfl
theorem bit_no1 {s i : Nat} (h : s.testBit i = false) : (bits .and .i64 ((s : Int) / 2 ^ i) 1 == 1) = false := by
  have := bit_at s i
  rw [Int.toNat_natCast] at this
  rw [this, h]; rfl
theorem bit_yes0 {s i : Nat} (h : s.testBit i = true) : (bits .and .i64 ((s : Int) / 2 ^ i) 1 == 0) = false := by
  have := bit_at s i
  rw [Int.toNat_natCast] at this
  rw [this, h]; rfl
theorem bit_yes1 {s i : Nat} (h : s.testBit i = true) : (bits .and .i64 ((s : Int) / 2 ^ i) 1 == 1) = true := by
  have := bit_at s i
  rw [Int.toNat_natCast] at this
  rw [this, h]; rfl
theorem pow_small {n : Nat} (h : n ≤ 8) : 2 ^ n ≤ 256 := Nat.pow_le_pow_right (by omega) h
theorem pow_wrap {n : Nat} (h : n ≤ 8) : wrap64 ((2 : Int) ^ n) = ((2 ^ n : Nat) : Int) := by
  have e : ((2 : Int) ^ n) = ((2 ^ n : Nat) : Int) := by rw [Int.natCast_pow]; rfl
  have h2 := pow_small h
  rw [e]
  generalize 2 ^ n = N at *
  unfold wrap64
  omega

end Go.Proofs.Ytcjejcbikgcnbaa
