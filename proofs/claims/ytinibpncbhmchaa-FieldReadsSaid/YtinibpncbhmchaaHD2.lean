import Derived.Test.YtinibpncbhmchaaHD1
namespace Go.Proofs.Ytinibpncbhmchaa.Q
open Go Go.RowKit Go.Proofs.YtinibpncbhmchaaW.PrintWords Go.Proofs.YtinibpncbhmchaaW.PrintLast Go.Proofs.YtinibpncbhmchaaW.PrintMore
theorem pow7 (j : Nat) (hj : j < 9) : (2 : Nat) ^ (7 * j) ≤ 72057594037927936 := by
  have h : (2 : Nat) ^ (7 * j) ≤ 2 ^ 56 := Nat.pow_le_pow_right (by decide) (by omega)
  simpa using h
theorem p63 : (2 : Nat) ^ 63 = 9223372036854775808 := by decide +kernel
theorem wraps_i64 (n : Int) (h₀ : 0 ≤ n) (h₁ : n < 2 ^ 63) : IntKind.i64.wrap n = n := by rw [IntKind.wrap_i64]; omega
theorem or64 (a b : Nat) (ha : a < 9223372036854775808) (hb : b < 9223372036854775808) : bits .or .i64 (a : Int) (b : Int) = ((a ||| b : Nat) : Int) := by
  rw [← p63] at ha hb
  exact (bits_nat .i64 63 (by decide) wraps_i64 a b ha hb).2
theorem or_low (j a k : Nat) (ha : a < 2 ^ (7 * j)) : a ||| k * 2 ^ (7 * j) = a + k * 2 ^ (7 * j) := by
  rw [Nat.or_comm, Nat.mul_comm k, ← Nat.two_pow_add_eq_or_of_lt ha k, Nat.add_comm]
theorem and127 (c : UInt8) : bits .and .u8 (c.toNat : Int) 127 = ((c.toNat % 128 : Nat) : Int) := by
  have hc : c.toNat < 256 := c.toNat_lt
  have := bits_mask .u8 8 (by decide) wraps_u8 7 (by decide) (c.toNat : Int) (by omega) (by omega)
  simpa using this
theorem wrap64_nat (n : Nat) (h : n < 9223372036854775808) : wrap64 (n : Int) = (n : Int) := by unfold wrap64; omega
theorem pow7_succ (j : Nat) : (2 : Nat) ^ (7 * (j + 1)) = 128 * 2 ^ (7 * j) := by rw [show 7 * (j + 1) = 7 * j + 7 by omega, Nat.pow_add, Nat.mul_comm]
theorem num_core (a k q : Nat) (ha : a < q) (hk : k < 128) (hq : q ≤ 72057594037927936) (hor : a ||| k * q = a + k * q) :
    bits .or .i64 (a : Int) (wrap64 (wrap64 (k : Int) * (q : Int))) = ((a + k * q : Nat) : Int) ∧ a + k * q < 128 * q := by
  have h1 : k * q ≤ 127 * q := Nat.mul_le_mul_right _ (by omega)
  rw [wrap64_nat k (by omega), ← Int.natCast_mul, wrap64_nat (k * q) (by omega), or64 a (k * q) (by omega) (by omega), hor]
  exact ⟨rfl, by omega⟩
/-- What a byte of a number adds. -/
theorem num_step (j : Nat) (hj : j < 9) (m : Int) (h0 : 0 ≤ m) (h1 : m < 2 ^ (7 * j)) (c : UInt8) :
    bits .or .i64 m (wrap64 (wrap64 (bits .and .u8 (c.toNat : Int) 127) * 2 ^ (7 * j))) = m + ((c.toNat % 128 : Nat) : Int) * 2 ^ (7 * j) ∧
      0 ≤ m + ((c.toNat % 128 : Nat) : Int) * 2 ^ (7 * j) ∧ m + ((c.toNat % 128 : Nat) : Int) * 2 ^ (7 * j) < 2 ^ (7 * (j + 1)) := by
  obtain ⟨a, rfl⟩ := Int.eq_ofNat_of_zero_le h0
  have ha : a < 2 ^ (7 * j) := by exact_mod_cast h1
  have c2 : ((2 : Int) ^ (7 * j)) = ((2 ^ (7 * j) : Nat) : Int) := by simp
  have c3 : ((2 : Int) ^ (7 * (j + 1))) = ((2 ^ (7 * (j + 1)) : Nat) : Int) := by simp
  obtain ⟨e, hl⟩ := num_core a (c.toNat % 128) (2 ^ (7 * j)) ha (Nat.mod_lt _ (by decide)) (pow7 j hj) (or_low j a _ ha)
  rw [and127, c2, e, c3, pow7_succ, ← Int.natCast_mul, ← Int.natCast_add]
  exact ⟨rfl, Int.natCast_nonneg _, Int.ofNat_lt.mpr hl⟩
end Go.Proofs.Ytinibpncbhmchaa.Q
