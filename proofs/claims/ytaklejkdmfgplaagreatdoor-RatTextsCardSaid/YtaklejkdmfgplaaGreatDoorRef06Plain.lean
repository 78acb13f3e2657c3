/- Plain facts of the binary way to the greatest common divisor. -/
import Derived.Test.YtaklejkdmfgplaaGreatDoorPartC
namespace Go.Proofs.YtaklejkdmfgplaaGreatDoor

theorem gcd_both {a b : Nat} (ha : a % 2 = 0) (hb : b % 2 = 0) : Nat.gcd a b = 2 * Nat.gcd (a / 2) (b / 2) := by
  rw [← Nat.gcd_mul_left, show 2 * (a / 2) = a by omega, show 2 * (b / 2) = b by omega]
theorem odd_coprime {b : Nat} (hb : b % 2 = 1) : Nat.Coprime 2 b := by
  unfold Nat.Coprime
  rw [Nat.gcd_rec, hb]
  exact Nat.gcd_one_left 2
theorem gcd_half_l {a b : Nat} (ha : a % 2 = 0) (hb : b % 2 = 1) : Nat.gcd (a / 2) b = Nat.gcd a b := by
  conv => rhs; rw [show a = 2 * (a / 2) by omega]
  exact (Nat.Coprime.gcd_mul_left_cancel _ (odd_coprime hb)).symm
theorem gcd_half_r {a b : Nat} (ha : a % 2 = 1) (hb : b % 2 = 0) : Nat.gcd a (b / 2) = Nat.gcd a b := by
  rw [Nat.gcd_comm, gcd_half_l hb ha, Nat.gcd_comm]
theorem gcd_sub_l {a b : Nat} (h : b ≤ a) : Nat.gcd (a - b) b = Nat.gcd a b := by
  conv => rhs; rw [show a = (a - b) + b by omega]
  rw [Nat.gcd_add_self_left]
theorem gcd_sub_r {a b : Nat} (h : a ≤ b) : Nat.gcd a (b - a) = Nat.gcd a b := by
  rw [Nat.gcd_comm, gcd_sub_l h, Nat.gcd_comm]
theorem gcd_end {a b : Nat} (h : a = 0 ∨ b = 0) : Nat.gcd a b = a + b := by
  rcases h with h | h <;> subst h <;> simp
end Go.Proofs.YtaklejkdmfgplaaGreatDoor
