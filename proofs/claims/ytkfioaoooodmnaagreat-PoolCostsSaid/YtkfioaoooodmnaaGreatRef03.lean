/- The contract of tombolaref03.Div. -/
import Derived.Test.YtkfioaoooodmnaaGreatRef02d
import Derived.Test.YtkfioaoooodmnaaGreatPartB
namespace Go.Proofs.YtkfioaoooodmnaaGreat
open Go Go.RowKit

theorem bit_step (a j : Nat) : a / 2 ^ j = 2 * (a / 2 ^ (j + 1)) + (if a / 2 ^ j % 2 = 1 then 1 else 0) := by
  rw [Nat.pow_succ, ← Nat.div_div_eq_div_mul]
  split <;> omega
theorem div_step {V b q r t : Nat} (hb : 0 < b) (hq : V / b = q) (hr : V % b = r) (ht : t ≤ 1) :
    (2 * r + t < b → (2 * V + t) / b = 2 * q ∧ (2 * V + t) % b = 2 * r + t) ∧ (b ≤ 2 * r + t → (2 * V + t) / b = 2 * q + 1 ∧ (2 * V + t) % b = 2 * r + t - b) := by
  have hV := Nat.div_add_mod V b
  rw [hq, hr] at hV
  have hrb := Nat.mod_lt V hb
  rw [hr] at hrb
  constructor
  · intro h
    have e : 2 * V + t = (2 * r + t) + b * (2 * q) := by rw [← hV, Nat.mul_add, Nat.mul_left_comm]; omega
    rw [e, Nat.add_mul_div_left _ _ hb, Nat.add_mul_mod_self_left, Nat.div_eq_of_lt h, Nat.mod_eq_of_lt h]
    omega
  · intro h
    have e : 2 * V + t = (2 * r + t - b) + b * (2 * q + 1) := by rw [← hV, Nat.mul_add, Nat.mul_left_comm, Nat.mul_succ]; omega
    rw [e, Nat.add_mul_div_left _ _ hb, Nat.add_mul_mod_self_left, Nat.div_eq_of_lt (by omega), Nat.mod_eq_of_lt (by omega)]
    omega

theorem refadd_nat {w : World} {v u : Value} {a b c : Nat} (ha : Limbs w v (dig a)) (hb : Limbs w u (dig b)) (hla : (dig a).length ≤ 65536) (hlb : (dig b).length ≤ 65536) (hc : a + b = c) :
    Calls Tryz.prog 30 #[v, u] w (RetNat w c) := by
  have := refadd_calls ha hb hla hlb
  rwa [val_dig, val_dig, hc] at this
theorem refsub_nat {w : World} {v u : Value} {a c : Nat} {B : List Nat} (ha : Limbs w v (dig a)) (hb : Limbs w u B) (hla : (dig a).length ≤ 65536) (hlb : B.length ≤ 65536) (hle : val B ≤ a) (hc : a - val B = c) :
    Calls Tryz.prog 84 #[v, u] w fun e w' => ∃ r, e = .returned (.tuple #[r, .int .i64 0]) ∧ OwnL w.heap.size w' r (dig c) ∧ Ext w w' := by
  refine (refsub_calls ha hb hla hlb).mono ?_
  rintro e w' ⟨r, h1, h2, h3⟩
  rw [val_dig] at h1 h2
  rw [if_neg (by omega)] at h1
  rw [hc] at h2
  exact ⟨r, h1, h2, h3⟩
theorem dig_le_len {a n : Nat} {A : List Nat} (hA : ∀ x ∈ A, x < Bs) (h : a ≤ val A) (hn : A.length ≤ n) : (dig a).length ≤ n :=
  Nat.le_trans (dig_len_le (Nat.lt_of_le_of_lt h (val_lt hA))) hn

/-- a quotient and what is left, or none -/
def RetDiv3 (w : World) (a b : Nat) (e : Ending) (w' : World) : Prop :=
  ∃ v u, e = .returned (.tuple #[v, u, .int .i64 (if b = 0 then 7 else 0)]) ∧ OwnL w.heap.size w' v (dig (if b = 0 then 0 else a / b)) ∧ OwnL w.heap.size w' u (dig (if b = 0 then 0 else a % b)) ∧ Ext w w'

end Go.Proofs.YtkfioaoooodmnaaGreat
