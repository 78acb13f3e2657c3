/- Plain facts on decimal digits. No program in sight. -/
import Derived.Test.YtomhfipgabpfiaaGreatDoorDivPlain
namespace Go.Proofs.YtomhfipgabpfiaaGreatDoor

/-- the decimal digits of a number, the highest one first; of 0 none -/
def dgs (n : Nat) : List Nat := if _h : n = 0 then [] else dgs (n / 10) ++ [n % 10]
termination_by n
decreasing_by exact Nat.div_lt_self (by omega) (by omega)

theorem dgs_zero : dgs 0 = [] := by rw [dgs]; simp
theorem dgs_pos {n : Nat} (h : n ≠ 0) : dgs n = dgs (n / 10) ++ [n % 10] := by rw [dgs]; simp [h]
theorem dgs_ne {n : Nat} (h : n ≠ 0) : dgs n ≠ [] := by rw [dgs_pos h]; simp
theorem dgs_lt (n : Nat) : ∀ d ∈ dgs n, d < 10 := by
  induction n using Nat.strongRecOn with
  | _ n ih =>
    by_cases h : n = 0
    · subst h; rw [dgs_zero]; intro d hd; cases hd
    · rw [dgs_pos h]
      intro d hd
      rcases List.mem_append.1 hd with hd | hd
      · exact ih _ (Nat.div_lt_self (by omega) (by omega)) d hd
      · rw [List.mem_singleton.1 hd]; omega

/-- so many digits, 0s ahead -/
def fixw : Nat → Nat → List Nat
  | 0, _ => []
  | k + 1, n => fixw k (n / 10) ++ [n % 10]

theorem fixw_length (k n : Nat) : (fixw k n).length = k := by
  induction k generalizing n with
  | zero => rfl
  | succ k ih => rw [fixw, List.length_append, ih]; rfl
theorem fixw_add (k j n : Nat) : fixw (k + j) n = fixw k (n / 10 ^ j) ++ fixw j n := by
  induction j generalizing n with
  | zero => simp [fixw]
  | succ j ih => rw [← Nat.add_assoc, fixw, ih, fixw, Nat.div_div_eq_div_mul, ← List.append_assoc, Nat.pow_succ, Nat.mul_comm 10]
theorem fixw_mod (k n : Nat) : fixw k (n % 10 ^ k) = fixw k n := by
  induction k generalizing n with
  | zero => rfl
  | succ k ih =>
    rw [fixw, fixw, Nat.pow_succ]
    have h1 : n % (10 ^ k * 10) / 10 = n / 10 % 10 ^ k := by rw [Nat.mul_comm, Nat.mod_mul_right_div_self]
    have h2 : n % (10 ^ k * 10) % 10 = n % 10 := Nat.mod_mul_left_mod _ _ _
    rw [h1, h2, ih]
theorem fixw_lt (k n : Nat) : ∀ d ∈ fixw k n, d < 10 := by
  induction k generalizing n with
  | zero => intro d hd; cases hd
  | succ k ih =>
    intro d hd
    rcases List.mem_append.1 hd with hd | hd
    · exact ih _ d hd
    · rw [List.mem_singleton.1 hd]; omega

/-- without the 0s ahead -/
def dropZ : List Nat → List Nat
  | [] => []
  | d :: l => if d = 0 then dropZ l else d :: l
theorem dropZ_append (l : List Nat) (d : Nat) : dropZ (l ++ [d]) = if dropZ l = [] then (if d = 0 then [] else [d]) else dropZ l ++ [d] := by
  induction l with
  | nil => simp [dropZ]
  | cons x l ih =>
    rw [List.cons_append, dropZ, dropZ]
    split
    · exact ih
    · simp
theorem dropZ_fixw {k n : Nat} (h : n < 10 ^ k) : dropZ (fixw k n) = dgs n := by
  induction k generalizing n with
  | zero =>
    have : n = 0 := by simpa using h
    subst this; rw [dgs_zero]; rfl
  | succ k ih =>
    rw [fixw, dropZ_append, ih (by rw [Nat.div_lt_iff_lt_mul (by omega), ← Nat.pow_succ]; exact h)]
    by_cases h0 : n = 0
    · subst h0; simp [dgs_zero]
    · rw [dgs_pos h0]
      by_cases h1 : n / 10 = 0
      · rw [h1, dgs_zero]; simp; omega
      · simp [dgs_ne h1]

/-- a digit's byte -/
def db (d : Nat) : UInt8 := UInt8.ofNat (48 + d)
theorem db_toNat {d : Nat} (h : d < 10) : (db d).toNat = 48 + d := by simp [db]; omega
theorem db_eq {d : Nat} (h : d < 10) : (db d = 48) ↔ d = 0 := by
  have := db_toNat h
  constructor
  · intro e; rw [e] at this; simp at this; omega
  · intro e; subst e; rfl

/-- a natural as it is shown -/
def showL (n : Nat) : List UInt8 := if n = 0 then [48] else (dgs n).map db
theorem showL_zero : showL 0 = [48] := rfl
theorem showL_pos {n : Nat} (h : n ≠ 0) : showL n = (dgs n).map db := by simp [showL, h]
theorem showL_ne (n : Nat) : showL n ≠ [] := by
  unfold showL; split
  · simp
  · rename_i h; simp [dgs_ne h]

/-- what a text of digits is worth -/
def dval (l : List Nat) : Nat := l.foldl (fun n d => 10 * n + d) 0
theorem dval_append (l : List Nat) (d : Nat) : dval (l ++ [d]) = 10 * dval l + d := by simp [dval, List.foldl_append]
theorem dval_dgs (n : Nat) : dval (dgs n) = n := by
  induction n using Nat.strongRecOn with
  | _ n ih =>
    by_cases h : n = 0
    · subst h; rw [dgs_zero]; rfl
    · rw [dgs_pos h, dval_append, ih _ (Nat.div_lt_self (by omega) (by omega))]; omega

/-- is a byte a digit? what it is worth -/
def okd (b : UInt8) : Bool := decide (48 ≤ b.toNat) && decide (b.toNat ≤ 57)
def dv (b : UInt8) : Nat := b.toNat - 48
theorem dv_lt {b : UInt8} (h : okd b = true) : dv b < 10 := by unfold okd at h; unfold dv; simp at h; omega
theorem dv_db {d : Nat} (h : d < 10) : dv (db d) = d := by unfold dv; rw [db_toNat h]; omega
theorem db_dv {b : UInt8} (h : okd b = true) : db (dv b) = b := by
  apply UInt8.toNat_inj.1
  rw [db_toNat (dv_lt h)]
  unfold okd at h; unfold dv; simp at h; omega
theorem okd_db {d : Nat} (h : d < 10) : okd (db d) = true := by unfold okd; rw [db_toNat h]; simp; omega

/-- why a text is no natural; 0: it is one -/
def errR (l : List UInt8) : Nat :=
  if l = [] then 4 else if l.all okd = false then 3 else if l.head? = some 48 ∧ 1 < l.length then 3 else if 20000 < l.length then 5 else 0
/-- the natural of a text -/
def readN (l : List UInt8) : Nat := if errR l = 0 then dval (l.map dv) else 0

theorem dval_foldl (l : List Nat) (a : Nat) : l.foldl (fun n d => 10 * n + d) a = a * 10 ^ l.length + dval l := by
  induction l generalizing a with
  | nil => simp [dval]
  | cons d l ih =>
    have e : dval (d :: l) = d * 10 ^ l.length + dval l := by
      show l.foldl (fun n d => 10 * n + d) (10 * 0 + d) = _
      rw [ih]; simp
    rw [List.foldl_cons, ih, e, List.length_cons, Nat.pow_succ, Nat.add_mul, Nat.mul_comm 10 a, Nat.mul_assoc a 10, Nat.mul_comm 10]
    omega
theorem dval_app (l r : List Nat) : dval (l ++ r) = dval l * 10 ^ r.length + dval r := by
  rw [dval, List.foldl_append, dval_foldl]; rfl
theorem dval_lt {l : List Nat} (h : ∀ d ∈ l, d < 10) : dval l < 10 ^ l.length := by
  induction l with
  | nil => simp [dval]
  | cons d l ih =>
    have h1 := ih fun y hy => h y (List.mem_cons_of_mem _ hy)
    have h2 := h d (List.mem_cons_self ..)
    rw [show d :: l = [d] ++ l from rfl, dval_app, List.length_append, Nat.pow_add]
    have h3 : dval [d] = d := by simp [dval]
    rw [h3]
    have h4 : (d + 1) * 10 ^ l.length ≤ 10 ^ [d].length * 10 ^ l.length := Nat.mul_le_mul_right _ (by simp; omega)
    rw [Nat.add_mul] at h4
    omega

/-- a byte of a text, as a number -/
def bn (l : List UInt8) (i : Nat) : Nat := (l[i]?.getD 0).toNat

end Go.Proofs.YtomhfipgabpfiaaGreatDoor
