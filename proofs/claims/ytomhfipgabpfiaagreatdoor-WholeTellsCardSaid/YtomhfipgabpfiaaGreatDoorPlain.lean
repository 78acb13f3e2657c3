/- Plain facts on naturals, limbs and lengths. No program in sight. -/
import Derived.KernelRfl
namespace Go.Proofs.YtomhfipgabpfiaaGreatDoor

/-- the base: 2 to the power of 64 -/
theorem bs_ex : ∃ b : Nat, b = 18446744073709551616 := ⟨_, rfl⟩
noncomputable def Bs : Nat := Classical.choose bs_ex
theorem Bs_def : Bs = 18446744073709551616 := Classical.choose_spec bs_ex

theorem Bs_pos : 0 < Bs := by rw [Bs_def]; omega
theorem two_le_Bs : 2 ≤ Bs := by rw [Bs_def]; omega

/-- no slice of ours is longer: 2 to the power of 40 -/
theorem lmax_ex : ∃ b : Nat, b = 1099511627776 := ⟨_, rfl⟩
noncomputable def Lmax : Nat := Classical.choose lmax_ex
theorem Lmax_def : Lmax = 1099511627776 := Classical.choose_spec lmax_ex

theorem lmax_le {n : Nat} (h : n ≤ Lmax) : n ≤ 1099511627776 := by rw [← Lmax_def]; exact h

/-- what limbs are worth, the lowest one first -/
noncomputable def val : List Nat → Nat
  | [] => 0
  | x :: A => x + Bs * val A

/-- the limbs of a natural, with no 0 at the end -/
noncomputable def dig (n : Nat) : List Nat := if _h : n = 0 then [] else n % Bs :: dig (n / Bs)
termination_by n
decreasing_by exact Nat.div_lt_self (by omega) (by rw [Bs_def]; omega)

theorem dig_zero : dig 0 = [] := by rw [dig]; simp
theorem dig_pos {n : Nat} (h : n ≠ 0) : dig n = n % Bs :: dig (n / Bs) := by rw [dig]; simp [h]
theorem dig_cons {x n : Nat} (hx : x < Bs) (h : x ≠ 0 ∨ n ≠ 0) : dig (x + Bs * n) = x :: dig n := by
  have hB := Bs_pos
  have h0 : x + Bs * n ≠ 0 := by
    rcases h with h | h
    · omega
    · have := Nat.mul_pos hB (Nat.pos_of_ne_zero h); omega
  rw [dig_pos h0, Nat.add_mul_mod_self_left, Nat.mod_eq_of_lt hx, Nat.add_mul_div_left _ _ hB, Nat.div_eq_of_lt hx, Nat.zero_add]

theorem val_dig (n : Nat) : val (dig n) = n := by
  induction n using Nat.strongRecOn with
  | _ n ih =>
    by_cases h : n = 0
    · subst h; rw [dig_zero]; rfl
    · rw [dig_pos h, val, ih _ (Nat.div_lt_self (by omega) (by rw [Bs_def]; omega))]
      exact Nat.mod_add_div n Bs

theorem dig_lt (n : Nat) : ∀ x ∈ dig n, x < Bs := by
  induction n using Nat.strongRecOn with
  | _ n ih =>
    by_cases h : n = 0
    · subst h; rw [dig_zero]; intro x hx; cases hx
    · rw [dig_pos h]
      intro x hx
      rcases List.mem_cons.1 hx with rfl | hx
      · exact Nat.mod_lt _ Bs_pos
      · exact ih _ (Nat.div_lt_self (by omega) (by rw [Bs_def]; omega)) x hx

theorem val_append (A C : List Nat) : val (A ++ C) = val A + Bs ^ A.length * val C := by
  induction A with
  | nil => simp [val]
  | cons x A ih => rw [List.cons_append, val, val, ih, List.length_cons, Nat.pow_succ, Nat.mul_add, Nat.add_assoc, Nat.mul_comm (Bs ^ A.length) Bs, Nat.mul_assoc]

theorem val_lt {A : List Nat} (h : ∀ x ∈ A, x < Bs) : val A < Bs ^ A.length := by
  induction A with
  | nil => simp [val]
  | cons x A ih =>
    have h1 := h x (List.mem_cons_self ..)
    have h2 := ih fun y hy => h y (List.mem_cons_of_mem _ hy)
    rw [val, List.length_cons, Nat.pow_succ, Nat.mul_comm (Bs ^ A.length)]
    have := Nat.mul_le_mul_left Bs (Nat.succ_le_of_lt h2)
    rw [Nat.mul_succ] at this
    omega

theorem val_zeros (n : Nat) : val (List.replicate n 0) = 0 := by
  induction n with
  | zero => rfl
  | succ n ih => rw [List.replicate_succ, val, ih]; simp

/-- the same limbs, if the last is not 0 -/
theorem dig_val : ∀ {A : List Nat}, (∀ x ∈ A, x < Bs) → (A = [] ∨ A.getLast?.getD 0 ≠ 0) → dig (val A) = A
  | [], _, _ => dig_zero
  | x :: A, h, hl => by
    have hx := h x (List.mem_cons_self ..)
    have hA : ∀ y ∈ A, y < Bs := fun y hy => h y (List.mem_cons_of_mem _ hy)
    cases A with
    | nil =>
      have : x ≠ 0 := by simpa using hl
      rw [val, dig_cons hx (.inl this)]
      simp [val, dig_zero]
    | cons y A =>
      have hl' : (y :: A).getLast?.getD 0 ≠ 0 := by
        rcases hl with hl | hl
        · cases hl
        · simpa [List.getLast?_cons_cons] using hl
      have ih := dig_val hA (.inr hl')
      have hne : val (y :: A) ≠ 0 := by
        intro e
        rw [e, dig_zero] at ih
        cases ih
      rw [val, dig_cons hx (.inr hne), ih]

/-- a limb of a list, 0 behind its end -/
def el (A : List Nat) (n : Nat) : Nat := A[n]?.getD 0

theorem el_of_lt {A : List Nat} {n : Nat} (h : n < A.length) : el A n = A[n] := by simp [el, List.getElem?_eq_getElem h]
theorem el_of_ge {A : List Nat} {n : Nat} (h : A.length ≤ n) : el A n = 0 := by simp [el, List.getElem?_eq_none h]
theorem el_lt {A : List Nat} (h : ∀ x ∈ A, x < Bs) (n : Nat) : el A n < Bs := by
  by_cases hn : n < A.length
  · rw [el_of_lt hn]; exact h _ (List.getElem_mem hn)
  · rw [el_of_ge (by omega)]; exact Bs_pos

/-- without the 0s at the end -/
theorem dig_take {A : List Nat} (h : ∀ x ∈ A, x < Bs) {n : Nat} (hn : n ≤ A.length) (h0 : ∀ i, n ≤ i → el A i = 0) (hl : n = 0 ∨ el A (n - 1) ≠ 0) :
    dig (val A) = A.take n := by
  have e : A = A.take n ++ List.replicate (A.length - n) 0 := by
    apply List.ext_getElem
    · simp; omega
    · intro i h1 h2
      by_cases hi : i < n
      · rw [List.getElem_append_left (by simp; omega), List.getElem_take]
      · rw [List.getElem_append_right (by simp; omega), List.getElem_replicate]
        have := h0 i (by omega)
        rwa [el_of_lt h1] at this
  have ev : val A = val (A.take n) := by
    conv => lhs; rw [e]
    rw [val_append, val_zeros]; simp
  rw [ev]
  refine dig_val (fun x hx => h x (List.mem_of_mem_take hx)) ?_
  rcases hl with hl | hl
  · left; simp [hl]
  · by_cases hn0 : n = 0
    · left; simp [hn0]
    · right
      rw [List.getLast?_eq_getElem?, List.length_take, Nat.min_eq_left hn, List.getElem?_take_of_lt (by omega)]
      exact hl

/-- what the first k limbs are worth -/
noncomputable def valTo (A : List Nat) : Nat → Nat
  | 0 => 0
  | k + 1 => valTo A k + Bs ^ k * el A k

theorem valTo_take (A : List Nat) (k : Nat) : valTo A k = val (A.take k) := by
  induction k with
  | zero => rfl
  | succ k ih =>
    rw [valTo, ih]
    by_cases h : k < A.length
    · rw [List.take_succ_eq_append_getElem h, val_append, el_of_lt h, List.length_take, Nat.min_eq_left (by omega)]
      simp [val]
    · rw [el_of_ge (by omega), List.take_of_length_le (by omega : A.length ≤ k), List.take_of_length_le (by omega : A.length ≤ k + 1)]
      simp
theorem valTo_all {A : List Nat} {k : Nat} (h : A.length ≤ k) : valTo A k = val A := by rw [valTo_take, List.take_of_length_le h]
theorem valTo_lt {A : List Nat} (h : ∀ x ∈ A, x < Bs) (k : Nat) : valTo A k < Bs ^ k := by
  induction k with
  | zero => simp [valTo]
  | succ k ih =>
    have h1 := el_lt h k
    have h2 := Nat.mul_le_mul_left (Bs ^ k) (Nat.succ_le_of_lt h1)
    rw [valTo, Nat.pow_succ]
    rw [Nat.mul_succ] at h2
    omega

/-- -1, 0, 1: less, the same, greater -/
def cmpN (a b : Nat) : Int := if a < b then -1 else if b < a then 1 else 0
theorem cmpN_lt {a b : Nat} (h : a < b) : cmpN a b = -1 := by simp [cmpN, h]
theorem cmpN_gt {a b : Nat} (h : b < a) : cmpN a b = 1 := by simp [cmpN, h, show ¬ a < b by omega]
theorem cmpN_eq {a b : Nat} (h : a = b) : cmpN a b = 0 := by simp [cmpN, h]

theorem val_lt_of_el {A B : List Nat} (hA : ∀ x ∈ A, x < Bs) {i : Nat} (h : ∀ j, i < j → el A j = el B j) (hl : el A i < el B i) : val A < val B := by
  have key : ∀ k, valTo A (i + 1 + k) < valTo B (i + 1 + k) := by
    intro k
    induction k with
    | zero =>
      have h1 := valTo_lt hA i
      have h2 := Nat.mul_le_mul_left (Bs ^ i) (Nat.succ_le_of_lt hl)
      rw [Nat.mul_succ] at h2
      show valTo A i + Bs ^ i * el A i < valTo B i + Bs ^ i * el B i
      omega
    | succ k ih =>
      rw [← Nat.add_assoc, valTo, valTo, h _ (by omega)]
      omega
  have := key (max A.length B.length)
  rwa [valTo_all (by omega), valTo_all (by omega)] at this

theorem val_eq_of_el {A B : List Nat} (h : ∀ j, el A j = el B j) : val A = val B := by
  have key : ∀ k, valTo A k = valTo B k := by
    intro k
    induction k with
    | zero => rfl
    | succ k ih => rw [valTo, valTo, ih, h]
  have := key (max A.length B.length)
  rwa [valTo_all (by omega), valTo_all (by omega)] at this

/-- how many bits a number has -/
def bl (n : Nat) : Nat := if n = 0 then 0 else Nat.log2 n + 1

theorem lt_bl (n : Nat) : n < 2 ^ bl n := by
  unfold bl; split
  · simp [*]
  · exact Nat.lt_log2_self
theorem bl_le_iff (n k : Nat) : bl n ≤ k ↔ n < 2 ^ k := by
  unfold bl; split
  · rename_i h; subst h; simp [Nat.pow_pos]
  · rename_i h; rw [Nat.add_one_le_iff, Nat.log2_lt h]
theorem bl_ge {n k : Nat} (h : 2 ^ k ≤ n) : k < bl n := by
  rcases Nat.lt_or_ge k (bl n) with g | g
  · exact g
  · have := (bl_le_iff n k).1 g; omega
theorem bl_eq {n k : Nat} (h1 : 2 ^ k ≤ n) (h2 : n < 2 ^ (k + 1)) : bl n = k + 1 := by
  have a := bl_ge h1
  have b := (bl_le_iff n (k + 1)).2 h2
  omega
theorem bl_zero : bl 0 = 0 := rfl
theorem bl_eq_zero (n : Nat) : bl n = 0 ↔ n = 0 := by
  have := bl_le_iff n 0
  simp at this
  omega
theorem bl_small {n : Nat} (h : n < 2) : bl n = n := by
  have : n = 0 ∨ n = 1 := by omega
  rcases this with rfl | rfl
  · rfl
  · exact bl_eq (k := 0) (by simp) (by simp)
theorem bl_shift {n k : Nat} (h : n / 2 ^ k ≠ 0) : bl n = k + bl (n / 2 ^ k) := by
  have h1 := Nat.two_pow_pos k
  have hq : 2 ^ k ≤ n := by
    rcases Nat.lt_or_ge n (2 ^ k) with g | g
    · exact absurd (Nat.div_eq_of_lt g) h
    · exact g
  obtain ⟨j, hj⟩ : ∃ j, bl (n / 2 ^ k) = j + 1 := by
    cases e : bl (n / 2 ^ k) with
    | zero => have := (bl_le_iff (n / 2 ^ k) 0).1 (by omega); simp at this; omega
    | succ j => exact ⟨j, rfl⟩
  have a : 2 ^ j ≤ n / 2 ^ k := by
    rcases Nat.lt_or_ge (n / 2 ^ k) (2 ^ j) with g | g
    · have := (bl_le_iff (n / 2 ^ k) j).2 g; omega
    · exact g
  have b : n / 2 ^ k < 2 ^ (j + 1) := by rw [← hj]; exact lt_bl _
  rw [hj, ← Nat.add_assoc]
  refine bl_eq ?_ ?_
  · rw [Nat.pow_add, Nat.mul_comm]; exact (Nat.le_div_iff_mul_le h1).1 a
  · rw [Nat.add_assoc, Nat.pow_add, Nat.mul_comm]; exact (Nat.div_lt_iff_lt_mul h1).1 b

/-- a walk over the limbs of two naturals, with a carry: F tells a limb, and what is carried -/
def carryTo (F : Nat → Nat → Nat → Nat × Nat) (A B : List Nat) : Nat → Nat
  | 0 => 0
  | k + 1 => (F (el A k) (el B k) (carryTo F A B k)).2
def outsTo (F : Nat → Nat → Nat → Nat × Nat) (A B : List Nat) : Nat → List Nat
  | 0 => []
  | k + 1 => outsTo F A B k ++ [(F (el A k) (el B k) (carryTo F A B k)).1]

theorem outsTo_length (F : Nat → Nat → Nat → Nat × Nat) (A B : List Nat) (k : Nat) : (outsTo F A B k).length = k := by
  induction k with
  | zero => rfl
  | succ k ih => rw [outsTo, List.length_append, ih]; rfl
theorem carryTo_le {F : Nat → Nat → Nat → Nat × Nat} (hF : ∀ x y c, x < Bs → y < Bs → c ≤ 1 → (F x y c).1 < Bs ∧ (F x y c).2 ≤ 1) {A B : List Nat} (hA : ∀ x ∈ A, x < Bs) (hB : ∀ x ∈ B, x < Bs) (k : Nat) : carryTo F A B k ≤ 1 := by
  induction k with
  | zero => simp [carryTo]
  | succ k ih => exact (hF _ _ _ (el_lt hA k) (el_lt hB k) ih).2
theorem outsTo_lt {F : Nat → Nat → Nat → Nat × Nat} (hF : ∀ x y c, x < Bs → y < Bs → c ≤ 1 → (F x y c).1 < Bs ∧ (F x y c).2 ≤ 1) {A B : List Nat} (hA : ∀ x ∈ A, x < Bs) (hB : ∀ x ∈ B, x < Bs) (k : Nat) : ∀ x ∈ outsTo F A B k, x < Bs := by
  induction k with
  | zero => intro x hx; cases hx
  | succ k ih =>
    intro x hx
    rw [outsTo, List.mem_append, List.mem_singleton] at hx
    rcases hx with hx | rfl
    · exact ih x hx
    · exact (hF _ _ _ (el_lt hA k) (el_lt hB k) (carryTo_le hF hA hB k)).1

theorem set_outs (D : List Nat) (x m : Nat) : (D ++ List.replicate (m + 1) 0).set D.length x = (D ++ [x]) ++ List.replicate m 0 := by
  rw [List.set_append_right _ _ (Nat.le_refl _), Nat.sub_self, List.replicate_succ]; simp

/-- the sum and the difference of two limbs and a carry -/
noncomputable def addLo (x y c : Nat) : Nat := (x + y + c) % Bs
noncomputable def addHi (x y c : Nat) : Nat := (x + y + c) / Bs
noncomputable def subLo (x y c : Nat) : Nat := (x + Bs - y - c) % Bs
def subHi (x y c : Nat) : Nat := if x < y + c then 1 else 0
noncomputable def mulHi (x y : Nat) : Nat := x * y / Bs
noncomputable def mulLo (x y : Nat) : Nat := x * y % Bs
noncomputable def addF (x y c : Nat) : Nat × Nat := (addLo x y c, addHi x y c)
noncomputable def subF (x y c : Nat) : Nat × Nat := (subLo x y c, subHi x y c)

theorem addF_ok (x y c : Nat) (hx : x < Bs) (hy : y < Bs) (hc : c ≤ 1) : (addF x y c).1 < Bs ∧ (addF x y c).2 ≤ 1 := by
  refine ⟨Nat.mod_lt _ Bs_pos, ?_⟩
  show (x + y + c) / Bs ≤ 1
  rw [← Nat.lt_add_one_iff, Nat.div_lt_iff_lt_mul Bs_pos]; omega
theorem subF_ok (x y c : Nat) (_hx : x < Bs) (_hy : y < Bs) (_hc : c ≤ 1) : (subF x y c).1 < Bs ∧ (subF x y c).2 ≤ 1 := by
  refine ⟨Nat.mod_lt _ Bs_pos, ?_⟩
  show subHi x y c ≤ 1
  unfold subHi; split <;> omega

theorem val_outs_succ (F : Nat → Nat → Nat → Nat × Nat) (A B : List Nat) (k : Nat) :
    val (outsTo F A B (k + 1)) = val (outsTo F A B k) + Bs ^ k * (F (el A k) (el B k) (carryTo F A B k)).1 := by
  rw [outsTo, val_append, outsTo_length]; simp [val]

theorem add_inv (A B : List Nat) (k : Nat) : val (outsTo addF A B k) + Bs ^ k * carryTo addF A B k = valTo A k + valTo B k := by
  induction k with
  | zero => simp [outsTo, carryTo, valTo, val]
  | succ k ih =>
    rw [val_outs_succ, carryTo, valTo, valTo, Nat.pow_succ]
    generalize carryTo addF A B k = c at *
    have h : (addF (el A k) (el B k) c).1 + Bs * (addF (el A k) (el B k) c).2 = el A k + el B k + c := Nat.mod_add_div _ _
    generalize (addF (el A k) (el B k) c).1 = p at *
    generalize (addF (el A k) (el B k) c).2 = q at *
    have : Bs ^ k * p + Bs ^ k * Bs * q = Bs ^ k * el A k + Bs ^ k * el B k + Bs ^ k * c := by
      rw [Nat.mul_assoc, ← Nat.mul_add, h, Nat.mul_add, Nat.mul_add]
    omega

theorem add_outs {A B : List Nat} (hA : ∀ x ∈ A, x < Bs) (hB : ∀ x ∈ B, x < Bs) : val (outsTo addF A B (max A.length B.length + 1)) = val A + val B := by
  have la : A.length ≤ max A.length B.length + 1 := by omega
  have lb : B.length ≤ max A.length B.length + 1 := by omega
  have h := add_inv A B (max A.length B.length + 1)
  rw [valTo_all la, valTo_all lb] at h
  have a := Nat.lt_of_lt_of_le (val_lt hA) (Nat.pow_le_pow_right Bs_pos (Nat.le_max_left A.length B.length))
  have b := Nat.lt_of_lt_of_le (val_lt hB) (Nat.pow_le_pow_right Bs_pos (Nat.le_max_right A.length B.length))
  rw [Nat.pow_succ] at h
  generalize Bs ^ max A.length B.length = p at *
  have h2 : p * 2 ≤ p * Bs := Nat.mul_le_mul_left p two_le_Bs
  generalize p * Bs = q at *
  rcases Nat.eq_zero_or_pos (carryTo addF A B (max A.length B.length + 1)) with g | g
  · rw [g] at h; simpa using h
  · have h1 := Nat.le_mul_of_pos_right q g
    omega

theorem sub_inv {A B : List Nat} (hA : ∀ x ∈ A, x < Bs) (hB : ∀ x ∈ B, x < Bs) (k : Nat) : val (outsTo subF A B k) + valTo B k = valTo A k + Bs ^ k * carryTo subF A B k := by
  induction k with
  | zero => simp [outsTo, carryTo, valTo, val]
  | succ k ih =>
    rw [val_outs_succ, carryTo, valTo, valTo, Nat.pow_succ]
    have hc := carryTo_le subF_ok hA hB k
    generalize carryTo subF A B k = c at *
    have hx := el_lt hA k
    have hy := el_lt hB k
    have h : (subF (el A k) (el B k) c).1 + el B k + c = el A k + Bs * (subF (el A k) (el B k) c).2 := by
      show subLo _ _ _ + _ + _ = _ + Bs * subHi _ _ _
      unfold subLo subHi
      split
      · rw [Nat.mod_eq_of_lt (by omega)]; omega
      · rw [show el A k + Bs - el B k - c = (el A k - el B k - c) + Bs by omega, Nat.add_mod_right, Nat.mod_eq_of_lt (by omega)]; omega
    generalize (subF (el A k) (el B k) c).1 = p at *
    generalize (subF (el A k) (el B k) c).2 = q at *
    have : Bs ^ k * p + Bs ^ k * el B k + Bs ^ k * c = Bs ^ k * el A k + Bs ^ k * Bs * q := by
      rw [Nat.mul_assoc, ← Nat.mul_add, ← Nat.mul_add, ← Nat.mul_add, h]
    omega

theorem sub_outs {A B : List Nat} (hA : ∀ x ∈ A, x < Bs) (hB : ∀ x ∈ B, x < Bs) (hle : val B ≤ val A) : val (outsTo subF A B (max A.length B.length + 1)) = val A - val B := by
  have la : A.length ≤ max A.length B.length + 1 := by omega
  have lb : B.length ≤ max A.length B.length + 1 := by omega
  have h := sub_inv hA hB (max A.length B.length + 1)
  rw [valTo_all la, valTo_all lb] at h
  have hl := val_lt (outsTo_lt subF_ok hA hB (max A.length B.length + 1))
  rw [outsTo_length] at hl
  generalize Bs ^ (max A.length B.length + 1) = q at *
  rcases Nat.eq_zero_or_pos (carryTo subF A B (max A.length B.length + 1)) with g | g
  · rw [g] at h; omega
  · have h1 := Nat.le_mul_of_pos_right q g
    omega

theorem val_set {O : List Nat} {j : Nat} (h : j < O.length) (z : Nat) : val (O.set j z) + Bs ^ j * el O j = val O + Bs ^ j * z := by
  induction O generalizing j with
  | nil => simp at h
  | cons x O ih =>
    cases j with
    | zero => simp [val, el]; omega
    | succ j =>
      have := ih (j := j) (by simpa using h)
      rw [List.set_cons_succ, val, val, show el (x :: O) (j + 1) = el O j by simp [el], Nat.pow_succ, Nat.mul_comm (Bs ^ j) Bs, Nat.mul_assoc, Nat.mul_assoc]
      have e := congrArg (Bs * ·) this
      simp only [Nat.mul_add] at e
      omega
theorem el_set_same {O : List Nat} {j : Nat} (h : j < O.length) (z : Nat) : el (O.set j z) j = z := by simp [el, h]
theorem el_set_other {O : List Nat} {i j : Nat} (h : i ≠ j) (z : Nat) : el (O.set i z) j = el O j := by simp [el, h]
theorem set_lt {O : List Nat} (h : ∀ x ∈ O, x < Bs) {j z : Nat} (hz : z < Bs) : ∀ x ∈ O.set j z, x < Bs := by
  intro x hx
  rcases List.mem_or_eq_of_mem_set hx with hx | rfl
  · exact h x hx
  · exact hz

/-- a limb of a product: what stays, and what goes over -/
noncomputable def mulS (x y o c : Nat) : Nat := addLo (addLo (mulLo x y) c 0) o 0
noncomputable def mulO (x y o c : Nat) : Nat := mulHi x y + addHi (mulLo x y) c 0 + addHi (addLo (mulLo x y) c 0) o 0

theorem mulHi_le {x y : Nat} (hx : x < Bs) (hy : y < Bs) : mulHi x y + 1 < Bs := by
  unfold mulHi
  have h1 : x * y ≤ (Bs - 1) * (Bs - 1) := Nat.mul_le_mul (by omega) (by omega)
  have h2 := two_le_Bs
  obtain ⟨b, hb⟩ : ∃ b, Bs = b + 2 := ⟨Bs - 2, by omega⟩
  have h3 : x * y / Bs < Bs - 1 := by
    rw [Nat.div_lt_iff_lt_mul Bs_pos]
    rw [hb] at h1 ⊢
    simp only [show b + 2 - 1 = b + 1 by omega] at h1 ⊢
    have : (b + 1) * (b + 2) = (b + 1) * (b + 1) + (b + 1) := by rw [← Nat.mul_succ]
    omega
  omega
theorem addLo_lt (x y c : Nat) : addLo x y c < Bs := Nat.mod_lt _ Bs_pos
theorem subLo_lt (x y c : Nat) : subLo x y c < Bs := Nat.mod_lt _ Bs_pos
theorem mulLo_lt (x y : Nat) : mulLo x y < Bs := Nat.mod_lt _ Bs_pos
theorem mulHi_lt {x y : Nat} (hx : x < Bs) (hy : y < Bs) : mulHi x y < Bs := by have := mulHi_le hx hy; omega
theorem addHi_le {x y c : Nat} (hx : x < Bs) (hy : y < Bs) (hc : c ≤ 1) : addHi x y c ≤ 1 := (addF_ok x y c hx hy hc).2
theorem mulS_eq {x y o c : Nat} : mulS x y o c + Bs * mulO x y o c = x * y + o + c := by
  unfold mulS mulO
  have h1 : mulLo x y + Bs * mulHi x y = x * y := Nat.mod_add_div _ _
  have h2 : addLo (mulLo x y) c 0 + Bs * addHi (mulLo x y) c 0 = mulLo x y + c + 0 := Nat.mod_add_div _ _
  have h3 : addLo (addLo (mulLo x y) c 0) o 0 + Bs * addHi (addLo (mulLo x y) c 0) o 0 = addLo (mulLo x y) c 0 + o + 0 := Nat.mod_add_div _ _
  rw [Nat.mul_add, Nat.mul_add]
  omega
theorem mulO_lt {x y o c : Nat} (hx : x < Bs) (hy : y < Bs) (ho : o < Bs) (hc : c < Bs) : mulO x y o c < Bs := by
  have h := mulS_eq (x := x) (y := y) (o := o) (c := c)
  have h1 : x * y ≤ (Bs - 1) * (Bs - 1) := Nat.mul_le_mul (by omega) (by omega)
  obtain ⟨b, hb⟩ : ∃ b, Bs = b + 1 := ⟨Bs - 1, by have := Bs_pos; omega⟩
  rcases Nat.lt_or_ge (mulO x y o c) Bs with g | g
  · exact g
  · have h2 := Nat.mul_le_mul_left Bs g
    rw [hb] at h1 h2 h ho hc
    simp only [show b + 1 - 1 = b by omega] at h1
    have e : (b + 1) * (b + 1) = b * b + b + b + 1 := by rw [Nat.mul_succ, Nat.succ_mul]; omega
    omega

/-- what holds in the rounds of a product -/
structure MulOut (A B : List Nat) (i : Nat) (O : List Nat) : Prop where
  len : O.length = A.length + B.length
  lt : ∀ x ∈ O, x < Bs
  zero : ∀ j, i + B.length ≤ j → el O j = 0
  val_eq : val O = valTo A i * val B
structure MulIn (A B : List Nat) (i k c : Nat) (O : List Nat) : Prop where
  len : O.length = A.length + B.length
  lt : ∀ x ∈ O, x < Bs
  c_lt : c < Bs
  zero : ∀ j, i + B.length ≤ j → el O j = 0
  val_eq : val O + Bs ^ (i + k) * c = valTo A i * val B + Bs ^ i * el A i * valTo B k

theorem MulOut.start (A B : List Nat) : MulOut A B 0 (List.replicate (A.length + B.length) 0) := by
  refine ⟨by simp, fun x hx => ?_, fun j _ => ?_, ?_⟩
  · rw [(List.mem_replicate.1 hx).2]; exact Bs_pos
  · by_cases h : j < A.length + B.length
    · simp [el, h]
    · exact el_of_ge (by simp; omega)
  · rw [val_zeros]; simp [valTo]
theorem MulOut.inner {A B : List Nat} {i : Nat} {O : List Nat} (h : MulOut A B i O) : MulIn A B i 0 0 O :=
  ⟨h.len, h.lt, Bs_pos, h.zero, by rw [h.val_eq]; simp [valTo]⟩
theorem MulIn.next {A B : List Nat} {i k c : Nat} {O : List Nat} (h : MulIn A B i k c O) (hA : ∀ x ∈ A, x < Bs) (hB : ∀ x ∈ B, x < Bs) (hi : i < A.length) (hk : k < B.length) :
    MulIn A B i (k + 1) (mulO (el A i) (el B k) (el O (i + k)) c) (O.set (i + k) (mulS (el A i) (el B k) (el O (i + k)) c)) := by
  have hlen := h.len
  refine ⟨by rw [List.length_set]; exact h.len, set_lt h.lt (addLo_lt ..), mulO_lt (el_lt hA i) (el_lt hB k) (el_lt h.lt _) h.c_lt, fun j hj => ?_, ?_⟩
  · rw [el_set_other (by omega)]; exact h.zero j hj
  · have h1 := val_set (O := O) (j := i + k) (by omega) (mulS (el A i) (el B k) (el O (i + k)) c)
    have h2 := h.val_eq
    have h3 := mulS_eq (x := el A i) (y := el B k) (o := el O (i + k)) (c := c)
    rw [valTo, ← Nat.add_assoc, Nat.pow_succ, Nat.mul_assoc (Bs ^ (i + k))]
    rw [Nat.mul_add (Bs ^ i * el A i)]
    have h4 : Bs ^ (i + k) * (mulS (el A i) (el B k) (el O (i + k)) c + Bs * mulO (el A i) (el B k) (el O (i + k)) c) = Bs ^ (i + k) * (el A i * el B k + el O (i + k) + c) := by rw [h3]
    rw [Nat.mul_add, Nat.mul_add, Nat.mul_add] at h4
    have h5 : Bs ^ i * el A i * (Bs ^ k * el B k) = Bs ^ (i + k) * (el A i * el B k) := by
      rw [Nat.pow_add]; ac_rfl
    rw [h5]
    generalize Bs ^ (i + k) = p at *
    generalize val (O.set (i + k) (mulS (el A i) (el B k) (el O (i + k)) c)) = r at *
    generalize mulS (el A i) (el B k) (el O (i + k)) c = m1 at *
    generalize Bs * mulO (el A i) (el B k) (el O (i + k)) c = m2 at *
    generalize valTo A i * val B = q at *
    generalize Bs ^ i * el A i * valTo B k = t at *
    generalize p * (el A i * el B k) = e1 at *
    generalize p * el O (i + k) = e2 at *
    generalize p * c = e3 at *
    generalize p * m1 = e4 at *
    generalize p * m2 = e5 at *
    omega
theorem MulIn.outer {A B : List Nat} {i c : Nat} {O : List Nat} (h : MulIn A B i B.length c O) (hi : i < A.length) : MulOut A B (i + 1) (O.set (i + B.length) c) := by
  have hlen := h.len
  refine ⟨by rw [List.length_set]; exact h.len, set_lt h.lt h.c_lt, fun j hj => ?_, ?_⟩
  · rw [el_set_other (by omega)]; exact h.zero j (by omega)
  · have h1 := val_set (O := O) (j := i + B.length) (by omega) c
    have h2 := h.val_eq
    rw [h.zero _ (Nat.le_refl _), Nat.mul_zero, Nat.add_zero] at h1
    rw [h1, h2, valTo_all (Nat.le_refl _), valTo, Nat.add_mul]

theorem Bs_eq : Bs = 2 ^ 64 := by rw [Bs_def]

theorem bl_val {A : List Nat} (hA : ∀ x ∈ A, x < Bs) {n : Nat} (h0 : ∀ i, n + 1 ≤ i → el A i = 0) (hl : el A n ≠ 0) : bl (val A) = n * 64 + bl (el A n) := by
  have e : val A = valTo A n + Bs ^ n * el A n := by
    have key : ∀ k, valTo A (n + 1 + k) = valTo A (n + 1) := by
      intro k
      induction k with
      | zero => rfl
      | succ k ih => rw [← Nat.add_assoc, valTo, ih, h0 _ (by omega)]; simp
    rw [← valTo_all (A := A) (k := n + 1 + A.length) (by omega), key]
    rfl
  have h1 := valTo_lt hA n
  obtain ⟨k, hk⟩ : ∃ k, bl (el A n) = k + 1 := by
    cases e : bl (el A n) with
    | zero => have := (bl_le_iff (el A n) 0).1 (by omega); simp at this; omega
    | succ j => exact ⟨j, rfl⟩
  have a : 2 ^ k ≤ el A n := by
    rcases Nat.lt_or_ge (el A n) (2 ^ k) with g | g
    · have := (bl_le_iff (el A n) k).2 g; omega
    · exact g
  have b : el A n < 2 ^ (k + 1) := by rw [← hk]; exact lt_bl _
  have hB : Bs ^ n = 2 ^ (n * 64) := by rw [Bs_eq, ← Nat.pow_mul, Nat.mul_comm]
  rw [hk, ← Nat.add_assoc, e]
  refine bl_eq ?_ ?_
  · rw [Nat.pow_add, ← hB]
    have := Nat.mul_le_mul_left (Bs ^ n) a
    omega
  · rw [Nat.add_assoc, Nat.pow_add, ← hB]
    have := Nat.mul_le_mul_left (Bs ^ n) (Nat.succ_le_of_lt b)
    rw [Nat.mul_succ] at this
    omega

theorem bl_le_64 {n : Nat} (h : n < Bs) : bl n ≤ 64 := by rw [bl_le_iff, ← Bs_eq]; exact h

theorem val_zero_of {A : List Nat} (h : ∀ i, el A i = 0) : val A = 0 := by
  rw [val_eq_of_el (B := []) (fun j => by rw [h]; rfl)]; rfl

end Go.Proofs.YtomhfipgabpfiaaGreatDoor
