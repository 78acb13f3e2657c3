/- Plain facts on digits of 16 bits. No program in sight. -/
import Derived.Test.YtomhfipgabpfiaaGreatDoorPlain
namespace Go.Proofs.YtomhfipgabpfiaaGreatDoor

/-- what digits of 16 bits are worth, the lowest one first -/
theorem v16_ex : ∃ f : List Nat → Nat, f [] = 0 ∧ ∀ x A, f (x :: A) = x + 65536 * f A :=
  ⟨fun l => l.foldr (fun x n => x + 65536 * n) 0, rfl, fun _ _ => rfl⟩
noncomputable def v16 : List Nat → Nat := Classical.choose v16_ex
theorem v16_nil : v16 [] = 0 := (Classical.choose_spec v16_ex).1
theorem v16_cons (x : Nat) (A : List Nat) : v16 (x :: A) = x + 65536 * v16 A := (Classical.choose_spec v16_ex).2 x A

/-- the digits of a natural, with no 0 at the end -/
def dig16 (n : Nat) : List Nat := if _h : n = 0 then [] else n % 65536 :: dig16 (n / 65536)
termination_by n
decreasing_by omega

theorem dig16_zero : dig16 0 = [] := by rw [dig16]; simp
theorem dig16_pos {n : Nat} (h : n ≠ 0) : dig16 n = n % 65536 :: dig16 (n / 65536) := by rw [dig16]; simp [h]
theorem dig16_cons {x n : Nat} (hx : x < 65536) (h : x ≠ 0 ∨ n ≠ 0) : dig16 (x + 65536 * n) = x :: dig16 n := by
  rw [dig16_pos (by omega)]
  have h1 : (x + 65536 * n) % 65536 = x := by omega
  have h2 : (x + 65536 * n) / 65536 = n := by omega
  rw [h1, h2]

theorem v16_dig16 (n : Nat) : v16 (dig16 n) = n := by
  induction n using Nat.strongRecOn with
  | _ n ih =>
    by_cases h : n = 0
    · subst h; rw [dig16_zero]; exact v16_nil
    · rw [dig16_pos h, v16_cons, ih _ (by omega)]; omega

theorem dig16_lt (n : Nat) : ∀ x ∈ dig16 n, x < 65536 := by
  induction n using Nat.strongRecOn with
  | _ n ih =>
    by_cases h : n = 0
    · subst h; rw [dig16_zero]; intro x hx; cases hx
    · rw [dig16_pos h]
      intro x hx
      rcases List.mem_cons.1 hx with rfl | hx
      · omega
      · exact ih _ (by omega) x hx

theorem v16_append (A C : List Nat) : v16 (A ++ C) = v16 A + 65536 ^ A.length * v16 C := by
  induction A with
  | nil => simp [v16_nil]
  | cons x A ih => rw [List.cons_append, v16_cons, v16_cons, ih, List.length_cons, Nat.pow_succ, Nat.mul_add, Nat.add_assoc, Nat.mul_comm (65536 ^ A.length) 65536, Nat.mul_assoc]

theorem v16_lt {A : List Nat} (h : ∀ x ∈ A, x < 65536) : v16 A < 65536 ^ A.length := by
  induction A with
  | nil => simp [v16_nil]
  | cons x A ih =>
    have h1 := h x (List.mem_cons_self ..)
    have h2 := ih fun y hy => h y (List.mem_cons_of_mem _ hy)
    rw [v16_cons, List.length_cons, Nat.pow_succ, Nat.mul_comm (65536 ^ A.length)]
    have := Nat.mul_le_mul_left 65536 (Nat.succ_le_of_lt h2)
    rw [Nat.mul_succ] at this
    omega

theorem v16_zeros (n : Nat) : v16 (List.replicate n 0) = 0 := by
  induction n with
  | zero => exact v16_nil
  | succ n ih => rw [List.replicate_succ, v16_cons, ih]

theorem dig16_v16 : ∀ {A : List Nat}, (∀ x ∈ A, x < 65536) → (A = [] ∨ A.getLast?.getD 0 ≠ 0) → dig16 (v16 A) = A
  | [], _, _ => by rw [v16_nil]; exact dig16_zero
  | x :: A, h, hl => by
    have hx := h x (List.mem_cons_self ..)
    have hA : ∀ y ∈ A, y < 65536 := fun y hy => h y (List.mem_cons_of_mem _ hy)
    cases A with
    | nil =>
      have : x ≠ 0 := by simpa using hl
      rw [v16_cons, dig16_cons hx (.inl this)]
      simp [v16_nil, dig16_zero]
    | cons y A =>
      have hl' : (y :: A).getLast?.getD 0 ≠ 0 := by
        rcases hl with hl | hl
        · cases hl
        · simpa [List.getLast?_cons_cons] using hl
      have ih := dig16_v16 hA (.inr hl')
      have hne : v16 (y :: A) ≠ 0 := by
        intro e
        rw [e, dig16_zero] at ih
        cases ih
      rw [v16_cons, dig16_cons hx (.inr hne), ih]

/-- without the 0s at the end -/
theorem dig16_take {A : List Nat} (h : ∀ x ∈ A, x < 65536) {n : Nat} (hn : n ≤ A.length) (h0 : ∀ i, n ≤ i → el A i = 0) (hl : n = 0 ∨ el A (n - 1) ≠ 0) :
    A.take n = dig16 (v16 A) := by
  have e : A = A.take n ++ List.replicate (A.length - n) 0 := by
    apply List.ext_getElem
    · simp; omega
    · intro i h1 h2
      by_cases hi : i < n
      · rw [List.getElem_append_left (by simp; omega), List.getElem_take]
      · rw [List.getElem_append_right (by simp; omega), List.getElem_replicate]
        have := h0 i (by omega)
        rwa [el_of_lt h1] at this
  have ev : v16 A = v16 (A.take n) := by
    conv => lhs; rw [e]
    rw [v16_append, v16_zeros]; simp
  rw [ev]
  refine (dig16_v16 (fun x hx => h x (List.mem_of_mem_take hx)) ?_).symm
  rcases hl with hl | hl
  · left; simp [hl]
  · by_cases hn0 : n = 0
    · left; simp [hn0]
    · right
      rw [List.getLast?_eq_getElem?, List.length_take, Nat.min_eq_left hn, List.getElem?_take_of_lt (by omega)]
      exact hl

theorem v16_take {A : List Nat} (h : ∀ x ∈ A, x < 65536) (k : Nat) : v16 (A.take k) = v16 A % 65536 ^ k := by
  induction A generalizing k with
  | nil => simp [v16_nil]
  | cons x A ih =>
    cases k with
    | zero => simp [v16_nil, Nat.mod_one]
    | succ k =>
      have h1 := h x (List.mem_cons_self ..)
      rw [List.take_succ_cons, v16_cons, v16_cons, ih (fun y hy => h y (List.mem_cons_of_mem _ hy)), Nat.pow_succ, Nat.mul_comm (65536 ^ k) 65536, Nat.mod_mul]
      have e1 : (x + 65536 * v16 A) % 65536 = x := by omega
      have e2 : (x + 65536 * v16 A) / 65536 = v16 A := by omega
      rw [e1, e2]
theorem v16_drop {A : List Nat} (h : ∀ x ∈ A, x < 65536) (k : Nat) : v16 (A.drop k) = v16 A / 65536 ^ k := by
  induction A generalizing k with
  | nil => simp [v16_nil]
  | cons x A ih =>
    cases k with
    | zero => simp
    | succ k =>
      have h1 := h x (List.mem_cons_self ..)
      rw [List.drop_succ_cons, ih (fun y hy => h y (List.mem_cons_of_mem _ hy)), v16_cons, Nat.pow_succ, Nat.mul_comm (65536 ^ k) 65536, ← Nat.div_div_eq_div_mul]
      have e2 : (x + 65536 * v16 A) / 65536 = v16 A := by omega
      rw [e2]

theorem bs_pow (k : Nat) : (65536 : Nat) ^ (4 * k) = Bs ^ k := by
  rw [Nat.pow_mul, Bs_def]

/-- the low j digits of x -/
def pre (x : Nat) : Nat → List Nat
  | 0 => []
  | j + 1 => pre x j ++ [x / 65536 ^ j % 65536]
theorem pre_length (x j : Nat) : (pre x j).length = j := by
  induction j with
  | zero => rfl
  | succ j ih => simp [pre, ih]
theorem pre_lt (x j : Nat) : ∀ y ∈ pre x j, y < 65536 := by
  induction j with
  | zero => intro y hy; cases hy
  | succ j ih =>
    intro y hy
    rcases List.mem_append.1 hy with hy | hy
    · exact ih y hy
    · rw [List.mem_singleton.1 hy]; exact Nat.mod_lt _ (by omega)
theorem v16_pre (x j : Nat) : v16 (pre x j) = x % 65536 ^ j := by
  induction j with
  | zero => simp [pre, v16_nil, Nat.mod_one]
  | succ j ih =>
    rw [pre, v16_append, ih, pre_length, Nat.pow_succ, Nat.mod_mul]
    simp [v16_cons, v16_nil]

/-- the digits of the first i limbs -/
def flat (A : List Nat) : Nat → List Nat
  | 0 => []
  | i + 1 => flat A i ++ pre (el A i) 4
theorem flat_length (A : List Nat) (i : Nat) : (flat A i).length = 4 * i := by
  induction i with
  | zero => rfl
  | succ i ih => rw [flat, List.length_append, ih, pre_length]; omega
theorem flat_lt (A : List Nat) (i : Nat) : ∀ y ∈ flat A i, y < 65536 := by
  induction i with
  | zero => intro y hy; cases hy
  | succ i ih =>
    intro y hy
    rcases List.mem_append.1 hy with hy | hy
    · exact ih y hy
    · exact pre_lt _ _ y hy
theorem v16_flat {A : List Nat} (h : ∀ x ∈ A, x < Bs) (i : Nat) : v16 (flat A i) = valTo A i := by
  induction i with
  | zero => exact v16_nil
  | succ i ih =>
    have e : el A i % 65536 ^ 4 = el A i := Nat.mod_eq_of_lt (by have := el_lt h i; rw [Bs_def] at this; exact this)
    rw [flat, v16_append, ih, flat_length, bs_pow, v16_pre, e, valTo]

/-- the low t limbs of n -/
noncomputable def limbsTo (n : Nat) : Nat → List Nat
  | 0 => []
  | t + 1 => limbsTo n t ++ [n / Bs ^ t % Bs]
theorem limbsTo_length (n t : Nat) : (limbsTo n t).length = t := by
  induction t with
  | zero => rfl
  | succ t ih => simp [limbsTo, ih]
theorem limbsTo_lt (n t : Nat) : ∀ y ∈ limbsTo n t, y < Bs := by
  induction t with
  | zero => intro y hy; cases hy
  | succ t ih =>
    intro y hy
    rcases List.mem_append.1 hy with hy | hy
    · exact ih y hy
    · rw [List.mem_singleton.1 hy]; exact Nat.mod_lt _ Bs_pos
theorem val_limbsTo (n t : Nat) : val (limbsTo n t) = n % Bs ^ t := by
  induction t with
  | zero => simp [limbsTo, val, Nat.mod_one]
  | succ t ih =>
    rw [limbsTo, val_append, ih, limbsTo_length, Nat.pow_succ, Nat.mod_mul]
    simp [val]
theorem limbsTo_dig {n t : Nat} (h : n < Bs ^ t) (hl : t = 0 ∨ Bs ^ (t - 1) ≤ n) : limbsTo n t = dig n := by
  have e : val (limbsTo n t) = n := by rw [val_limbsTo, Nat.mod_eq_of_lt h]
  rw [← e]
  conv => lhs; rw [e]
  refine (dig_val (limbsTo_lt n t) ?_).symm
  cases t with
  | zero => exact .inl rfl
  | succ t =>
    right
    rw [limbsTo, List.getLast?_append]
    have h1 : Bs ^ t ≤ n := by rcases hl with hl | hl; exact absurd hl (by omega); simpa using hl
    have h2 : n / Bs ^ t < Bs := by rw [Nat.div_lt_iff_lt_mul (Nat.pow_pos Bs_pos), Nat.mul_comm, ← Nat.pow_succ]; exact h
    have h3 : 0 < n / Bs ^ t := Nat.div_pos h1 (Nat.pow_pos Bs_pos)
    simp [Nat.mod_eq_of_lt h2]
    omega
/-- four digits are a limb -/
theorem v16_four {L : List Nat} (h : ∀ x ∈ L, x < 65536) (t : Nat) : v16 ((L.take (4 * t + 4)).drop (4 * t)) = v16 L / Bs ^ t % Bs := by
  rw [List.drop_take, v16_take (fun x hx => h x (List.mem_of_mem_drop hx)), v16_drop h, bs_pow, Nat.add_sub_cancel_left]
  congr 1
  rw [Bs_def]

/-- a canonical list is at least a power -/
theorem dig16_ge {n : Nat} (h : n ≠ 0) : 65536 ^ ((dig16 n).length - 1) ≤ n := by
  induction n using Nat.strongRecOn with
  | _ n ih =>
    rw [dig16_pos h, List.length_cons, Nat.add_sub_cancel]
    by_cases h0 : n / 65536 = 0
    · rw [h0, dig16_zero]; simp; omega
    · have h1 := ih _ (by omega) h0
      have h2 : (dig16 (n / 65536)).length = (dig16 (n / 65536)).length - 1 + 1 := by rw [dig16_pos h0]; simp
      rw [h2, Nat.pow_succ]
      have := Nat.mul_le_mul_right 65536 h1
      omega
theorem dig16_len_le {n k : Nat} (h : n < 65536 ^ k) : (dig16 n).length ≤ k := by
  by_cases h0 : n = 0
  · subst h0; rw [dig16_zero]; exact Nat.zero_le _
  · have h1 := Nat.lt_of_le_of_lt (dig16_ge h0) h
    have h2 := (Nat.pow_lt_pow_iff_right (a := 65536) (by omega)).1 h1
    omega
theorem limbsTo_join {n t : Nat} (h1 : (dig16 n).length ≤ 4 * t) (h2 : t = 0 ∨ 4 * (t - 1) < (dig16 n).length) : limbsTo n t = dig n := by
  have h3 := v16_lt (dig16_lt n)
  rw [v16_dig16] at h3
  refine limbsTo_dig ?_ ?_
  · rw [← bs_pow]; exact Nat.lt_of_lt_of_le h3 (Nat.pow_le_pow_right (by omega) h1)
  · rcases h2 with h2 | h2
    · exact .inl h2
    · right
      have h0 : n ≠ 0 := by intro e; subst e; rw [dig16_zero] at h2; simp at h2
      rw [← bs_pow]
      exact Nat.le_trans (Nat.pow_le_pow_right (by omega) (by omega)) (dig16_ge h0)
end Go.Proofs.YtomhfipgabpfiaaGreatDoor
