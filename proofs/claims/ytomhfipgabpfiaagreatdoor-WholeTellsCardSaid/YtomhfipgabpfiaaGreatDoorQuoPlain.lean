/- Plain facts on shifts of naturals by places, and on the long division. No program in sight. -/
import Derived.Test.YtomhfipgabpfiaaGreatDoorRefPlain
namespace Go.Proofs.YtomhfipgabpfiaaGreatDoor

theorem dig_len_le' {n k : Nat} (h : n < Bs ^ k) : (dig n).length ≤ k := by
  induction k generalizing n with
  | zero =>
    have : n = 0 := by simpa using h
    subst this; rw [dig_zero]; exact Nat.le_refl _
  | succ k ih =>
    by_cases h0 : n = 0
    · subst h0; rw [dig_zero]; exact Nat.zero_le _
    · rw [dig_pos h0, List.length_cons]
      have := ih (n := n / Bs) (by rw [Nat.div_lt_iff_lt_mul Bs_pos, ← Nat.pow_succ]; exact h)
      omega

/-- a limb by what all are worth -/
theorem el_val {A : List Nat} (h : ∀ x ∈ A, x < Bs) (k : Nat) : el A k = val A / Bs ^ k % Bs := by
  induction A generalizing k with
  | nil => simp [el, val]
  | cons x A ih =>
    have hx := h x (List.mem_cons_self ..)
    have hA : ∀ y ∈ A, y < Bs := fun y hy => h y (List.mem_cons_of_mem _ hy)
    cases k with
    | zero => simp [el, val, Nat.mod_eq_of_lt hx]
    | succ k =>
      have e : el (x :: A) (k + 1) = el A k := by simp [el]
      rw [e, ih hA, val, Nat.pow_succ, Nat.mul_comm (Bs ^ k) Bs, ← Nat.div_div_eq_div_mul, Nat.add_mul_div_left _ _ Bs_pos, Nat.div_eq_of_lt hx, Nat.zero_add]

theorem bs_split {b : Nat} (hb : b ≤ 64) : Bs = 2 ^ b * 2 ^ (64 - b) := by
  rw [← Nat.pow_add, Bs_eq]; congr 1; omega

/-- a limb that begins inside a limb -/
theorem shift_limb {N b : Nat} (hb : b ≤ 64) : N / 2 ^ b % Bs = N % Bs / 2 ^ b + N / Bs % Bs * 2 ^ (64 - b) % Bs := by
  obtain ⟨x, hx⟩ : ∃ x, x = N % Bs := ⟨_, rfl⟩
  obtain ⟨M, hM⟩ : ∃ M, M = N / Bs := ⟨_, rfl⟩
  have hxB : x < Bs := by rw [hx]; exact Nat.mod_lt _ Bs_pos
  have hN : N = x + Bs * M := by rw [hx, hM]; exact (Nat.mod_add_div N Bs).symm
  have e1 : M % Bs * 2 ^ (64 - b) % Bs = 2 ^ (64 - b) * (M % 2 ^ b) := by
    rw [Nat.mod_mul_mod, Nat.mul_comm M, bs_split hb, Nat.mul_comm (2 ^ b), Nat.mul_mod_mul_left]
  have p1 := Nat.two_pow_pos b
  have p2 := Nat.two_pow_pos (64 - b)
  have e2 : N / 2 ^ b = x / 2 ^ b + 2 ^ (64 - b) * M := by
    rw [hN, bs_split hb, Nat.mul_assoc, Nat.add_mul_div_left _ _ p1]
  have h1 : x / 2 ^ b < 2 ^ (64 - b) := by
    rw [Nat.div_lt_iff_lt_mul p1, Nat.mul_comm, ← bs_split hb]; exact hxB
  rw [← hx, ← hM, e1, e2, Nat.add_mod, Nat.mul_comm _ M]
  have h2 : M * 2 ^ (64 - b) % Bs = 2 ^ (64 - b) * (M % 2 ^ b) := by
    rw [Nat.mul_comm M, bs_split hb, Nat.mul_comm (2 ^ b), Nat.mul_mod_mul_left]
  have h3 : M % 2 ^ b < 2 ^ b := Nat.mod_lt _ p1
  have h4 : 2 ^ (64 - b) * (M % 2 ^ b + 1) ≤ 2 ^ (64 - b) * 2 ^ b := Nat.mul_le_mul_left _ h3
  rw [Nat.mul_comm (2 ^ (64 - b)) (2 ^ b), ← bs_split hb, Nat.mul_succ] at h4
  have h5 : x / 2 ^ b % Bs = x / 2 ^ b := Nat.mod_eq_of_lt (by omega)
  rw [h2, h5, Nat.mod_eq_of_lt (by omega)]

/-- what 'from' tells of the limbs at and at + 1 -/
noncomputable def fromV (x y b : Nat) : Nat := x / 2 ^ b + y * 2 ^ (64 - b) % Bs
theorem fromV_zero {x y : Nat} (_hx : x < Bs) : fromV x y 0 = x := by
  rw [fromV, Nat.sub_zero, Nat.pow_zero, Nat.div_one, ← Bs_eq, Nat.mul_mod_left, Nat.add_zero]
theorem fromV_lt {x y b : Nat} (hx : x < Bs) (hb : b ≤ 64) : fromV x y b < Bs := by
  have h := shift_limb (N := x + Bs * (y % Bs)) hb
  rw [Nat.add_mul_mod_self_left, Nat.mod_eq_of_lt hx, Nat.add_mul_div_left _ _ Bs_pos, Nat.div_eq_of_lt hx, Nat.zero_add, Nat.mod_mod, Nat.mod_mul_mod] at h
  unfold fromV
  rw [← h]; exact Nat.mod_lt _ Bs_pos

theorem val_pad (m : Nat) (A : List Nat) : val (List.replicate m 0 ++ A) = Bs ^ m * val A := by
  rw [val_append, val_zeros, List.length_replicate]; omega
theorem el_pad (m : Nat) (A : List Nat) (k : Nat) : el (List.replicate m 0 ++ A) (k + m) = el A k := by
  rw [el, List.getElem?_append_right (by simp), List.length_replicate, Nat.add_sub_cancel]; rfl
theorem el_pad_lt {m k : Nat} (A : List Nat) (h : k < m) : el (List.replicate m 0 ++ A) k = 0 := by
  rw [el, List.getElem?_append_left (by simpa using h)]; simp [h]

/-- the limbs of a natural times a power of two -/
theorem fromV_shl {A : List Nat} (hA : ∀ x ∈ A, x < Bs) {n m b i : Nat} (hb : b ≤ 64) (hn : n + b = 64 * m) :
    fromV (el (List.replicate m 0 ++ A) i) (el (List.replicate m 0 ++ A) (i + 1)) b = val A * 2 ^ n / Bs ^ i % Bs := by
  have hA' : ∀ x ∈ List.replicate m 0 ++ A, x < Bs := by
    intro x hx
    rcases List.mem_append.1 hx with hx | hx
    · rw [List.eq_of_mem_replicate hx]; exact Bs_pos
    · exact hA x hx
  have e1 : val A * 2 ^ n = val (List.replicate m 0 ++ A) / 2 ^ b := by
    rw [val_pad, Bs_eq, ← Nat.pow_mul, ← hn, Nat.pow_add, Nat.mul_comm (2 ^ n) (2 ^ b), Nat.mul_assoc, Nat.mul_div_right _ (Nat.two_pow_pos b), Nat.mul_comm]
  rw [e1, Nat.div_div_eq_div_mul, Nat.mul_comm (2 ^ b), ← Nat.div_div_eq_div_mul, shift_limb hb, fromV, el_val hA', el_val hA', Nat.pow_succ, ← Nat.div_div_eq_div_mul]
/-- the limbs of a natural divided by a power of two -/
theorem fromV_shr {A : List Nat} (hA : ∀ x ∈ A, x < Bs) {n m b i : Nat} (hb : b ≤ 64) (hn : n = 64 * m + b) :
    fromV (el A (i + m)) (el A (i + m + 1)) b = val A / 2 ^ n / Bs ^ i % Bs := by
  have e1 : 2 ^ n = Bs ^ m * 2 ^ b := by rw [hn, Nat.pow_add, Bs_eq, ← Nat.pow_mul]
  have e2 : Bs ^ m * 2 ^ b * Bs ^ i = Bs ^ (i + m) * 2 ^ b := by rw [Nat.pow_add]; ac_rfl
  rw [Nat.div_div_eq_div_mul, e1, e2, ← Nat.div_div_eq_div_mul, shift_limb hb, fromV, el_val hA, el_val hA, Nat.pow_succ, ← Nat.div_div_eq_div_mul]

theorem shl_fits {A : List Nat} (hA : ∀ x ∈ A, x < Bs) (n : Nat) : val A * 2 ^ n < Bs ^ (A.length + n / 64 + 1) := by
  have h1 : 2 ^ n ≤ Bs ^ (n / 64 + 1) := by
    rw [Bs_eq, ← Nat.pow_mul]
    exact Nat.pow_le_pow_right (by omega) (by omega)
  rw [Nat.add_assoc, Nat.pow_add]
  have h2 := val_lt hA
  have h3 : 0 < Bs ^ (n / 64 + 1) := Nat.pow_pos Bs_pos
  exact Nat.lt_of_le_of_lt (Nat.mul_le_mul_left _ h1) (Nat.mul_lt_mul_of_pos_right h2 h3)

theorem limbsTo_set (N k m : Nat) : (limbsTo N k ++ List.replicate (m + 1) 0).set k (N / Bs ^ k % Bs) = limbsTo N (k + 1) ++ List.replicate m 0 := by
  have h := set_outs (limbsTo N k) (N / Bs ^ k % Bs) m
  rw [limbsTo_length] at h
  rw [h, limbsTo]

/-- what holds in the rounds of take: k limbs of d times q are taken from those from i on; R0: what all were worth -/
structure TakeInv (D : List Nat) (i q : Nat) (O0 : List Nat) (k over bor : Nat) (O : List Nat) : Prop where
  len : O.length = O0.length
  lt : ∀ x ∈ O, x < Bs
  over_lt : over < Bs
  bor_le : bor ≤ 1
  same : ∀ j, i + k ≤ j → el O j = el O0 j
  val_eq : val O + Bs ^ i * (q * valTo D k) = val O0 + Bs ^ (i + k) * (bor + over)
theorem TakeInv.start {D : List Nat} {i q : Nat} {O0 : List Nat} (h : ∀ x ∈ O0, x < Bs) : TakeInv D i q O0 0 0 0 O0 :=
  ⟨rfl, h, Bs_pos, by omega, fun _ _ => rfl, by simp [valTo]⟩

/-- a limb of a product that is taken, what goes over, what stays, what is borrowed -/
noncomputable def tkLow (x q over : Nat) : Nat := addLo (mulLo x q) over 0
noncomputable def tkOver (x q over : Nat) : Nat := mulHi x q + addHi (mulLo x q) over 0
theorem tk_eq (x q over : Nat) : tkLow x q over + Bs * tkOver x q over = x * q + over := by
  unfold tkLow tkOver
  have h1 : mulLo x q + Bs * mulHi x q = x * q := Nat.mod_add_div _ _
  have h2 : addLo (mulLo x q) over 0 + Bs * addHi (mulLo x q) over 0 = mulLo x q + over + 0 := Nat.mod_add_div _ _
  rw [Nat.mul_add]; omega
theorem tkLow_lt (x q over : Nat) : tkLow x q over < Bs := addLo_lt ..
theorem tkOver_lt {x q over : Nat} (hx : x < Bs) (hq : q < Bs) (ho : over < Bs) : tkOver x q over < Bs := by
  have h := tk_eq x q over
  have h1 : x * q ≤ (Bs - 1) * (Bs - 1) := Nat.mul_le_mul (by omega) (by omega)
  obtain ⟨b, hb⟩ : ∃ b, Bs = b + 1 := ⟨Bs - 1, by have := Bs_pos; omega⟩
  rcases Nat.lt_or_ge (tkOver x q over) Bs with g | g
  · exact g
  · have h2 := Nat.mul_le_mul_left Bs g
    rw [hb] at h1 h2 h ho
    simp only [show b + 1 - 1 = b by omega] at h1
    have e : (b + 1) * (b + 1) = b * b + b + b + 1 := by rw [Nat.mul_succ, Nat.succ_mul]; omega
    omega
theorem sub_eq {x y c : Nat} (hx : x < Bs) (hy : y < Bs) (hc : c ≤ 1) : subLo x y c + y + c = x + Bs * subHi x y c := by
  unfold subLo subHi
  split
  · rw [Nat.mod_eq_of_lt (by omega)]; omega
  · rw [show x + Bs - y - c = (x - y - c) + Bs by omega, Nat.add_mod_right, Nat.mod_eq_of_lt (by omega)]; omega
theorem subHi_le (x y c : Nat) : subHi x y c ≤ 1 := by unfold subHi; split <;> omega

theorem TakeInv.next {D : List Nat} {i q : Nat} {O0 O : List Nat} {k over bor : Nat} (h : TakeInv D i q O0 k over bor O) (hD : ∀ x ∈ D, x < Bs) (hq : q < Bs) (hi : i + k < O0.length) :
    TakeInv D i q O0 (k + 1) (tkOver (el D k) q over) (subHi (el O (i + k)) (tkLow (el D k) q over) bor) (O.set (i + k) (subLo (el O (i + k)) (tkLow (el D k) q over) bor)) := by
  have hlen := h.len
  refine ⟨by rw [List.length_set]; exact h.len, set_lt h.lt (subLo_lt ..), tkOver_lt (el_lt hD k) hq h.over_lt, subHi_le .., fun j hj => ?_, ?_⟩
  · rw [el_set_other (by omega)]; exact h.same j (by omega)
  · have h1 := val_set (O := O) (j := i + k) (by omega) (subLo (el O (i + k)) (tkLow (el D k) q over) bor)
    have h2 := h.val_eq
    have h3 := tk_eq (el D k) q over
    have h4 := sub_eq (el_lt h.lt (i + k)) (tkLow_lt (el D k) q over) h.bor_le
    have e1 : Bs ^ i * (q * valTo D (k + 1)) = Bs ^ i * (q * valTo D k) + Bs ^ (i + k) * (el D k * q) := by
      rw [valTo, Nat.mul_add, Nat.mul_add, Nat.pow_add]
      congr 1
      ac_rfl
    have e2 : Bs ^ (i + (k + 1)) = Bs ^ (i + k) * Bs := by rw [← Nat.add_assoc, Nat.pow_succ]
    rw [e1, e2, Nat.mul_assoc]
    have h5 : Bs ^ (i + k) * (tkLow (el D k) q over + Bs * tkOver (el D k) q over) = Bs ^ (i + k) * (el D k * q + over) := by rw [h3]
    have h6 : Bs ^ (i + k) * (subLo (el O (i + k)) (tkLow (el D k) q over) bor + tkLow (el D k) q over + bor) = Bs ^ (i + k) * (el O (i + k) + Bs * subHi (el O (i + k)) (tkLow (el D k) q over) bor) := by rw [h4]
    simp only [Nat.mul_add] at h2 h5 h6 ⊢
    omega

theorem TakeInv.fin {D : List Nat} {i q : Nat} {O0 O : List Nat} {over bor : Nat} (h : TakeInv D i q O0 D.length over bor O) (hi : i + D.length < O0.length) :
    val (O.set (i + D.length) (subLo (el O (i + D.length)) over bor)) + Bs ^ i * (q * val D) = val O0 + Bs ^ (i + D.length + 1) * subHi (el O (i + D.length)) over bor := by
  have hlen := h.len
  have h1 := val_set (O := O) (j := i + D.length) (by omega) (subLo (el O (i + D.length)) over bor)
  have h2 := h.val_eq
  rw [valTo_all (Nat.le_refl _)] at h2
  have h4 := sub_eq (el_lt h.lt (i + D.length)) h.over_lt h.bor_le
  have h6 : Bs ^ (i + D.length) * (subLo (el O (i + D.length)) over bor + over + bor) = Bs ^ (i + D.length) * (el O (i + D.length) + Bs * subHi (el O (i + D.length)) over bor) := by rw [h4]
  rw [Nat.pow_succ, Nat.mul_assoc]
  simp only [Nat.mul_add] at h2 h6 ⊢
  omega

/-- what holds in the rounds of back -/
structure BackInv (D : List Nat) (i : Nat) (O0 : List Nat) (k car : Nat) (O : List Nat) : Prop where
  len : O.length = O0.length
  lt : ∀ x ∈ O, x < Bs
  car_le : car ≤ 1
  same : ∀ j, i + k ≤ j → el O j = el O0 j
  val_eq : val O + Bs ^ (i + k) * car = val O0 + Bs ^ i * valTo D k
theorem BackInv.start {D : List Nat} {i : Nat} {O0 : List Nat} (h : ∀ x ∈ O0, x < Bs) : BackInv D i O0 0 0 O0 :=
  ⟨rfl, h, by omega, fun _ _ => rfl, by simp [valTo]⟩
theorem add_eq (x y c : Nat) : addLo x y c + Bs * addHi x y c = x + y + c := Nat.mod_add_div _ _
theorem BackInv.next {D : List Nat} {i : Nat} {O0 O : List Nat} {k car : Nat} (h : BackInv D i O0 k car O) (hD : ∀ x ∈ D, x < Bs) (hi : i + k < O0.length) :
    BackInv D i O0 (k + 1) (addHi (el O (i + k)) (el D k) car) (O.set (i + k) (addLo (el O (i + k)) (el D k) car)) := by
  have hlen := h.len
  refine ⟨by rw [List.length_set]; exact h.len, set_lt h.lt (addLo_lt ..), addHi_le (el_lt h.lt _) (el_lt hD _) h.car_le, fun j hj => ?_, ?_⟩
  · rw [el_set_other (by omega)]; exact h.same j (by omega)
  · have h1 := val_set (O := O) (j := i + k) (by omega) (addLo (el O (i + k)) (el D k) car)
    have h2 := h.val_eq
    have h4 := add_eq (el O (i + k)) (el D k) car
    have e1 : Bs ^ i * valTo D (k + 1) = Bs ^ i * valTo D k + Bs ^ (i + k) * el D k := by
      rw [valTo, Nat.mul_add, Nat.pow_add, Nat.mul_assoc]
    have e2 : Bs ^ (i + (k + 1)) = Bs ^ (i + k) * Bs := by rw [← Nat.add_assoc, Nat.pow_succ]
    rw [e1, e2, Nat.mul_assoc]
    have h6 : Bs ^ (i + k) * (addLo (el O (i + k)) (el D k) car + Bs * addHi (el O (i + k)) (el D k) car) = Bs ^ (i + k) * (el O (i + k) + el D k + car) := by rw [h4]
    simp only [Nat.mul_add] at h6 ⊢
    omega
theorem BackInv.fin {D : List Nat} {i : Nat} {O0 O : List Nat} {car : Nat} (h : BackInv D i O0 D.length car O) (hi : i + D.length < O0.length) :
    val (O.set (i + D.length) (addLo (el O (i + D.length)) 0 car)) + Bs ^ (i + D.length + 1) * addHi (el O (i + D.length)) 0 car = val O0 + Bs ^ i * val D := by
  have hlen := h.len
  have h1 := val_set (O := O) (j := i + D.length) (by omega) (addLo (el O (i + D.length)) 0 car)
  have h2 := h.val_eq
  rw [valTo_all (Nat.le_refl _)] at h2
  have h4 := add_eq (el O (i + D.length)) 0 car
  have h6 : Bs ^ (i + D.length) * (addLo (el O (i + D.length)) 0 car + Bs * addHi (el O (i + D.length)) 0 car) = Bs ^ (i + D.length) * (el O (i + D.length) + 0 + car) := by rw [h4]
  rw [Nat.pow_succ, Nat.mul_assoc]
  simp only [Nat.mul_add] at h6 ⊢
  omega

theorem val_top {O : List Nat} (hO : ∀ x ∈ O, x < Bs) {k : Nat} (h : ∀ j, k ≤ j → el O j = 0) : val O < Bs ^ k := by
  have key : ∀ m, valTo O (k + m) = valTo O k := by
    intro m
    induction m with
    | zero => rfl
    | succ m ih => rw [← Nat.add_assoc, valTo, ih, h _ (by omega)]; simp
  rw [← valTo_all (A := O) (k := k + O.length) (by omega), key]
  exact valTo_lt hO k
theorem top_zero {O : List Nat} (hO : ∀ x ∈ O, x < Bs) {k : Nat} (h : val O < Bs ^ k) (j : Nat) (hj : k ≤ j) : el O j = 0 := by
  rw [el_val hO, Nat.div_eq_of_lt (Nat.lt_of_lt_of_le h (Nat.pow_le_pow_right Bs_pos hj))]; exact Nat.zero_mod _

/-- what is guessed of a limb of the quotient -/
noncomputable def guessN (hi lo d : Nat) : Nat := if d ≤ hi then Bs - 1 else (hi * Bs + lo) / d
theorem guess_lt {hi lo d : Nat} (hlo : lo < Bs) : guessN hi lo d < Bs := by
  unfold guessN
  split
  · have := Bs_pos; omega
  · rename_i h
    rw [Nat.div_lt_iff_lt_mul (by omega)]
    have : (hi + 1) * Bs ≤ d * Bs := Nat.mul_le_mul_right _ (by omega)
    rw [Nat.succ_mul] at this
    rw [Nat.mul_comm Bs]; omega
/-- the guess is not too little: R less than D times a power, D's highest limb d, R's two highest ones -/
theorem guess_ge {R D d hi lo i n : Nat} (hD : d * Bs ^ n ≤ D) (hd : 0 < d) (hR : R < D * Bs ^ (i + 1)) (hR2 : R < (hi * Bs + lo + 1) * Bs ^ (i + n)) :
    R / (D * Bs ^ i) ≤ guessN hi lo d := by
  have p := Nat.pow_pos (n := i) Bs_pos
  have pn := Nat.pow_pos (n := n) Bs_pos
  have hD0 : 0 < D := Nat.lt_of_lt_of_le (Nat.mul_pos hd pn) hD
  unfold guessN
  split
  · have h1 : R / (D * Bs ^ i) < Bs := by
      rw [Nat.div_lt_iff_lt_mul (Nat.mul_pos hD0 p)]
      rw [Nat.pow_succ] at hR
      rw [Nat.mul_comm Bs, Nat.mul_assoc]
      exact hR
    omega
  · rw [Nat.le_div_iff_mul_le hd]
    have h1 : R / (D * Bs ^ i) * (D * Bs ^ i) ≤ R := Nat.div_mul_le_self _ _
    generalize R / (D * Bs ^ i) = t at *
    have h2 : t * (d * Bs ^ n * Bs ^ i) ≤ t * (D * Bs ^ i) := Nat.mul_le_mul_left _ (Nat.mul_le_mul_right _ hD)
    have h3 : t * (d * Bs ^ n * Bs ^ i) = t * d * Bs ^ (i + n) := by rw [Nat.pow_add]; ac_rfl
    rw [h3] at h2
    have h4 := Nat.lt_of_le_of_lt (Nat.le_trans h2 h1) hR2
    have h5 := Nat.lt_of_mul_lt_mul_right h4
    omega

/-- before a limb of the quotient is reckoned: those from i on stand in Q, R is left -/
structure DivInv (V D : Nat) (n i : Nat) (Q O : List Nat) : Prop where
  ltO : ∀ x ∈ O, x < Bs
  ltQ : ∀ x ∈ Q, x < Bs
  zero : ∀ j, j < i → el Q j = 0
  val_eq : val Q * D + val O = V
  less : val O < D * Bs ^ i

theorem val_set_zero {Q : List Nat} {i x : Nat} (h : i < Q.length) (h0 : el Q i = 0) : val (Q.set i x) = val Q + Bs ^ i * x := by
  have := val_set h x
  rw [h0] at this
  omega


theorem DivInv.start {V D n k : Nat} {O : List Nat} (hO : ∀ x ∈ O, x < Bs) (hv : val O = V) (hl : V < D * Bs ^ k) : DivInv V D n k (List.replicate k 0) O :=
  ⟨hO, (fun x hx => by rw [List.eq_of_mem_replicate hx]; exact Bs_pos), (fun j hj => by simp [el, hj]), by rw [val_zeros, hv]; simp, by rw [hv]; exact hl⟩
/-- a limb of the quotient is reckoned -/
theorem DivInv.step {V D n j : Nat} {Q O O' : List Nat} {q : Nat} (h : DivInv V D n (j + 1) Q O) (hj : j < Q.length) (hq : q < Bs) (hO : ∀ x ∈ O', x < Bs) (hv : val O' + Bs ^ j * (q * D) = val O) (hl : val O' < D * Bs ^ j) :
    DivInv V D n j (Q.set j q) O' := by
  refine ⟨hO, set_lt h.ltQ hq, fun i hi => ?_, ?_, hl⟩
  · rw [el_set_other (by omega)]; exact h.zero i (by omega)
  · rw [val_set_zero hj (h.zero j (by omega)), Nat.add_mul]
    have := h.val_eq
    have e : Bs ^ j * q * D = Bs ^ j * (q * D) := Nat.mul_assoc _ _ _
    omega
theorem take_done {R D j q o : Nat} (h : o + Bs ^ j * (q * D) = R) (hD : 0 < D) (hq : R / (D * Bs ^ j) ≤ q) : o < D * Bs ^ j := by
  have p : 0 < D * Bs ^ j := Nat.mul_pos hD (Nat.pow_pos Bs_pos)
  have h1 := Nat.lt_mul_div_succ R p
  have h2 : D * Bs ^ j * (R / (D * Bs ^ j) + 1) ≤ D * Bs ^ j * (q + 1) := Nat.mul_le_mul_left _ (by omega)
  have e : D * Bs ^ j * q = Bs ^ j * (q * D) := by ac_rfl
  rw [Nat.mul_succ, Nat.mul_succ, e] at h2
  rw [Nat.mul_succ] at h1
  omega
/-- it was too much: by so many times the divisor less one -/
structure TooMuch (R D j T qc o : Nat) : Prop where
  val_eq : o + Bs ^ j * ((qc + 1) * D) = R + Bs ^ T
  less : o < Bs ^ T
theorem TooMuch.of_take {R D j T q o : Nat} (h : o + Bs ^ j * (q * D) = R + Bs ^ T * 1) (hl : o < Bs ^ T) : 1 ≤ q ∧ TooMuch R D j T (q - 1) o := by
  have h1 : 1 ≤ q := by
    rcases Nat.eq_zero_or_pos q with g | g
    · subst g; simp at h; omega
    · exact g
  exact ⟨h1, ⟨by rw [show q - 1 + 1 = q by omega, h, Nat.mul_one], hl⟩⟩
theorem TooMuch.more {R D j T qc o o' : Nat} (h : TooMuch R D j T qc o) (hb : o' + Bs ^ T * 0 = o + Bs ^ j * D) (hl : o' < Bs ^ T) : 1 ≤ qc ∧ TooMuch R D j T (qc - 1) o' := by
  have h1 := h.val_eq
  rw [Nat.succ_mul, Nat.mul_add] at h1
  refine TooMuch.of_take ?_ hl
  rw [Nat.mul_one]; omega
theorem TooMuch.done {R D j T qc o o' : Nat} (h : TooMuch R D j T qc o) (hb : o' + Bs ^ T * 1 = o + Bs ^ j * D) : o' + Bs ^ j * (qc * D) = R ∧ o' < D * Bs ^ j := by
  have h1 := h.val_eq
  have h2 := h.less
  rw [Nat.succ_mul, Nat.mul_add] at h1
  rw [Nat.mul_comm D]
  omega

theorem two_limbs {O : List Nat} (hO : ∀ x ∈ O, x < Bs) {k : Nat} (h : val O < Bs ^ (k + 2)) : val O < (el O (k + 1) * Bs + el O k + 1) * Bs ^ k := by
  have p := Nat.pow_pos (n := k) Bs_pos
  obtain ⟨M, hM⟩ : ∃ M, M = val O / Bs ^ k := ⟨_, rfl⟩
  have e1 : el O k = M % Bs := by rw [el_val hO, hM]
  have hMB : M < Bs * Bs := by
    rw [hM, Nat.div_lt_iff_lt_mul p]
    rw [show Bs * Bs * Bs ^ k = Bs ^ (k + 2) by rw [Nat.pow_succ, Nat.pow_succ]; ac_rfl]
    exact h
  have e2 : el O (k + 1) = M / Bs := by
    rw [el_val hO, Nat.pow_succ, ← Nat.div_div_eq_div_mul, ← hM, Nat.mod_eq_of_lt]
    rw [Nat.div_lt_iff_lt_mul Bs_pos]; exact hMB
  have e3 : el O (k + 1) * Bs + el O k = M := by rw [e1, e2, Nat.mul_comm]; exact Nat.div_add_mod M Bs
  rw [e3, hM]
  have := Nat.lt_mul_div_succ (val O) p
  rw [Nat.mul_comm]; exact this

theorem dig_len_eq {N k : Nat} (h1 : Bs ^ k ≤ N) (h2 : N < Bs ^ (k + 1)) : (dig N).length = k + 1 := by
  have a := dig_len_le' h2
  have b := val_lt (dig_lt N)
  rw [val_dig] at b
  have c := (Nat.pow_lt_pow_iff_right (a := Bs) two_le_Bs).1 (Nat.lt_of_le_of_lt h1 b)
  omega
theorem dig_len_bounds {N n : Nat} (h : (dig N).length = n + 1) : Bs ^ n ≤ N ∧ N < Bs ^ (n + 1) := by
  refine ⟨?_, by rw [← h]; have := val_lt (dig_lt N); rwa [val_dig] at this⟩
  rcases Nat.lt_or_ge N (Bs ^ n) with g | g
  · have := dig_len_le' g; omega
  · exact g

/-- the divisor, shifted so that its highest place is 1 -/
theorem norm_div {b p s : Nat} (h : (dig b).length = p + 1) (hs : s = 64 - bl (el (dig b) p)) : Bs ^ p ≤ b * 2 ^ s ∧ b * 2 ^ s < Bs ^ (p + 1) ∧ s ≤ 63 := by
  obtain ⟨h1, h2⟩ := dig_len_bounds h
  have pp := Nat.pow_pos (n := p) Bs_pos
  obtain ⟨t, ht⟩ : ∃ t, t = el (dig b) p := ⟨_, rfl⟩
  have e1 : t = b / Bs ^ p := by
    rw [ht, el_val (dig_lt b), val_dig, Nat.mod_eq_of_lt]
    rw [Nat.div_lt_iff_lt_mul pp, Nat.mul_comm, ← Nat.pow_succ]; exact h2
  have t1 : 1 ≤ t := by rw [e1]; exact Nat.div_pos h1 pp
  have t2 : t < Bs := by rw [ht]; exact el_lt (dig_lt b) p
  have b1 : bl t ≤ 64 := bl_le_64 t2
  have b2 : bl t ≠ 0 := by have := bl_eq_zero t; omega
  rw [← ht] at hs
  have h3 : t + 1 ≤ 2 ^ bl t := lt_bl t
  have h4 : b < Bs ^ p * (t + 1) := by rw [e1]; exact Nat.lt_mul_div_succ b pp
  have h5 : Bs ^ p * (t + 1) ≤ Bs ^ p * 2 ^ bl t := Nat.mul_le_mul_left _ h3
  have h6 : b * 2 ^ s < Bs ^ p * 2 ^ bl t * 2 ^ s := Nat.mul_lt_mul_of_pos_right (Nat.lt_of_lt_of_le h4 h5) (Nat.two_pow_pos s)
  have h7 : Bs ^ p * 2 ^ bl t * 2 ^ s = Bs ^ (p + 1) := by
    rw [Nat.mul_assoc, ← Nat.pow_add, show bl t + s = 64 by omega, ← Bs_eq, Nat.pow_succ]
  refine ⟨Nat.le_trans h1 (Nat.le_mul_of_pos_right _ (Nat.two_pow_pos s)), by rw [← h7]; exact h6, by omega⟩

theorem div_fin {a b s q R : Nat} (h : q * (b * 2 ^ s) + R = a * 2 ^ s) (hR : R < b * 2 ^ s) : q = a / b ∧ R / 2 ^ s = a % b := by
  have p := Nat.two_pow_pos s
  have hb : 0 < b := by rcases Nat.eq_zero_or_pos b with g | g; (subst g; simp at hR); exact g
  have e1 : q * (b * 2 ^ s) = q * b * 2 ^ s := by rw [Nat.mul_assoc]
  rw [e1] at h
  have h1 : R = (a - q * b) * 2 ^ s := by rw [Nat.sub_mul]; omega
  have h2 : a - q * b < b := by rw [h1] at hR; exact Nat.lt_of_mul_lt_mul_right hR
  have h3 : q * b ≤ a := by
    have : q * b * 2 ^ s ≤ a * 2 ^ s := by omega
    exact Nat.le_of_mul_le_mul_right this p
  have h4 : a = b * q + (a - q * b) := by rw [Nat.mul_comm b]; omega
  refine ⟨?_, ?_⟩
  · rw [h4, Nat.mul_add_div hb, Nat.div_eq_of_lt h2]; rfl
  · rw [h1, Nat.mul_div_cancel _ p]
    conv => rhs; rw [h4]
    rw [Nat.mul_add_mod, Nat.mod_eq_of_lt h2]

theorem div_start {a b s la p : Nat} (ha : a < Bs ^ la) (hb : Bs ^ p ≤ b) (hpl : p ≤ la) : a * 2 ^ s < b * 2 ^ s * Bs ^ (la - p) := by
  have h1 : Bs ^ la ≤ b * Bs ^ (la - p) := by
    have e : Bs ^ la = Bs ^ p * Bs ^ (la - p) := by rw [← Nat.pow_add]; congr 1; omega
    rw [e]; exact Nat.mul_le_mul_right _ hb
  have h2 : b * 2 ^ s * Bs ^ (la - p) = b * Bs ^ (la - p) * 2 ^ s := by ac_rfl
  rw [h2]
  exact Nat.mul_lt_mul_of_pos_right (Nat.lt_of_lt_of_le ha h1) (Nat.two_pow_pos s)
end Go.Proofs.YtomhfipgabpfiaaGreatDoor
