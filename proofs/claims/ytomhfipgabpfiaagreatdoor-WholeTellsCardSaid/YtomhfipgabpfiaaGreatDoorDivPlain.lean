/- Plain facts on the division of two words by one. No program in sight. -/
import Derived.Test.YtomhfipgabpfiaaGreatDoorPlain
namespace Go.Proofs.YtomhfipgabpfiaaGreatDoor

/-- half a word -/
theorem hs_ex : ∃ b : Nat, b = 4294967296 := ⟨_, rfl⟩
noncomputable def Hs : Nat := Classical.choose hs_ex
theorem Hs_def : Hs = 4294967296 := Classical.choose_spec hs_ex
theorem Hs_Bs : Hs * Hs = Bs := by rw [Hs_def, Bs_def]

/-- what holds in the rounds of the guess of half a quotient: u times Hs and d, by y = y1 times Hs and y0 -/
structure Half (u d y1 y0 q r : Nat) : Prop where
  eq : q * y1 + r = u
  r_lt : r < Hs
  q_le : q ≤ Hs + 1
  ge : (u * Hs + d) / (y1 * Hs + y0) ≤ q

theorem Half.start {u d y1 y0 : Nat} (hu : u < y1 * Hs + y0) (hd : d < Hs) (h1 : Hs ≤ 2 * y1) (h1' : y1 < Hs) (h0 : y0 < Hs) : Half u d y1 y0 (u / y1) (u - u / y1 * y1) := by
  have hy : 0 < y1 := by rw [Hs_def] at h1; omega
  have hdm := Nat.div_add_mod u y1
  have hm := Nat.mod_lt u hy
  rw [Nat.mul_comm] at hdm
  refine ⟨by omega, by omega, ?_, ?_⟩
  · have : u / y1 < Hs + 2 := by
      rw [Nat.div_lt_iff_lt_mul hy, Nat.add_mul, Nat.mul_comm Hs y1]
      omega
    omega
  · rw [Nat.div_le_iff_le_mul_add_pred (by rw [Nat.add_pos_iff_pos_or_pos]; left; exact Nat.mul_pos hy (by rw [Hs_def]; omega))]
    have e : u = u / y1 * y1 + u % y1 := by omega
    generalize u / y1 = q at *
    generalize u % y1 = r at *
    subst e
    have h2 : (y1 * Hs + y0) * q = q * y1 * Hs + y0 * q := by rw [Nat.add_mul]; ac_rfl
    rw [h2, Nat.add_mul]
    have h3 : r * Hs ≤ (y1 - 1) * Hs := Nat.mul_le_mul_right _ (by omega)
    have h4 : y1 * Hs = (y1 - 1) * Hs + Hs := by
      obtain ⟨z, rfl⟩ : ∃ z, y1 = z + 1 := ⟨y1 - 1, by omega⟩
      rw [Nat.add_sub_cancel, Nat.add_mul, Nat.one_mul]
    generalize q * y1 * Hs = a at *
    generalize y0 * q = b at *
    generalize r * Hs = c at *
    generalize (y1 - 1) * Hs = e at *
    omega

/-- the guess is right -/
theorem Half.right {u d y1 y0 q r : Nat} (h : Half u d y1 y0 q r) (hy : 0 < y1) (hc : q * y0 ≤ Hs * r + d) : q = (u * Hs + d) / (y1 * Hs + y0) := by
  refine Nat.le_antisymm ?_ h.ge
  have hp : 0 < y1 * Hs + y0 := by
    have := Nat.mul_pos hy (by rw [Hs_def]; omega : 0 < Hs); omega
  rw [Nat.le_div_iff_mul_le hp]
  have e := h.eq
  have : u * Hs = q * y1 * Hs + r * Hs := by rw [← e, Nat.add_mul]
  rw [this, Nat.mul_add, ← Nat.mul_assoc, Nat.mul_comm r Hs]
  omega

/-- the guess is too great -/
theorem Half.over {u d y1 y0 q r : Nat} (h : Half u d y1 y0 q r) (hu : u < y1 * Hs + y0) (hd : d < Hs) (hc : Hs ≤ q ∨ Hs * r + d < q * y0) : (u * Hs + d) / (y1 * Hs + y0) + 1 ≤ q := by
  have hp : 0 < y1 * Hs + y0 := by omega
  rw [Nat.add_one_le_iff, Nat.div_lt_iff_lt_mul hp]
  rcases hc with hc | hc
  · have h1 : (u + 1) * Hs ≤ (y1 * Hs + y0) * Hs := Nat.mul_le_mul_right _ hu
    have h2 : Hs * (y1 * Hs + y0) ≤ q * (y1 * Hs + y0) := Nat.mul_le_mul_right _ hc
    rw [Nat.add_mul, Nat.one_mul] at h1
    rw [Nat.mul_comm Hs] at h2
    omega
  · have e := h.eq
    have : u * Hs = q * y1 * Hs + r * Hs := by rw [← e, Nat.add_mul]
    rw [this, Nat.mul_add, ← Nat.mul_assoc, Nat.mul_comm r Hs]
    omega

/-- one less -/
theorem Half.next {u d y1 y0 q r : Nat} (h : Half u d y1 y0 q r) (hu : u < y1 * Hs + y0) (hd : d < Hs) (hc : Hs ≤ q ∨ Hs * r + d < q * y0) (hr : r + y1 < Hs) : Half u d y1 y0 (q - 1) (r + y1) := by
  have ho := h.over hu hd hc
  have e := h.eq
  have hq1 : 1 ≤ q := Nat.le_trans (Nat.le_add_left 1 _) ho
  obtain ⟨p, rfl⟩ : ∃ p, q = p + 1 := ⟨q - 1, (Nat.sub_add_cancel hq1).symm⟩
  rw [Nat.add_mul, Nat.one_mul] at e
  exact ⟨by rw [Nat.add_sub_cancel]; omega, hr, by have := h.q_le; omega, by omega⟩
theorem Half.last {u d y1 y0 q r : Nat} (h : Half u d y1 y0 q r) (hu : u < y1 * Hs + y0) (hd : d < Hs) (_hy : 0 < y1) (h0 : y0 < Hs) (hc : Hs ≤ q ∨ Hs * r + d < q * y0) (hr : Hs ≤ r + y1) : q - 1 = (u * Hs + d) / (y1 * Hs + y0) := by
  have ho := h.over hu hd hc
  have e := h.eq
  have hq := h.q_le
  have hq1 : 1 ≤ q := Nat.le_trans (Nat.le_add_left 1 _) ho
  obtain ⟨p, rfl⟩ : ∃ p, q = p + 1 := ⟨q - 1, (Nat.sub_add_cancel hq1).symm⟩
  rw [Nat.add_mul, Nat.one_mul] at e
  rw [Nat.add_sub_cancel] at *
  refine Nat.le_antisymm ?_ (by omega)
  have hp : 0 < y1 * Hs + y0 := by omega
  rw [Nat.le_div_iff_mul_le hp]
  have h1 : p * y0 ≤ Hs * (r + y1) := Nat.mul_le_mul (by omega) (by omega)
  have : u * Hs = p * y1 * Hs + (r + y1) * Hs := by rw [← e, ← Nat.add_mul]; congr 1; omega
  rw [this, Nat.mul_add, ← Nat.mul_assoc, Nat.mul_comm (r + y1) Hs]
  omega

/-- y, shifted so that its highest place is 1 -/
theorem norm_lt {y s : Nat} (hy : y ≠ 0) (hl : y < Bs) (hs : s = 64 - bl y) : y * 2 ^ s < Bs ∧ Bs ≤ 2 * (y * 2 ^ s) := by
  have h64 := bl_le_64 hl
  obtain ⟨k, hk⟩ : ∃ k, bl y = k + 1 := by
    cases e : bl y with
    | zero => exact absurd ((bl_eq_zero y).1 e) hy
    | succ k => exact ⟨k, rfl⟩
  have a : 2 ^ k ≤ y := by
    rcases Nat.lt_or_ge y (2 ^ k) with g | g
    · have := (bl_le_iff y k).2 g; omega
    · exact g
  have b : y < 2 ^ (k + 1) := by rw [← hk]; exact lt_bl _
  have e1 : 2 ^ (k + 1) * 2 ^ s = Bs := by rw [← Nat.pow_add, Bs_eq]; congr 1; omega
  have e2 : 2 * (2 ^ k * 2 ^ s) = Bs := by rw [← e1, Nat.pow_succ, Nat.mul_comm (2 ^ k) 2, Nat.mul_assoc]
  constructor
  · rw [← e1]; exact Nat.mul_lt_mul_of_pos_right b (Nat.two_pow_pos s)
  · rw [← e2]; exact Nat.mul_le_mul_left 2 (Nat.mul_le_mul_right _ a)

theorem two_pow_split {s : Nat} (hs : s ≤ 64) : 2 ^ (64 - s) * 2 ^ s = Bs := by rw [← Nat.pow_add, Bs_eq]; congr 1; omega

/-- what is divided, shifted likewise: its high and its low word -/
theorem norm_high {hi lo s : Nat} (hs : s ≤ 64) : (hi * Bs + lo) * 2 ^ s / Bs = hi * 2 ^ s + lo / 2 ^ (64 - s) := by
  have e := two_pow_split hs
  have h1 : (hi * Bs + lo) * 2 ^ s = lo * 2 ^ s + hi * 2 ^ s * Bs := by rw [Nat.add_mul]; rw [Nat.mul_right_comm, Nat.add_comm]
  have h2 : lo * 2 ^ s / Bs = lo / 2 ^ (64 - s) := by rw [← e]; exact Nat.mul_div_mul_right _ _ (Nat.two_pow_pos s)
  rw [h1, Nat.add_mul_div_right _ _ Bs_pos, h2, Nat.add_comm]
theorem norm_low {hi lo s : Nat} : (hi * Bs + lo) * 2 ^ s % Bs = lo * 2 ^ s % Bs := by
  have h1 : (hi * Bs + lo) * 2 ^ s = lo * 2 ^ s + hi * 2 ^ s * Bs := by rw [Nat.add_mul]; rw [Nat.mul_right_comm, Nat.add_comm]
  rw [h1, Nat.add_mul_mod_self_right]
theorem norm_less {hi lo y s : Nat} (hh : hi < y) (hl : lo < Bs) : (hi * Bs + lo) * 2 ^ s / Bs < y * 2 ^ s := by
  rw [Nat.div_lt_iff_lt_mul Bs_pos]
  have h1 : hi * Bs + lo < y * Bs := by
    have := Nat.mul_le_mul_right Bs hh
    rw [Nat.succ_mul] at this
    omega
  rw [Nat.mul_right_comm]
  exact Nat.mul_lt_mul_of_pos_right h1 (Nat.two_pow_pos s)

/-- two halves of a quotient -/
theorem two_halves {N y s u v Y : Nat} (hu : u = N * 2 ^ s / Bs) (hv : v = N * 2 ^ s % Bs) (hY : Y = y * 2 ^ s) (hy : 0 < y) :
    N / y = (u * Hs + v / Hs) / Y * Hs + ((u * Hs + v / Hs) % Y * Hs + v % Hs) / Y ∧ N % y = ((u * Hs + v / Hs) % Y * Hs + v % Hs) % Y / 2 ^ s := by
  have h2 := Nat.two_pow_pos s
  have hYp : 0 < Y := by rw [hY]; exact Nat.mul_pos hy h2
  have e1 : N * 2 ^ s = u * Bs + v := by rw [hu, hv, Nat.mul_comm _ Bs]; exact (Nat.div_add_mod _ _).symm
  have e2 := Nat.div_add_mod v Hs
  have e3 := Nat.div_add_mod (u * Hs + v / Hs) Y
  have e4 := Nat.div_add_mod ((u * Hs + v / Hs) % Y * Hs + v % Hs) Y
  have hm := Nat.mod_lt ((u * Hs + v / Hs) % Y * Hs + v % Hs) hYp
  generalize (u * Hs + v / Hs) / Y = q1 at *
  generalize (u * Hs + v / Hs) % Y = r1 at *
  generalize (r1 * Hs + v % Hs) / Y = q0 at *
  generalize (r1 * Hs + v % Hs) % Y = r0 at *
  have e5 : N * 2 ^ s = r0 + Y * (q1 * Hs + q0) := by
    rw [e1, ← Hs_Bs, ← Nat.mul_assoc]
    have : u * Hs * Hs + v = (u * Hs + v / Hs) * Hs + v % Hs := by rw [Nat.add_mul, Nat.mul_comm (v / Hs)]; omega
    rw [this, ← e3, Nat.add_mul, Nat.mul_add, Nat.mul_assoc]
    omega
  have e6 : N * 2 ^ s / Y = q1 * Hs + q0 := by rw [e5, Nat.add_mul_div_left _ _ hYp, Nat.div_eq_of_lt hm, Nat.zero_add]
  have e7 : N * 2 ^ s % Y = r0 := by rw [e5, Nat.add_mul_mod_self_left, Nat.mod_eq_of_lt hm]
  rw [hY, Nat.mul_div_mul_right _ _ h2] at e6
  rw [hY, Nat.mul_mod_mul_right] at e7
  exact ⟨e6, by rw [← e7, Nat.mul_div_cancel _ h2]⟩

theorem Half.q_bound {u d y1 y0 q r : Nat} (h : Half u d y1 y0 q r) (h0 : y0 < Hs) : q * y0 ≤ Bs - 1 := by
  have := Nat.mul_le_mul h.q_le (show y0 ≤ Hs - 1 by omega)
  have e : (Hs + 1) * (Hs - 1) = Bs - 1 := by rw [Hs_def, Bs_def]
  omega
theorem quot_lt {u d Y : Nat} (hu : u < Y) (hd : d < Hs) : (u * Hs + d) / Y < Hs := by
  rw [Nat.div_lt_iff_lt_mul (by omega)]
  have := Nat.mul_le_mul_right Hs hu
  rw [Nat.succ_mul] at this
  rw [Nat.mul_comm Hs]
  omega
/-- the bounds of a half step, in the numbers of the walk -/
structure HalfOk (u d y1 y0 : Nat) : Prop where
  hu : u < y1 * Hs + y0
  hd : (d : Int) ≤ 4294967295
  hy : (2147483648 : Int) ≤ (y1 : Int)
  h0 : (y0 : Int) ≤ 4294967295

theorem HalfOk.d {u d y1 y0 : Nat} (k : HalfOk u d y1 y0) : d < Hs := by have := k.hd; rw [Hs_def]; omega
theorem HalfOk.y {u d y1 y0 : Nat} (k : HalfOk u d y1 y0) : 0 < y1 := by have := k.hy; omega
theorem HalfOk.z {u d y1 y0 : Nat} (k : HalfOk u d y1 y0) : y0 < Hs := by have := k.h0; rw [Hs_def]; omega
theorem half_c {d q r p y0 : Nat} (hp : p = q * y0) (hc : (4294967296 : Int) ≤ (q : Int) ∨ (4294967296 : Int) * (r : Int) + (d : Int) < (p : Int)) : Hs ≤ q ∨ Hs * r + d < q * y0 := by
  rw [Hs_def, ← hp]; omega

theorem Half.last' {u d y1 y0 q r p : Nat} (h : Half u d y1 y0 q r) (k : HalfOk u d y1 y0) (hp : p = q * y0) (hr : (4294967296 : Int) ≤ (r : Int) + (y1 : Int))
    (hc : (4294967296 : Int) ≤ (q : Int) ∨ (4294967296 : Int) * (r : Int) + (d : Int) < (p : Int)) : (q : Int) - 1 = ((u * Hs + d) / (y1 * Hs + y0) : Nat) := by
  have h1 := h.last k.hu k.d k.y k.z (half_c hp hc) (by rw [Hs_def]; omega)
  have h2 := h.over k.hu k.d (half_c hp hc)
  omega
theorem Half.next' {u d y1 y0 q r p : Nat} (h : Half u d y1 y0 q r) (k : HalfOk u d y1 y0) (hp : p = q * y0) (hr : ¬ (4294967296 : Int) ≤ (r : Int) + (y1 : Int))
    (hc : (4294967296 : Int) ≤ (q : Int) ∨ (4294967296 : Int) * (r : Int) + (d : Int) < (p : Int)) : Half u d y1 y0 (q - 1) (r + y1) :=
  h.next k.hu k.d (half_c hp hc) (by rw [Hs_def]; omega)
theorem Half.right' {u d y1 y0 q r p : Nat} (h : Half u d y1 y0 q r) (k : HalfOk u d y1 y0) (hp : p = q * y0)
    (hc : ¬ (4294967296 : Int) * (r : Int) + (d : Int) < (p : Int)) : (q : Int) = ((u * Hs + d) / (y1 * Hs + y0) : Nat) := by
  have := h.right k.y (by rw [Hs_def, ← hp]; omega)
  omega
theorem Half.one {q p y0 : Nat} (hp : p = q * y0) (h : (0 : Int) < (p : Int)) : (1 : Int) ≤ (q : Int) := by
  rcases Nat.eq_zero_or_pos q with g | g
  · subst g; simp at hp; omega
  · omega

/-- what holds in the rounds of a division by one limb: the limbs from n on are divided -/
structure ShortInv (A : List Nat) (d n r : Nat) (D : List Nat) : Prop where
  len : D.length + n = A.length
  lt : ∀ x ∈ D, x < Bs
  val_eq : val D = val (A.drop n) / d
  r_eq : r = val (A.drop n) % d

theorem ShortInv.start (A : List Nat) (d : Nat) : ShortInv A d A.length 0 [] := ⟨by simp, (fun x hx => by cases hx), by simp [val], by simp [val]⟩
theorem ShortInv.next {A : List Nat} {d m r : Nat} {D : List Nat} (h : ShortInv A d (m + 1) r D) (hA : ∀ x ∈ A, x < Bs) (hd : 0 < d) :
    ShortInv A d m ((r * Bs + el A m) % d) ((r * Bs + el A m) / d :: D) := by
  have hm : m < A.length := by have := h.len; omega
  have e : val (A.drop m) = el A m + Bs * val (A.drop (m + 1)) := by rw [List.drop_eq_getElem_cons hm, val, el_of_lt hm]
  have hr := h.r_eq
  have hv := h.val_eq
  have hdm := Nat.div_add_mod (val (A.drop (m + 1))) d
  have e2 : val (A.drop m) = r * Bs + el A m + d * (Bs * val D) := by
    rw [e, hv, hr, Nat.mul_left_comm d Bs, Nat.mul_comm _ Bs]
    have h3 := congrArg (Bs * ·) hdm
    simp only [Nat.mul_add] at h3
    generalize Bs * (d * (val (A.drop (m + 1)) / d)) = p at *
    generalize Bs * (val (A.drop (m + 1)) % d) = q at *
    generalize Bs * val (A.drop (m + 1)) = t at *
    omega
  refine ⟨by have := h.len; simp only [List.length_cons]; omega, fun x hx => ?_, ?_, ?_⟩
  · rcases List.mem_cons.1 hx with rfl | hx
    · rw [Nat.div_lt_iff_lt_mul hd]
      have hrd : r < d := by rw [hr]; exact Nat.mod_lt _ hd
      have h1 := el_lt hA m
      have h2 := Nat.mul_le_mul_right Bs (Nat.succ_le_of_lt hrd)
      rw [Nat.succ_mul] at h2
      rw [Nat.mul_comm Bs d]
      omega
    · exact h.lt x hx
  · rw [val, e2, Nat.add_mul_div_left _ _ hd]
  · rw [e2, Nat.add_mul_mod_self_left]
theorem ShortInv.r_lt {A : List Nat} {d n r : Nat} {D : List Nat} (h : ShortInv A d n r D) (hd : 0 < d) : r < d := by rw [h.r_eq]; exact Nat.mod_lt _ hd
theorem zeros_set (m : Nat) (D : List Nat) (x : Nat) : (List.replicate (m + 1) 0 ++ D).set m x = List.replicate m 0 ++ (x :: D) := by
  rw [List.replicate_succ', List.append_assoc, List.set_append_right _ _ (by simp)]
  simp
theorem zeros_lt {D : List Nat} (h : ∀ x ∈ D, x < Bs) (m : Nat) : ∀ x ∈ List.replicate m 0 ++ D, x < Bs := by
  intro x hx
  rcases List.mem_append.1 hx with hx | hx
  · rw [(List.mem_replicate.1 hx).2]; exact Bs_pos
  · exact h x hx

theorem dig_len_le {n k : Nat} (h : n < Bs ^ k) : (dig n).length ≤ k := by
  induction k generalizing n with
  | zero =>
    have : n = 0 := by simpa using h
    subst this; rw [dig_zero]; simp
  | succ k ih =>
    by_cases h0 : n = 0
    · subst h0; rw [dig_zero]; simp
    · rw [dig_pos h0, List.length_cons]
      have : n / Bs < Bs ^ k := by rw [Nat.div_lt_iff_lt_mul Bs_pos, ← Nat.pow_succ]; exact h
      have := ih this
      omega
theorem dig_val_len {A : List Nat} (h : ∀ x ∈ A, x < Bs) : (dig (val A)).length ≤ A.length := dig_len_le (val_lt h)
theorem dig_one {d : Nat} (h : d < Bs) (h0 : 0 < d) : dig d = [d] := by
  have := dig_cons (x := d) (n := 0) h (.inl (by omega))
  rw [dig_zero] at this
  simpa using this

end Go.Proofs.YtomhfipgabpfiaaGreatDoor
