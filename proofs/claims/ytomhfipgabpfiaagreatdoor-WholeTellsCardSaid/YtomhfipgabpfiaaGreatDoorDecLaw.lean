/- Plain facts for the laws on decimal digits. No program in sight. -/
import Derived.Test.YtomhfipgabpfiaaGreatDoorDecPlain
import Derived.Test.YtomhfipgabpfiaaGreatDoorRows
namespace Go.Proofs.YtomhfipgabpfiaaGreatDoor

theorem list_snoc {α : Type} {P : List α → Prop} (h0 : P []) (h1 : ∀ l a, P l → P (l ++ [a])) (l : List α) : P l := by
  have key : ∀ r : List α, P r.reverse := by
    intro r
    induction r with
    | nil => exact h0
    | cons a r ih => rw [List.reverse_cons]; exact h1 _ _ ih
  have := key l.reverse
  rwa [List.reverse_reverse] at this

theorem dgs_head {n d : Nat} (h : (dgs n).head? = some d) : d ≠ 0 := by
  induction n using Nat.strongRecOn with
  | _ n ih =>
    by_cases h0 : n = 0
    · subst h0; rw [dgs_zero] at h; cases h
    · rw [dgs_pos h0] at h
      by_cases h1 : n / 10 = 0
      · rw [h1, dgs_zero] at h
        simp at h; omega
      · have hne := dgs_ne h1
        cases e : dgs (n / 10) with
        | nil => exact absurd e hne
        | cons x l =>
          rw [e] at h
          exact ih (n / 10) (by omega) (by rw [e]; simpa using h)

theorem dgs_dval (l : List Nat) : (∀ d ∈ l, d < 10) → l.head? ≠ some 0 → dgs (dval l) = l := by
  refine list_snoc (P := fun l => (∀ d ∈ l, d < 10) → l.head? ≠ some 0 → dgs (dval l) = l) ?_ ?_ l
  · intro _ _; exact dgs_zero
  · intro l a ih hd hh
    have ha := hd a (by simp)
    rw [dval_append]
    by_cases hl : l = []
    · subst hl
      have ha0 : a ≠ 0 := by intro e; subst e; exact hh rfl
      rw [show 10 * dval [] + a = a by simp [dval], dgs_pos ha0, Nat.div_eq_of_lt ha, dgs_zero, Nat.mod_eq_of_lt ha, List.nil_append]
    · have hh' : l.head? ≠ some 0 := by
        cases l with
        | nil => exact absurd rfl hl
        | cons x l => simpa using hh
      have h1 := ih (fun d hd' => hd d (by simp [hd'])) hh'
      have h2 : dval l ≠ 0 := by intro e; rw [e, dgs_zero] at h1; exact hl h1.symm
      rw [dgs_pos (by omega), show (10 * dval l + a) / 10 = dval l by omega, show (10 * dval l + a) % 10 = a by omega, h1]

theorem showL_all (n : Nat) : (showL n).all okd = true := by
  unfold showL
  split
  · rfl
  · rw [List.all_map, List.all_eq_true]
    intro d hd
    exact okd_db (dgs_lt n d hd)
theorem map_dv_db {l : List Nat} (h : ∀ d ∈ l, d < 10) : (l.map db).map dv = l := by
  rw [List.map_map]
  conv => rhs; rw [← List.map_id l]
  exact List.map_congr_left fun d hd => dv_db (h d hd)
theorem map_db_dv {l : List UInt8} (h : l.all okd = true) : (l.map dv).map db = l := by
  rw [List.map_map]
  conv => rhs; rw [← List.map_id l]
  exact List.map_congr_left fun b hb => db_dv (List.all_eq_true.1 h b hb)
theorem dval_showL (n : Nat) : dval ((showL n).map dv) = n := by
  unfold showL
  split
  · rename_i h; subst h; rfl
  · rw [map_dv_db (dgs_lt n), dval_dgs]

theorem showL_head {n : Nat} (h : (showL n).head? = some 48) : n = 0 := by
  by_cases h0 : n = 0
  · exact h0
  · exfalso
    rw [showL_pos h0, List.head?_map] at h
    cases e : (dgs n).head? with
    | none => rw [e] at h; cases h
    | some d =>
      rw [e] at h
      have h1 := dgs_head e
      have h2 := dgs_lt n d (List.mem_of_mem_head? e)
      exact h1 ((db_eq h2).1 (by simpa using h))

theorem read_show {n : Nat} (h : (showL n).length ≤ 20000) : errR (showL n) = 0 ∧ readN (showL n) = n := by
  have h1 : errR (showL n) = 0 := by
    rw [errR, if_neg (showL_ne n), if_neg (by rw [showL_all]; simp), if_neg, if_neg (by omega)]
    rintro ⟨a, b⟩
    rw [showL_head a] at b
    exact absurd b (by decide)
  exact ⟨h1, by rw [readN, if_pos h1, dval_showL]⟩

theorem errR_parts {l : List UInt8} (h : errR l = 0) : l ≠ [] ∧ l.all okd = true ∧ (l.head? = some 48 → l.length ≤ 1) ∧ l.length ≤ 20000 := by
  unfold errR at h
  split at h
  · cases h
  · rename_i h1
    split at h
    · cases h
    · rename_i h2
      split at h
      · cases h
      · rename_i h3
        split at h
        · cases h
        · rename_i h4
          refine ⟨h1, by simpa using h2, fun e => ?_, by omega⟩
          rcases Nat.lt_or_ge 1 l.length with g | g
          · exact absurd ⟨e, g⟩ h3
          · exact g

theorem show_read {l : List UInt8} (h : errR l = 0) : showL (readN l) = l := by
  obtain ⟨h1, h2, h3, h4⟩ := errR_parts h
  rw [readN, if_pos h]
  by_cases h0 : l.head? = some 48
  · have hl := h3 h0
    cases l with
    | nil => exact absurd rfl h1
    | cons b l =>
      have : l = [] := List.eq_nil_of_length_eq_zero (by simpa using hl)
      subst this
      have : b = 48 := by simpa using h0
      subst this; rfl
  · have hd : ∀ d ∈ l.map dv, d < 10 := by
      intro d hd
      obtain ⟨b, hb, rfl⟩ := List.mem_map.1 hd
      exact dv_lt (List.all_eq_true.1 h2 b hb)
    have hh : (l.map dv).head? ≠ some 0 := by
      rw [List.head?_map]
      cases l with
      | nil => exact absurd rfl h1
      | cons b l =>
        intro e
        have hb : okd b = true := List.all_eq_true.1 h2 b (by simp)
        have e' : dv b = 0 := by simpa using e
        have : b = 48 := by rw [← db_dv hb, e']; rfl
        subst this
        exact h0 rfl
    have h5 := dgs_dval _ hd hh
    have hn : dval (l.map dv) ≠ 0 := by
      intro e
      rw [e, dgs_zero] at h5
      exact h1 (by simpa using h5.symm)
    rw [showL_pos hn, h5, map_db_dv h2]

/-- the text of a natural, when one knows it -/
theorem showL_of {l : List UInt8} {n : Nat} (h : errR l = 0) (hv : dval (l.map dv) = n) : showL n = l := by
  have := show_read h
  rwa [readN, if_pos h, hv] at this

theorem showL_snoc {n d : Nat} (h : n ≠ 0) (hd : d < 10) : showL (10 * n + d) = showL n ++ [db d] := by
  rw [showL_pos (by omega), showL_pos h, dgs_pos (by omega), show (10 * n + d) / 10 = n by omega, show (10 * n + d) % 10 = d by omega]
  simp

theorem showL_pos_len (n : Nat) : 0 < (showL n).length := List.length_pos_iff.2 (showL_ne n)
theorem dgs_len (n k : Nat) : (dgs n).length ≤ k ↔ n < 10 ^ k := by
  induction k generalizing n with
  | zero =>
    constructor
    · intro h
      have : dgs n = [] := List.eq_nil_of_length_eq_zero (by omega)
      by_cases h0 : n = 0
      · subst h0; simp
      · exact absurd this (dgs_ne h0)
    · intro h
      have : n = 0 := by simpa using h
      subst this; rw [dgs_zero]; simp
  | succ k ih =>
    by_cases h0 : n = 0
    · subst h0; rw [dgs_zero]; simp; exact Nat.pow_pos (by omega)
    · rw [dgs_pos h0, List.length_append, List.length_singleton, Nat.add_le_add_iff_right, ih, Nat.div_lt_iff_lt_mul (by omega), Nat.pow_succ]
theorem showL_len {n k : Nat} (hk : 1 ≤ k) : (showL n).length ≤ k ↔ n < 10 ^ k := by
  by_cases h0 : n = 0
  · subst h0; rw [showL_zero]; simp; exact ⟨fun _ => Nat.pow_pos (by omega), fun _ => hk⟩
  · rw [showL_pos h0, List.length_map, dgs_len]
theorem showL_lt (n : Nat) : n < 10 ^ (showL n).length := (showL_len (showL_pos_len n)).1 (Nat.le_refl _)
theorem showL_ge {n : Nat} (h : n ≠ 0) : 10 ^ ((showL n).length - 1) ≤ n := by
  rcases Nat.lt_or_ge n (10 ^ ((showL n).length - 1)) with g | g
  · exfalso
    rw [showL_pos h, List.length_map] at g
    have := (dgs_len n _).2 g
    have h2 := List.length_pos_iff.2 (dgs_ne h)
    omega
  · exact g
theorem showL_len_lt {m n : Nat} (h : (showL m).length < (showL n).length) : m < n := by
  rcases Nat.lt_or_ge m n with g | g
  · exact g
  · have := (showL_len (showL_pos_len m)).2 (Nat.lt_of_le_of_lt g (showL_lt m)); omega
theorem showL_inj {m n : Nat} (h : showL m = showL n) : m = n := by
  rw [← dval_showL m, h, dval_showL]

/-- texts of digits of one length stand as what they are worth -/
theorem bytesLess_dval : ∀ (l r : List UInt8), l.length = r.length → l.all okd = true → r.all okd = true → Op.bytesLess l r = decide (dval (l.map dv) < dval (r.map dv))
  | [], [], _, _, _ => by simp [Op.bytesLess, dval]
  | a :: l, b :: r, hl, h1, h2 => by
    have hl' : l.length = r.length := by simpa using hl
    rw [List.all_cons, Bool.and_eq_true] at h1 h2
    have ih := bytesLess_dval l r hl' h1.2 h2.2
    have e1 : dval ((a :: l).map dv) = dv a * 10 ^ r.length + dval (l.map dv) := by
      rw [List.map_cons, show dv a :: l.map dv = [dv a] ++ l.map dv from rfl, dval_app, List.length_map, hl']; simp [dval]
    have e2 : dval ((b :: r).map dv) = dv b * 10 ^ r.length + dval (r.map dv) := by
      rw [List.map_cons, show dv b :: r.map dv = [dv b] ++ r.map dv from rfl, dval_app, List.length_map]; simp [dval]
    have b1 : dval (l.map dv) < 10 ^ r.length := by
      have := dval_lt (l := l.map dv) (fun d hd => by obtain ⟨x, hx, rfl⟩ := List.mem_map.1 hd; exact dv_lt (List.all_eq_true.1 h1.2 x hx))
      rwa [List.length_map, hl'] at this
    have b2 : dval (r.map dv) < 10 ^ r.length := by
      have := dval_lt (l := r.map dv) (fun d hd => by obtain ⟨x, hx, rfl⟩ := List.mem_map.1 hd; exact dv_lt (List.all_eq_true.1 h2.2 x hx))
      rwa [List.length_map] at this
    have ka : a.toNat = dv a + 48 := by have := h1.1; unfold okd at this; unfold dv; simp at this; omega
    have kb : b.toNat = dv b + 48 := by have := h2.1; unfold okd at this; unfold dv; simp at this; omega
    rw [Op.bytesLess, e1, e2, ih]
    generalize 10 ^ r.length = p at *
    generalize dval (l.map dv) = x at *
    generalize dval (r.map dv) = y at *
    rw [Bool.eq_iff_iff]
    simp only [UInt8.lt_iff_toNat_lt]
    clear ih e1 e2
    have hab : (a == b) = decide (dv a = dv b) := by
      rw [Bool.eq_iff_iff]
      simp only [beq_iff_eq, decide_eq_true_eq]
      constructor
      · intro e; rw [e]
      · intro e; apply UInt8.toNat_inj.1; omega
    rw [hab, ka, kb]
    generalize dv a = s at *
    generalize dv b = t at *
    rcases Nat.lt_trichotomy s t with g | g | g
    · have h : (s + 1) * p ≤ t * p := Nat.mul_le_mul_right p g
      rw [Nat.succ_mul] at h
      simp only [Bool.or_eq_true, Bool.and_eq_true, decide_eq_true_eq]
      omega
    · subst g
      simp
    · have h : (t + 1) * p ≤ s * p := Nat.mul_le_mul_right p g
      rw [Nat.succ_mul] at h
      simp only [Bool.or_eq_true, Bool.and_eq_true, decide_eq_true_eq]
      omega

end Go.Proofs.YtomhfipgabpfiaaGreatDoor
