/- Contracts of package whole, by the whole numbers that the values stand for. -/
import Derived.Test.YtomhfipgabpfiaaGreatDoorWhole6
namespace Go.Proofs.YtomhfipgabpfiaaGreatDoor
open Go Go.RowKit

/-- a value that stands for z, in any way, of no more than k limbs -/
def InI (w : World) (b : Bool) (v : Value) (k : Nat) (z : Int) : Prop := ∃ A, Limbs w v A ∧ iv b A = z ∧ A.length ≤ k
/-- z has no more than k limbs -/
def LenI (k : Nat) (z : Int) : Prop := z.natAbs < Bs ^ k
/-- the call returns z, as it is told -/
def RetIs (w : World) (z : Int) (e : Ending) (w' : World) : Prop := ∃ b v m, e = .returned (.agg #[.bool b, v]) ∧ IsI w' b v m z ∧ Ext w w'

theorem InI.ext {w w' : World} {b : Bool} {v : Value} {k : Nat} {z : Int} (h : InI w b v k z) (x : Ext w w') : InI w' b v k z := by
  obtain ⟨A, h1, h2, h3⟩ := h; exact ⟨A, h1.ext x, h2, h3⟩
theorem IsI.inI {w : World} {b : Bool} {v : Value} {m k : Nat} {z : Int} (h : IsI w b v m z) (hk : LenI k z) : InI w b v k z :=
  ⟨dig m, h.2.2, h.iv, by rw [← h.2.1]; exact dig_len_le hk⟩
theorem IsI.slice {w : World} {b : Bool} {v : Value} {m : Nat} {z : Int} (h : IsI w b v m z) : ∃ a n c, v = .slice a n c := by
  obtain ⟨a, c, h, -⟩ := h.2.2.open; exact ⟨a, _, c, h⟩
theorem InI.slice {w : World} {b : Bool} {v : Value} {k : Nat} {z : Int} (h : InI w b v k z) : ∃ a n c, v = .slice a n c := by
  obtain ⟨A, h1, -⟩ := h; obtain ⟨a, c, h, -⟩ := h1.open; exact ⟨a, _, c, h⟩
theorem InI.len {w : World} {b : Bool} {v : Value} {k : Nat} {z : Int} (h : InI w b v k z) : LenI k z := by
  obtain ⟨A, h1, h2, h3⟩ := h
  unfold LenI
  rw [← h2, iv_abs]
  exact Nat.lt_of_lt_of_le (val_lt h1.2) (Nat.pow_le_pow_right Bs_pos h3)
theorem RetI.is {w w' : World} {z : Int} {e : Ending} (h : RetI w z e w') : RetIs w z e w' := h.isI

theorem LenI.mono {k l : Nat} {z : Int} (h : LenI k z) (hk : k ≤ l) : LenI l z := Nat.lt_of_lt_of_le h (Nat.pow_le_pow_right Bs_pos hk)
theorem LenI.small {z : Int} (h : z.natAbs ≤ 9223372036854775808) : LenI 1 z := by unfold LenI; rw [Nat.pow_one, Bs_def]; omega
theorem LenI.add {k : Nat} {x y : Int} (h1 : LenI k x) (h2 : LenI k y) : LenI (k + 1) (x + y) := by
  unfold LenI at *
  have c : 2 * Bs ^ k ≤ Bs ^ (k + 1) := by rw [Nat.pow_succ, Nat.mul_comm (Bs ^ k)]; exact Nat.mul_le_mul_right _ two_le_Bs
  generalize Bs ^ k = X at *
  generalize Bs ^ (k + 1) = Y at *
  omega
theorem LenI.neg {k : Nat} {x : Int} (h1 : LenI k x) : LenI k (-x) := by unfold LenI at *; rwa [Int.natAbs_neg]
theorem LenI.sub {k : Nat} {x y : Int} (h1 : LenI k x) (h2 : LenI k y) : LenI (k + 1) (x - y) := by rw [Int.sub_eq_add_neg]; exact h1.add h2.neg
theorem LenI.mul {k l : Nat} {x y : Int} (h1 : LenI k x) (h2 : LenI l y) : LenI (k + l) (x * y) := by
  unfold LenI at *
  rw [Int.natAbs_mul, Nat.pow_add]
  exact Nat.mul_lt_mul'' h1 h2

theorem of_is (w : World) (n : Int) (h1 : -9223372036854775808 ≤ n) (h2 : n ≤ 9223372036854775807) : Calls Tryz.prog 26 #[.int .i64 n] w (RetIs w n) :=
  (iof_calls w n h1 h2).mono fun _ _ h => h.is
theorem add_is {w : World} {b1 b2 : Bool} {v u : Value} {k l : Nat} {x y : Int} (hx : InI w b1 v k x) (hy : InI w b2 u l y) (hk : k ≤ 65535) (hl : l ≤ 65535) :
    Calls Tryz.prog 10 #[.agg #[.bool b1, v], .agg #[.bool b2, u]] w (RetIs w (x + y)) := by
  obtain ⟨A, a1, rfl, a3⟩ := hx
  obtain ⟨B, c1, rfl, c3⟩ := hy
  exact (iadd_calls a1 c1 (by omega) (by omega) b1 b2).mono fun _ _ h => h.is
theorem sub_is {w : World} {b1 b2 : Bool} {v u : Value} {k l : Nat} {x y : Int} (hx : InI w b1 v k x) (hy : InI w b2 u l y) (hk : k ≤ 65535) (hl : l ≤ 65535) :
    Calls Tryz.prog 11 #[.agg #[.bool b1, v], .agg #[.bool b2, u]] w (RetIs w (x - y)) := by
  obtain ⟨A, a1, rfl, a3⟩ := hx
  obtain ⟨B, c1, rfl, c3⟩ := hy
  exact (isub_calls a1 c1 (by omega) (by omega) b1 b2).mono fun _ _ h => h.is
theorem mul_is {w : World} {b1 b2 : Bool} {v u : Value} {k l : Nat} {x y : Int} (hx : InI w b1 v k x) (hy : InI w b2 u l y) (hk : k + l ≤ 65536) :
    Calls Tryz.prog 12 #[.agg #[.bool b1, v], .agg #[.bool b2, u]] w (RetIs w (x * y)) := by
  obtain ⟨A, a1, rfl, a3⟩ := hx
  obtain ⟨B, c1, rfl, c3⟩ := hy
  exact (imul_calls a1 c1 (by omega) b1 b2).mono fun _ _ h => h.is
theorem neg_is {w : World} {b1 : Bool} {v : Value} {k : Nat} {x : Int} (hx : InI w b1 v k x) (hk : k ≤ 65535) :
    Calls Tryz.prog 9 #[.agg #[.bool b1, v]] w (RetIs w (-x)) := by
  obtain ⟨A, a1, rfl, a3⟩ := hx
  exact (neg_calls a1 (by omega) b1).mono fun _ _ h => h.is
theorem make_is {w : World} {b1 : Bool} {v : Value} {k : Nat} {x : Int} (hx : InI w b1 v k x) (hk : k ≤ 65535) :
    Calls Tryz.prog 22 #[.bool b1, v] w (RetIs w x) := by
  obtain ⟨A, a1, rfl, a3⟩ := hx
  exact (make_calls a1 (by omega) b1).mono fun _ _ h => h.is
theorem sign_is {w : World} {b1 : Bool} {v : Value} {k : Nat} {x : Int} (hx : InI w b1 v k x) (hk : k ≤ 65535) (s : Int) (hs : x.sign = s) :
    Calls Tryz.prog 28 #[.agg #[.bool b1, v]] w fun e w' => e = .returned (.int .i64 s) ∧ Ext w w' := by
  obtain ⟨A, a1, rfl, a3⟩ := hx
  subst hs
  exact sign_calls a1 (by omega) b1
theorem cmp_is {w : World} {b1 b2 : Bool} {v u : Value} {k l : Nat} {x y : Int} (hx : InI w b1 v k x) (hy : InI w b2 u l y) (hk : k ≤ 65535) (hl : l ≤ 65535) (s : Int) (hs : cmpI x y = s) :
    Calls Tryz.prog 30 #[.agg #[.bool b1, v], .agg #[.bool b2, u]] w fun e w' => e = .returned (.int .i64 s) ∧ Ext w w' := by
  obtain ⟨A, a1, rfl, a3⟩ := hx
  obtain ⟨B, c1, rfl, c3⟩ := hy
  subst hs
  exact icmp_calls a1 c1 (by omega) (by omega) b1 b2
theorem small_is {w : World} {b1 : Bool} {v : Value} {k : Nat} {x : Int} (hx : InI w b1 v k x) (hk : k ≤ 65535) (s : Int) (hs : smallI x = s) (f : Bool) (hf : fitsI x = f) :
    Calls Tryz.prog 20 #[.agg #[.bool b1, v]] w fun e w' => e = .returned (.tuple #[.int .i64 s, .bool f]) ∧ Ext w w' := by
  obtain ⟨A, a1, rfl, a3⟩ := hx
  subst hs hf
  exact ismall_calls a1 (by omega) b1
theorem divy_is {w : World} {b1 b2 : Bool} {v u : Value} {k l : Nat} {x y : Int} (hx : InI w b1 v k x) (hy : InI w b2 u l y) (hk : k ≤ 65535) (hl : l ≤ 65535) (h0 : y ≠ 0) :
    Calls Tryz.prog 13 #[.agg #[.bool b1, v], .agg #[.bool b2, u]] w fun e w' => ∃ c1 u1 m1 u2 m2, e = .returned (.tuple #[.agg #[.bool c1, u1], .agg #[.bool false, u2], .int .i64 0]) ∧ IsI w' c1 u1 m1 (x / y) ∧ IsI w' false u2 m2 (x % y) ∧ Ext w w' := by
  obtain ⟨A, a1, rfl, a3⟩ := hx
  obtain ⟨B, c1, rfl, c3⟩ := hy
  refine (idiv_calls a1 c1 (by omega) (by omega) b1 b2).mono ?_
  rintro e w' ⟨v1, v2, rfl, g1, g2, x1⟩
  simp only [if_neg h0] at *
  exact ⟨_, v1, _, v2, _, rfl, ⟨rfl, rfl, g1.limbs⟩, ⟨by simpa using Int.emod_nonneg _ h0, rfl, g2.limbs⟩, x1⟩
theorem divz_is {w : World} {b1 b2 : Bool} {v u : Value} {k l : Nat} {x y : Int} (hx : InI w b1 v k x) (hy : InI w b2 u l y) (hk : k ≤ 65535) (hl : l ≤ 65535) (h0 : y = 0) :
    Calls Tryz.prog 13 #[.agg #[.bool b1, v], .agg #[.bool b2, u]] w fun e w' => ∃ u1 m1 u2 m2, e = .returned (.tuple #[.agg #[.bool false, u1], .agg #[.bool false, u2], .int .i64 7]) ∧ IsI w' false u1 m1 0 ∧ IsI w' false u2 m2 0 ∧ Ext w w' := by
  obtain ⟨A, a1, rfl, a3⟩ := hx
  obtain ⟨B, c1, rfl, c3⟩ := hy
  refine (idiv_calls a1 c1 (by omega) (by omega) b1 b2).mono ?_
  rintro e w' ⟨v1, v2, rfl, g1, g2, x1⟩
  simp only [if_pos h0] at *
  exact ⟨v1, _, v2, _, rfl, ⟨rfl, rfl, g1.limbs⟩, ⟨rfl, rfl, g2.limbs⟩, x1⟩

theorem dig_top {m : Nat} (h : (dig m).length ≠ 0) : el (dig m) ((dig m).length - 1) ≠ 0 := by
  intro h0
  obtain ⟨k, hk⟩ : ∃ k, (dig m).length = k + 1 := ⟨(dig m).length - 1, by omega⟩
  rw [hk, Nat.add_sub_cancel] at h0
  have h1 : valTo (dig m) (k + 1) = m := by rw [valTo_all (by omega), val_dig]
  rw [valTo, h0, Nat.mul_zero, Nat.add_zero] at h1
  have h2 := valTo_lt (dig_lt m) k
  rw [h1] at h2
  have := dig_len_le h2
  omega

theorem may_is {w : World} {b : Bool} {v : Value} {m : Nat} {z : Int} (h : IsI w b v m z) :
    Calls Tryz.prog 24 #[.agg #[.bool b, v]] w fun e w' => e = .returned (.bool true) ∧ Ext w w' := by
  have hc := may_int h.2.2 b
  have ht : (if (dig m).length = 0 then !b else decide (el (dig m) ((dig m).length - 1) ≠ 0)) = true := by
    split
    · rename_i h0
      have hm : m = 0 := by rw [← val_dig m, List.length_eq_zero_iff.1 h0]; rfl
      rw [← h.1]
      have := h.2.1
      simp; omega
    · rename_i h0
      exact decide_eq_true (dig_top h0)
  rw [ht] at hc
  exact hc
end Go.Proofs.YtomhfipgabpfiaaGreatDoor
