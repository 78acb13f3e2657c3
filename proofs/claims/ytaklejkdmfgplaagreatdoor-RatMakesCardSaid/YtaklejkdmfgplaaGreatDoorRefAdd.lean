/- The contracts of tombolaref06.plus, Add. -/
import Derived.Test.YtaklejkdmfgplaaGreatDoorRefOver
namespace Go.Proofs.YtaklejkdmfgplaaGreatDoor
open Go Go.RowKit

theorem nadd02 {w : World} {v u : Value} {k l x y : Nat} (h : InN w v k x) (g : InN w u l y) (hk : k + l ≤ 60000) : Calls Tryz.prog 53 #[v, u] w (RetN w (x + y)) := by
  obtain ⟨A, h1, rfl, h3⟩ := h
  obtain ⟨B, g1, rfl, g3⟩ := g
  exact refadd_calls h1 g1 (by omega) (by omega)
theorem nmul02 {w : World} {v u : Value} {k l x y : Nat} (h : InN w v k x) (g : InN w u l y) (hk : k + l ≤ 60000) : Calls Tryz.prog 65 #[v, u] w (RetN w (x * y)) := by
  obtain ⟨A, h1, rfl, h3⟩ := h
  obtain ⟨B, g1, rfl, g3⟩ := g
  exact refmul_calls h1 g1 (by omega) (by omega)
theorem ncmp02 {w : World} {v u : Value} {k l x y : Nat} (h : InN w v k x) (g : InN w u l y) (hk : k + l ≤ 60000) (s : Int) (hs : cmpN x y = s) : Calls Tryz.prog 94 #[v, u] w fun e w' => e = .returned (.int .i64 s) ∧ Ext w w' := by
  obtain ⟨A, h1, rfl, h3⟩ := h
  obtain ⟨B, g1, rfl, g3⟩ := g
  exact refcmp_int h1 g1 (by omega) (by omega) s hs
theorem nsub02 {w : World} {v u : Value} {k l x y : Nat} (h : InN w v k x) (g : InN w u l y) (hk : k + l ≤ 60000) (hle : y ≤ x) : Calls Tryz.prog 55 #[v, u] w fun e w' => ∃ r, e = .returned (.tuple #[r, .int .i64 0]) ∧ OwnL w.heap.size w' r (dig (x - y)) ∧ Ext w w' := by
  obtain ⟨A, h1, rfl, h3⟩ := h
  obtain ⟨B, g1, rfl, g3⟩ := g
  refine (refsub_calls h1 g1 (by omega) (by omega)).mono ?_
  rintro e w' ⟨r, h4, h5, h6⟩
  exact ⟨r, by rw [h4, if_neg (by omega)], h5, h6⟩
theorem lt_add {a b k l : Nat} (h1 : a < Bs ^ k) (h2 : b < Bs ^ l) : a + b < Bs ^ (max k l + 1) := by
  have e1 := Nat.lt_of_lt_of_le h1 (Nat.pow_le_pow_right Bs_pos (Nat.le_max_left k l))
  have e2 := Nat.lt_of_lt_of_le h2 (Nat.pow_le_pow_right Bs_pos (Nat.le_max_right k l))
  have e3 := Nat.mul_le_mul_left (Bs ^ max k l) two_le_Bs
  rw [Nat.pow_succ]
  generalize Bs ^ max k l * Bs = z at e3 ⊢
  generalize Bs ^ max k l = y at *
  omega
theorem lenI_by {x : Int} {d k : Nat} (h : x.natAbs * d < Bs ^ k) : LenI k (x * (d : Nat)) := by
  unfold LenI; rw [Int.natAbs_mul, Int.natAbs_natCast]; exact h
theorem isI_by {w : World} {v : Value} {b : Bool} {x : Int} {d : Nat} (hb : decide (x < 0) = b) (hd : d ≠ 0) (h : Limbs w v (dig (x.natAbs * d))) : IsI w b v (x.natAbs * d) (x * (d : Nat)) := by
  refine ⟨?_, by rw [Int.natAbs_mul, Int.natAbs_natCast], h⟩
  rw [← hb, decide_eq_decide]
  have hd' : (0 : Int) < (d : Nat) := by omega
  exact ⟨fun h => by
    rcases Int.lt_or_le x 0 with h1 | h1
    · exact h1
    · exact absurd h (Int.not_lt.2 (Int.mul_nonneg h1 (Int.le_of_lt hd'))), fun h => Int.mul_neg_of_neg_of_pos h hd'⟩

end Go.Proofs.YtaklejkdmfgplaaGreatDoor
