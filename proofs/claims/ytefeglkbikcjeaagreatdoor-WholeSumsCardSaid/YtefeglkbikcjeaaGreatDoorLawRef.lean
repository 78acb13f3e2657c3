/- The contracts of tombolaref05 by the whole numbers that the values stand for. -/
import Derived.Test.YtefeglkbikcjeaaGreatDoorPartC
import Derived.Test.YtefeglkbikcjeaaGreatDoorRef05b
namespace Go.Proofs.YtefeglkbikcjeaaGreatDoor
open Go Go.RowKit

theorem refmake_is {w : World} {b1 : Bool} {v : Value} {k : Nat} {x : Int} (hx : InI w b1 v k x) (hk : k ≤ 65535) :
    Calls Tryz.prog 69 #[.bool b1, v] w (RetIs w x) := by
  obtain ⟨A, a1, rfl, a3⟩ := hx
  exact (refmake_calls a1 (by omega) b1).mono fun _ _ h => h.is
theorem refadd_is {w : World} {b1 b2 : Bool} {v u : Value} {k l : Nat} {x y : Int} (hx : InI w b1 v k x) (hy : InI w b2 u l y) (hk : k ≤ 65535) (hl : l ≤ 65535) :
    Calls Tryz.prog 19 #[.agg #[.bool b1, v], .agg #[.bool b2, u]] w (RetIs w (x + y)) := by
  obtain ⟨A, a1, rfl, a3⟩ := hx
  obtain ⟨B, c1, rfl, c3⟩ := hy
  exact (refiadd_calls a1 c1 (by omega) (by omega) b1 b2).mono fun _ _ h => h.is
theorem refsub_is {w : World} {b1 b2 : Bool} {v u : Value} {k l : Nat} {x y : Int} (hx : InI w b1 v k x) (hy : InI w b2 u l y) (hk : k ≤ 65535) (hl : l ≤ 65535) :
    Calls Tryz.prog 20 #[.agg #[.bool b1, v], .agg #[.bool b2, u]] w (RetIs w (x - y)) := by
  obtain ⟨A, a1, rfl, a3⟩ := hx
  obtain ⟨B, c1, rfl, c3⟩ := hy
  exact (refisub_calls a1 c1 (by omega) (by omega) b1 b2).mono fun _ _ h => h.is
theorem refmul_is {w : World} {b1 b2 : Bool} {v u : Value} {k l : Nat} {x y : Int} (hx : InI w b1 v k x) (hy : InI w b2 u l y) (hk : k + l ≤ 65536) :
    Calls Tryz.prog 21 #[.agg #[.bool b1, v], .agg #[.bool b2, u]] w (RetIs w (x * y)) := by
  obtain ⟨A, a1, rfl, a3⟩ := hx
  obtain ⟨B, c1, rfl, c3⟩ := hy
  exact (refimul_calls a1 c1 (by omega) b1 b2).mono fun _ _ h => h.is
theorem refneg_is {w : World} {b1 : Bool} {v : Value} {k : Nat} {x : Int} (hx : InI w b1 v k x) (hk : k ≤ 65535) :
    Calls Tryz.prog 18 #[.agg #[.bool b1, v]] w (RetIs w (-x)) := by
  obtain ⟨A, a1, rfl, a3⟩ := hx
  exact (refneg_calls a1 (by omega) b1).mono fun _ _ h => h.is
theorem may_any {w : World} {v : Value} {A : List Nat} (hA : Limbs w v A) (neg : Bool) (b : Bool) (hb : (if A.length = 0 then !neg else decide (el A (A.length - 1) ≠ 0)) = b) :
    Calls Tryz.prog 63 #[.agg #[.bool neg, v]] w fun e w' => e = .returned (.bool b) ∧ Ext w w' := by subst hb; exact may_int hA neg
end Go.Proofs.YtefeglkbikcjeaaGreatDoor
