/- The contracts of tombolaref05 by the whole numbers that the values stand for. -/
import Derived.Test.YtomhfipgabpfiaaGreatDoorLawTxt
import Derived.Test.YtomhfipgabpfiaaGreatDoorRef05b
namespace Go.Proofs.YtomhfipgabpfiaaGreatDoor
open Go Go.RowKit

theorem refmake_is {w : World} {b1 : Bool} {v : Value} {k : Nat} {x : Int} (hx : InI w b1 v k x) (hk : k ≤ 65535) :
    Calls Tryz.prog 23 #[.bool b1, v] w (RetIs w x) := by
  obtain ⟨A, a1, rfl, a3⟩ := hx
  exact (refmake_calls a1 (by omega) b1).mono fun _ _ h => h.is
theorem refof_is (w : World) (n : Int) (h1 : -9223372036854775808 ≤ n) (h2 : n ≤ 9223372036854775807) : Calls Tryz.prog 27 #[.int .i64 n] w (RetIs w n) :=
  (refiof_calls w n h1 h2).mono fun _ _ h => h.is
theorem refadd_is {w : World} {b1 b2 : Bool} {v u : Value} {k l : Nat} {x y : Int} (hx : InI w b1 v k x) (hy : InI w b2 u l y) (hk : k ≤ 65535) (hl : l ≤ 65535) :
    Calls Tryz.prog 16 #[.agg #[.bool b1, v], .agg #[.bool b2, u]] w (RetIs w (x + y)) := by
  obtain ⟨A, a1, rfl, a3⟩ := hx
  obtain ⟨B, c1, rfl, c3⟩ := hy
  exact (refiadd_calls a1 c1 (by omega) (by omega) b1 b2).mono fun _ _ h => h.is
theorem refsub_is {w : World} {b1 b2 : Bool} {v u : Value} {k l : Nat} {x y : Int} (hx : InI w b1 v k x) (hy : InI w b2 u l y) (hk : k ≤ 65535) (hl : l ≤ 65535) :
    Calls Tryz.prog 17 #[.agg #[.bool b1, v], .agg #[.bool b2, u]] w (RetIs w (x - y)) := by
  obtain ⟨A, a1, rfl, a3⟩ := hx
  obtain ⟨B, c1, rfl, c3⟩ := hy
  exact (refisub_calls a1 c1 (by omega) (by omega) b1 b2).mono fun _ _ h => h.is
theorem refmul_is {w : World} {b1 b2 : Bool} {v u : Value} {k l : Nat} {x y : Int} (hx : InI w b1 v k x) (hy : InI w b2 u l y) (hk : k + l ≤ 65536) :
    Calls Tryz.prog 18 #[.agg #[.bool b1, v], .agg #[.bool b2, u]] w (RetIs w (x * y)) := by
  obtain ⟨A, a1, rfl, a3⟩ := hx
  obtain ⟨B, c1, rfl, c3⟩ := hy
  exact (refimul_calls a1 c1 (by omega) b1 b2).mono fun _ _ h => h.is
theorem refneg_is {w : World} {b1 : Bool} {v : Value} {k : Nat} {x : Int} (hx : InI w b1 v k x) (hk : k ≤ 65535) :
    Calls Tryz.prog 15 #[.agg #[.bool b1, v]] w (RetIs w (-x)) := by
  obtain ⟨A, a1, rfl, a3⟩ := hx
  exact (refneg_calls a1 (by omega) b1).mono fun _ _ h => h.is
theorem refsign_is {w : World} {b1 : Bool} {v : Value} {k : Nat} {x : Int} (hx : InI w b1 v k x) (hk : k ≤ 65535) (s : Int) (hs : x.sign = s) :
    Calls Tryz.prog 29 #[.agg #[.bool b1, v]] w fun e w' => e = .returned (.int .i64 s) ∧ Ext w w' := by
  obtain ⟨A, a1, rfl, a3⟩ := hx
  subst hs
  exact refsign_calls a1 (by omega) b1
theorem refcmp_is {w : World} {b1 b2 : Bool} {v u : Value} {k l : Nat} {x y : Int} (hx : InI w b1 v k x) (hy : InI w b2 u l y) (hk : k ≤ 65535) (hl : l ≤ 65535) (s : Int) (hs : cmpI x y = s) :
    Calls Tryz.prog 31 #[.agg #[.bool b1, v], .agg #[.bool b2, u]] w fun e w' => e = .returned (.int .i64 s) ∧ Ext w w' := by
  obtain ⟨A, a1, rfl, a3⟩ := hx
  obtain ⟨B, c1, rfl, c3⟩ := hy
  exact refcmpi_calls a1 c1 (by omega) (by omega) b1 b2 s (by rw [sign_sub_cmp]; exact hs)
theorem refsmall_is {w : World} {b1 : Bool} {v : Value} {k : Nat} {x : Int} (hx : InI w b1 v k x) (hk : k ≤ 65535) (s : Int) (hs : smallI x = s) (f : Bool) (hf : fitsI x = f) :
    Calls Tryz.prog 21 #[.agg #[.bool b1, v]] w fun e w' => e = .returned (.tuple #[.int .i64 s, .bool f]) ∧ Ext w w' := by
  obtain ⟨A, a1, rfl, a3⟩ := hx
  exact refismall_calls a1 (by omega) b1 s hs f hf
theorem may_any {w : World} {v : Value} {A : List Nat} (hA : Limbs w v A) (neg : Bool) (b : Bool) (hb : (if A.length = 0 then !neg else decide (el A (A.length - 1) ≠ 0)) = b) :
    Calls Tryz.prog 24 #[.agg #[.bool neg, v]] w fun e w' => e = .returned (.bool b) ∧ Ext w w' := by subst hb; exact may_int hA neg
theorem refmay_any {w : World} {v : Value} {A : List Nat} (hA : Limbs w v A) (neg : Bool) (b : Bool) (hb : (if A.length = 0 then !neg else decide (el A (A.length - 1) ≠ 0)) = b) :
    Calls Tryz.prog 25 #[.agg #[.bool neg, v]] w fun e w' => e = .returned (.bool b) ∧ Ext w w' := by subst hb; exact refmay_int hA neg
end Go.Proofs.YtomhfipgabpfiaaGreatDoor
