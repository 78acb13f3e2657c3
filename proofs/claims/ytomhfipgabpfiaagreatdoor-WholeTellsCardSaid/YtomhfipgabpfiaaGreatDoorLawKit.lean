/- Small facts for the walks that a program prints: cells of boxes, lengths of whole numbers. -/
import Derived.Test.YtomhfipgabpfiaaGreatDoorWhole9
namespace Go.Proofs.YtomhfipgabpfiaaGreatDoor
open Go Go.RowKit

/-- a cell of a box -/
def At (s o : Nat) (u : Value) (W : World) : Prop := W.cell? ⟨s, o, none⟩ = some u ∧ s < W.heap.size
theorem At.ext {s o : Nat} {u : Value} {a b : World} (h : At s o u a) (x : Ext a b) : At s o u b :=
  ⟨cell_ext x h.1 h.2, Nat.lt_of_lt_of_le h.2 x.size⟩
theorem At.n0 {w : World} {C : Array Value} {t : TypeId} {o : Nat} {u : Value} (h : C[o]? = some u) : At w.heap.size o u (w.alloc (.cells C t)) := by
  refine ⟨?_, by simp⟩
  rw [cell_of_row _ w.heap.size _ C t (0, 0) (heap_alloc_new w _)]; exact h
theorem At.n1 {w : World} {x1 : Obj} {C : Array Value} {t : TypeId} {o : Nat} {u : Value} (h : C[o]? = some u) : At (w.heap.size + 1) o u ((w.alloc x1).alloc (.cells C t)) := by
  have := At.n0 (w := w.alloc x1) (t := t) h; simpa using this
theorem At.n2 {w : World} {x1 x2 : Obj} {C : Array Value} {t : TypeId} {o : Nat} {u : Value} (h : C[o]? = some u) : At (w.heap.size + 1 + 1) o u (((w.alloc x1).alloc x2).alloc (.cells C t)) := by
  have := At.n1 (w := w.alloc x1) (x1 := x2) (t := t) h; simpa using this
theorem At.n3 {w : World} {x1 x2 x3 : Obj} {C : Array Value} {t : TypeId} {o : Nat} {u : Value} (h : C[o]? = some u) : At (w.heap.size + 1 + 1 + 1) o u ((((w.alloc x1).alloc x2).alloc x3).alloc (.cells C t)) := by
  have := At.n2 (w := w.alloc x1) (x1 := x2) (x2 := x3) (t := t) h; simpa using this
theorem At.n4 {w : World} {x1 x2 x3 x4 : Obj} {C : Array Value} {t : TypeId} {o : Nat} {u : Value} (h : C[o]? = some u) : At (w.heap.size + 1 + 1 + 1 + 1) o u (((((w.alloc x1).alloc x2).alloc x3).alloc x4).alloc (.cells C t)) := by
  have := At.n3 (w := w.alloc x1) (x1 := x2) (x2 := x3) (x3 := x4) (t := t) h; simpa using this
theorem At.n5 {w : World} {x1 x2 x3 x4 x5 : Obj} {C : Array Value} {t : TypeId} {o : Nat} {u : Value} (h : C[o]? = some u) : At (w.heap.size + 1 + 1 + 1 + 1 + 1) o u ((((((w.alloc x1).alloc x2).alloc x3).alloc x4).alloc x5).alloc (.cells C t)) := by
  have := At.n4 (w := w.alloc x1) (x1 := x2) (x2 := x3) (x3 := x4) (x4 := x5) (t := t) h; simpa using this

theorem zero_is (w : World) : IsI w false (.slice none 0 0) 0 0 := ⟨by decide, rfl, by rw [dig_zero]; exact Limbs.nil w⟩
theorem LenI.div {k : Nat} {x : Int} (y : Int) (h : LenI k x) : LenI k (x / y) := by
  unfold LenI at *
  exact Nat.lt_of_le_of_lt (Int.natAbs_ediv_le_natAbs x y) h
theorem LenI.mod {k : Nat} (x : Int) {y : Int} (hy : y ≠ 0) (h : LenI k y) : LenI k (x % y) := by
  unfold LenI at *
  have h1 := Int.emod_nonneg x hy
  have h2 := Int.emod_lt x hy
  omega
theorem LenI.zero : LenI 1 0 := LenI.small (by decide)
theorem cmpI_range (x y : Int) : -1 ≤ cmpI x y ∧ cmpI x y ≤ 1 := by unfold cmpI; split; decide; split <;> decide
theorem rem_cmp {w : World} {b : Bool} {v u : Value} {m : Nat} {z : Int} {B : List Nat} (hr : IsI w b v m z) (hB : Limbs w u B) (hl : B.length ≤ 10) (hz : z.natAbs < val B) :
    Calls Tryz.prog 51 #[v, u] w fun e w' => e = .returned (.int .i64 (-1)) ∧ Ext w w' := by
  have hm := hr.2.1
  have hv := val_lt hB.2
  have hd : (dig m).length ≤ 10 := dig_len_le (Nat.lt_of_lt_of_le (Nat.lt_trans (by omega) hv) (Nat.pow_le_pow_right Bs_pos hl))
  refine (cmp_int hr.2.2 hB (lmax_16 (by omega)) (lmax_16 (by omega)) (-1) (by rw [val_dig]; exact cmpN_lt (by omega))).mono ?_
  rintro e w' ⟨h1, rfl⟩
  exact ⟨h1, Ext.refl _⟩
theorem zero_ext {w : World} {v : Value} {A : List Nat} (hA : Limbs w v A) (hl : A.length ≤ 65536) (b : Bool) (hb : decide (val A = 0) = b) :
    Calls Tryz.prog 42 #[v] w fun e w' => e = .returned (.bool b) ∧ Ext w w' := by
  refine (zero_bool hA (lmax_16 hl) b hb).mono ?_
  rintro e w' ⟨h1, rfl⟩
  exact ⟨h1, Ext.refl _⟩
theorem sign_range (z : Int) : -1 ≤ z.sign ∧ z.sign ≤ 1 := by
  rcases Int.lt_trichotomy z 0 with h | h | h
  · rw [Int.sign_eq_neg_one_of_neg h]; decide
  · subst h; decide
  · rw [Int.sign_eq_one_of_pos h]; decide
theorem mul_range {a b : Int} (h1 : -1 ≤ a ∧ a ≤ 1) (h2 : -1 ≤ b ∧ b ≤ 1) : -1 ≤ a * b ∧ a * b ≤ 1 := by
  have : a = -1 ∨ a = 0 ∨ a = 1 := by omega
  rcases this with h | h | h <;> rw [h] <;> omega
theorem sign_sub_cmp (x y : Int) : (x - y).sign = cmpI x y := by
  unfold cmpI
  split
  · exact Int.sign_eq_neg_one_of_neg (by omega)
  · split
    · exact Int.sign_eq_one_of_pos (by omega)
    · rw [show x - y = 0 by omega]; rfl
theorem cmpI_swap (x y : Int) : cmpI y x = -cmpI x y := by unfold cmpI; split <;> split <;> (try split) <;> omega
theorem cmpI_self (x : Int) : cmpI x x = 0 := by unfold cmpI; simp
theorem cmpI_add (x y z : Int) : cmpI (x + z) (y + z) = cmpI x y := by unfold cmpI; split <;> split <;> (try split) <;> (try split) <;> omega
theorem cmpI_mul (x y z : Int) : cmpI (x * z) (y * z) = cmpI x y * z.sign := by
  rw [← sign_sub_cmp, ← sign_sub_cmp, ← Int.sub_mul, Int.sign_mul]
theorem cmpI_zero {x y : Int} : cmpI x y = 0 ↔ x = y := by unfold cmpI; constructor <;> intro h <;> (repeat' split at h) <;> (repeat' split) <;> omega
theorem cmpI_le {x y : Int} : cmpI x y ≤ 0 ↔ x ≤ y := by unfold cmpI; constructor <;> intro h <;> (repeat' split at h) <;> (repeat' split) <;> omega
end Go.Proofs.YtomhfipgabpfiaaGreatDoor
