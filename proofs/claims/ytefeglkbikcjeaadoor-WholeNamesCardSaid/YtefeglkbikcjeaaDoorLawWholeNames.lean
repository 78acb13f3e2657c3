/- WholeNames answers true: numbers at their ends, quotients, texts that are numbers or none. -/
import Derived.Test.YtefeglkbikcjeaaDoorPartC
import Derived.Test.YtefeglkbikcjeaaDoorPartF
namespace Go.Proofs.YtefeglkbikcjeaaDoor
open Go Go.RowKit

theorem may_raw {w : World} {v : Value} {A : List Nat} (hA : Limbs w v A) (neg : Bool) (b : Bool) (hb : (if A.length = 0 then !neg else decide (el A (A.length - 1) ≠ 0)) = b) :
    Calls Tryd.prog 13 #[.agg #[.bool neg, v]] w fun e w' => e = .returned (.bool b) ∧ Ext w w' := by subst hb; exact may_int hA neg
theorem limbs_at {w : World} (A : List Nat) (hA : ∀ x ∈ A, x < Bs) (C : Array Value) (hC : C.toList = A.map lv) (n : Nat) (hn : n = A.length) (hl : A.length ≤ Lmax) (s : Nat) (hs : w.heap.size = s) :
    Limbs (w.alloc (.cells C 28)) (.slice (some ⟨s, 0, none⟩) n n) A := by subst hs; exact limbs_lit w A hA C hC n hn hl
theorem iv_lit1 (b : Bool) (a : Nat) : iv b [a] = if b then -(a : Int) else a := by unfold iv; simp [val]
theorem iv_lit2 (b : Bool) (a c : Nat) : iv b [a, c] = if b then -((a + Bs * c : Nat) : Int) else ((a + Bs * c : Nat) : Int) := by unfold iv; simp [val]
/-- a table of whole numbers, and of what Small tells of them -/
def TabI (g : Nat) (w : World) : Prop := ∃ (C : Array Value) (ty : TypeId), w.heap[g]? = some (.cells C ty (0, 0)) ∧
  ∀ i, i < 9 → ∃ (b f : Bool) (p : Option Addr) (k c : Nat) (z n : Int), C[i * 4]? = some (.bool b) ∧ C[i * 4 + 1]? = some (.slice p k c) ∧ C[i * 4 + 2]? = some (.int .i64 n) ∧ C[i * 4 + 3]? = some (.bool f) ∧ InI w b (.slice p k c) 2 z ∧ smallI z = n ∧ fitsI z = f
theorem TabI.ext {g : Nat} {w w' : World} (h : TabI g w) (x : Ext w w') : TabI g w' := by
  obtain ⟨C, ty, h1, h2⟩ := h
  refine ⟨C, ty, by rw [x.block g (Array.getElem?_eq_some_iff.1 h1).1]; exact h1, fun i hi => ?_⟩
  obtain ⟨b, f, p, k, c, z, n, e1, e2, e3, e4, e5, e6⟩ := h2 i hi
  exact ⟨b, f, p, k, c, z, n, e1, e2, e3, e4, e5.ext x, e6⟩
theorem TabI.cell {g : Nat} {w : World} (h : TabI g w) {i : Nat} (hi : i < 9) : ∃ (b f : Bool) (p : Option Addr) (k c : Nat) (z n : Int), w.cell? ⟨g, i * 4, none⟩ = some (.bool b) ∧ w.cell? ⟨g, i * 4 + 1, none⟩ = some (.slice p k c) ∧ w.cell? ⟨g, i * 4 + 2, none⟩ = some (.int .i64 n) ∧ w.cell? ⟨g, i * 4 + 3, none⟩ = some (.bool f) ∧ InI w b (.slice p k c) 2 z ∧ smallI z = n ∧ fitsI z = f := by
  obtain ⟨C, ty, h1, h2⟩ := h
  obtain ⟨b, f, p, k, c, z, n, e1, e2, e3, e4, e5⟩ := h2 i hi
  exact ⟨b, f, p, k, c, z, n, by rw [cell_of_row w g _ C ty (0, 0) h1]; exact e1, by rw [cell_of_row w g _ C ty (0, 0) h1]; exact e2, by rw [cell_of_row w g _ C ty (0, 0) h1]; exact e3, by rw [cell_of_row w g _ C ty (0, 0) h1]; exact e4, e5⟩
/-- a table of quotients -/
def TabD (g : Nat) (w : World) : Prop := ∃ (C : Array Value) (ty : TypeId), w.heap[g]? = some (.cells C ty (0, 0)) ∧
  ∀ i, i < 9 → ∃ (a b c d : Int), C[i * 5]? = some (.int .i64 a) ∧ C[i * 5 + 1]? = some (.int .i64 b) ∧ C[i * 5 + 2]? = some (.int .i64 c) ∧ C[i * 5 + 3]? = some (.int .i64 d) ∧ C[i * 5 + 4]? = some (.int .i64 0) ∧ b ≠ 0 ∧ a / b = c ∧ a % b = d ∧ (-9223372036854775808 ≤ a ∧ a ≤ 9223372036854775807 ∧ -9223372036854775808 ≤ b ∧ b ≤ 9223372036854775807 ∧ -9223372036854775808 ≤ c ∧ c ≤ 9223372036854775807 ∧ -9223372036854775808 ≤ d ∧ d ≤ 9223372036854775807)
theorem TabD.ext {g : Nat} {w w' : World} (h : TabD g w) (x : Ext w w') : TabD g w' := by
  obtain ⟨C, ty, h1, h2⟩ := h
  exact ⟨C, ty, by rw [x.block g (Array.getElem?_eq_some_iff.1 h1).1]; exact h1, h2⟩
theorem TabD.cell {g : Nat} {w : World} (h : TabD g w) {i : Nat} (hi : i < 9) : ∃ (a b c d : Int), w.cell? ⟨g, i * 5, none⟩ = some (.int .i64 a) ∧ w.cell? ⟨g, i * 5 + 1, none⟩ = some (.int .i64 b) ∧ w.cell? ⟨g, i * 5 + 2, none⟩ = some (.int .i64 c) ∧ w.cell? ⟨g, i * 5 + 3, none⟩ = some (.int .i64 d) ∧ w.cell? ⟨g, i * 5 + 4, none⟩ = some (.int .i64 0) ∧ b ≠ 0 ∧ a / b = c ∧ a % b = d ∧ (-9223372036854775808 ≤ a ∧ a ≤ 9223372036854775807 ∧ -9223372036854775808 ≤ b ∧ b ≤ 9223372036854775807 ∧ -9223372036854775808 ≤ c ∧ c ≤ 9223372036854775807 ∧ -9223372036854775808 ≤ d ∧ d ≤ 9223372036854775807) := by
  obtain ⟨C, ty, h1, h2⟩ := h
  obtain ⟨a, b, c, d, e1, e2, e3, e4, e5, e6⟩ := h2 i hi
  exact ⟨a, b, c, d, by rw [cell_of_row w g _ C ty (0, 0) h1]; exact e1, by rw [cell_of_row w g _ C ty (0, 0) h1]; exact e2, by rw [cell_of_row w g _ C ty (0, 0) h1]; exact e3, by rw [cell_of_row w g _ C ty (0, 0) h1]; exact e4, by rw [cell_of_row w g _ C ty (0, 0) h1]; exact e5, e6⟩
/-- a table of texts -/
def TabS (g : Nat) (w : World) : Prop := ∃ (C : Array Value) (ty : TypeId), w.heap[g]? = some (.cells C ty (0, 0)) ∧
  ∀ i, i < 12 → ∃ (s : ByteArray) (c : Nat), C[i * 2]? = some (.string s) ∧ C[i * 2 + 1]? = some (.int .i64 (c : Int)) ∧ s.size ≤ 100 ∧ errI s.data.toList = c
theorem TabS.ext {g : Nat} {w w' : World} (h : TabS g w) (x : Ext w w') : TabS g w' := by
  obtain ⟨C, ty, h1, h2⟩ := h
  exact ⟨C, ty, by rw [x.block g (Array.getElem?_eq_some_iff.1 h1).1]; exact h1, h2⟩
theorem TabS.cell {g : Nat} {w : World} (h : TabS g w) {i : Nat} (hi : i < 12) : ∃ (s : ByteArray) (c : Nat), w.cell? ⟨g, i * 2, none⟩ = some (.string s) ∧ w.cell? ⟨g, i * 2 + 1, none⟩ = some (.int .i64 (c : Int)) ∧ s.size ≤ 100 ∧ errI s.data.toList = c := by
  obtain ⟨C, ty, h1, h2⟩ := h
  obtain ⟨s, c, k1, k2, k3, k4⟩ := h2 i hi
  exact ⟨s, c, by rw [cell_of_row w g _ C ty (0, 0) h1]; exact k1, by rw [cell_of_row w g _ C ty (0, 0) h1]; exact k2, k3, k4⟩
theorem showL_big : showL 18446744073709551616 = [49, 56, 52, 52, 54, 55, 52, 52, 48, 55, 51, 55, 48, 57, 53, 53, 49, 54, 49, 54] := showL_of (by decide +kernel) (by decide +kernel)
theorem show_big : (ByteArray.mk #[45, 49, 56, 52, 52, 54, 55, 52, 52, 48, 55, 51, 55, 48, 57, 53, 53, 49, 54, 49, 54]).data.toList = showI (-18446744073709551616) := by
  unfold showI
  rw [if_pos (by decide), show ((-18446744073709551616 : Int)).natAbs = 18446744073709551616 from rfl, showL_big]
theorem show_big2 : (showL ((-18446744073709551616 : Int)).natAbs).length = 20 := by rw [show ((-18446744073709551616 : Int)).natAbs = 18446744073709551616 from rfl, showL_big]; rfl
theorem showL_0 : showL 0 = [48] := showL_of (by decide +kernel) (by decide +kernel)
theorem show_zero : (ByteArray.mk #[48]).data.toList = showI (sgI true 0) := by
  rw [show sgI true 0 = 0 from rfl]
  unfold showI
  rw [if_neg (by decide), show ((0 : Int)).natAbs = 0 from rfl, showL_0]
theorem show_zero2 : (showL (sgI true 0).natAbs).length = 1 := by rw [show (sgI true 0).natAbs = 0 from rfl, showL_0]; rfl
theorem readI_none {l : List UInt8} (h : errI l ≠ 0) : readI l = 0 := by unfold readI; rw [if_pos h]
theorem tabD_get : ∀ i, i < 9 → ∃ (a b c d : Int), (#[.int .i64 17, .int .i64 5, .int .i64 3, .int .i64 2, .int .i64 0, .int .i64 17, .int .i64 (-5), .int .i64 (-3), .int .i64 2, .int .i64 0, .int .i64 (-17), .int .i64 5, .int .i64 (-4), .int .i64 3, .int .i64 0, .int .i64 (-17), .int .i64 (-5), .int .i64 4, .int .i64 3, .int .i64 0, .int .i64 (-15), .int .i64 5, .int .i64 (-3), .int .i64 0, .int .i64 0, .int .i64 15, .int .i64 (-5), .int .i64 (-3), .int .i64 0, .int .i64 0, .int .i64 (-1), .int .i64 1099511627776, .int .i64 (-1), .int .i64 1099511627775, .int .i64 0, .int .i64 0, .int .i64 (-3), .int .i64 0, .int .i64 0, .int .i64 0, .int .i64 4, .int .i64 9, .int .i64 0, .int .i64 4, .int .i64 0] : Array Value)[i * 5]? = some (.int .i64 a) ∧ (#[.int .i64 17, .int .i64 5, .int .i64 3, .int .i64 2, .int .i64 0, .int .i64 17, .int .i64 (-5), .int .i64 (-3), .int .i64 2, .int .i64 0, .int .i64 (-17), .int .i64 5, .int .i64 (-4), .int .i64 3, .int .i64 0, .int .i64 (-17), .int .i64 (-5), .int .i64 4, .int .i64 3, .int .i64 0, .int .i64 (-15), .int .i64 5, .int .i64 (-3), .int .i64 0, .int .i64 0, .int .i64 15, .int .i64 (-5), .int .i64 (-3), .int .i64 0, .int .i64 0, .int .i64 (-1), .int .i64 1099511627776, .int .i64 (-1), .int .i64 1099511627775, .int .i64 0, .int .i64 0, .int .i64 (-3), .int .i64 0, .int .i64 0, .int .i64 0, .int .i64 4, .int .i64 9, .int .i64 0, .int .i64 4, .int .i64 0] : Array Value)[i * 5 + 1]? = some (.int .i64 b) ∧ (#[.int .i64 17, .int .i64 5, .int .i64 3, .int .i64 2, .int .i64 0, .int .i64 17, .int .i64 (-5), .int .i64 (-3), .int .i64 2, .int .i64 0, .int .i64 (-17), .int .i64 5, .int .i64 (-4), .int .i64 3, .int .i64 0, .int .i64 (-17), .int .i64 (-5), .int .i64 4, .int .i64 3, .int .i64 0, .int .i64 (-15), .int .i64 5, .int .i64 (-3), .int .i64 0, .int .i64 0, .int .i64 15, .int .i64 (-5), .int .i64 (-3), .int .i64 0, .int .i64 0, .int .i64 (-1), .int .i64 1099511627776, .int .i64 (-1), .int .i64 1099511627775, .int .i64 0, .int .i64 0, .int .i64 (-3), .int .i64 0, .int .i64 0, .int .i64 0, .int .i64 4, .int .i64 9, .int .i64 0, .int .i64 4, .int .i64 0] : Array Value)[i * 5 + 2]? = some (.int .i64 c) ∧ (#[.int .i64 17, .int .i64 5, .int .i64 3, .int .i64 2, .int .i64 0, .int .i64 17, .int .i64 (-5), .int .i64 (-3), .int .i64 2, .int .i64 0, .int .i64 (-17), .int .i64 5, .int .i64 (-4), .int .i64 3, .int .i64 0, .int .i64 (-17), .int .i64 (-5), .int .i64 4, .int .i64 3, .int .i64 0, .int .i64 (-15), .int .i64 5, .int .i64 (-3), .int .i64 0, .int .i64 0, .int .i64 15, .int .i64 (-5), .int .i64 (-3), .int .i64 0, .int .i64 0, .int .i64 (-1), .int .i64 1099511627776, .int .i64 (-1), .int .i64 1099511627775, .int .i64 0, .int .i64 0, .int .i64 (-3), .int .i64 0, .int .i64 0, .int .i64 0, .int .i64 4, .int .i64 9, .int .i64 0, .int .i64 4, .int .i64 0] : Array Value)[i * 5 + 3]? = some (.int .i64 d) ∧ (#[.int .i64 17, .int .i64 5, .int .i64 3, .int .i64 2, .int .i64 0, .int .i64 17, .int .i64 (-5), .int .i64 (-3), .int .i64 2, .int .i64 0, .int .i64 (-17), .int .i64 5, .int .i64 (-4), .int .i64 3, .int .i64 0, .int .i64 (-17), .int .i64 (-5), .int .i64 4, .int .i64 3, .int .i64 0, .int .i64 (-15), .int .i64 5, .int .i64 (-3), .int .i64 0, .int .i64 0, .int .i64 15, .int .i64 (-5), .int .i64 (-3), .int .i64 0, .int .i64 0, .int .i64 (-1), .int .i64 1099511627776, .int .i64 (-1), .int .i64 1099511627775, .int .i64 0, .int .i64 0, .int .i64 (-3), .int .i64 0, .int .i64 0, .int .i64 0, .int .i64 4, .int .i64 9, .int .i64 0, .int .i64 4, .int .i64 0] : Array Value)[i * 5 + 4]? = some (.int .i64 0) ∧ b ≠ 0 ∧ a / b = c ∧ a % b = d ∧ (-9223372036854775808 ≤ a ∧ a ≤ 9223372036854775807 ∧ -9223372036854775808 ≤ b ∧ b ≤ 9223372036854775807 ∧ -9223372036854775808 ≤ c ∧ c ≤ 9223372036854775807 ∧ -9223372036854775808 ≤ d ∧ d ≤ 9223372036854775807)
  | 0, _ => ⟨17, 5, 3, 2, rfl, rfl, rfl, rfl, rfl, by decide, by decide, by decide, by decide⟩
  | 1, _ => ⟨17, -5, -3, 2, rfl, rfl, rfl, rfl, rfl, by decide, by decide, by decide, by decide⟩
  | 2, _ => ⟨-17, 5, -4, 3, rfl, rfl, rfl, rfl, rfl, by decide, by decide, by decide, by decide⟩
  | 3, _ => ⟨-17, -5, 4, 3, rfl, rfl, rfl, rfl, rfl, by decide, by decide, by decide, by decide⟩
  | 4, _ => ⟨-15, 5, -3, 0, rfl, rfl, rfl, rfl, rfl, by decide, by decide, by decide, by decide⟩
  | 5, _ => ⟨15, -5, -3, 0, rfl, rfl, rfl, rfl, rfl, by decide, by decide, by decide, by decide⟩
  | 6, _ => ⟨-1, 1099511627776, -1, 1099511627775, rfl, rfl, rfl, rfl, rfl, by decide, by decide, by decide, by decide⟩
  | 7, _ => ⟨0, -3, 0, 0, rfl, rfl, rfl, rfl, rfl, by decide, by decide, by decide, by decide⟩
  | 8, _ => ⟨4, 9, 0, 4, rfl, rfl, rfl, rfl, rfl, by decide, by decide, by decide, by decide⟩
  | n + 9, h => absurd h (by omega)
theorem tabS_get : ∀ i, i < 12 → ∃ (s : ByteArray) (c : Nat), (#[.string ⟨#[]⟩, .int .i64 4, .string ⟨#[45]⟩, .int .i64 4, .string ⟨#[45, 48]⟩, .int .i64 3, .string ⟨#[45, 45, 49]⟩, .int .i64 3, .string ⟨#[43, 49]⟩, .int .i64 3, .string ⟨#[48, 48, 55]⟩, .int .i64 3, .string ⟨#[45, 48, 49]⟩, .int .i64 3, .string ⟨#[49, 97]⟩, .int .i64 3, .string ⟨#[32, 49]⟩, .int .i64 3, .string ⟨#[49, 45]⟩, .int .i64 3, .string ⟨#[48]⟩, .int .i64 0, .string ⟨#[45, 49, 48]⟩, .int .i64 0] : Array Value)[i * 2]? = some (.string s) ∧ (#[.string ⟨#[]⟩, .int .i64 4, .string ⟨#[45]⟩, .int .i64 4, .string ⟨#[45, 48]⟩, .int .i64 3, .string ⟨#[45, 45, 49]⟩, .int .i64 3, .string ⟨#[43, 49]⟩, .int .i64 3, .string ⟨#[48, 48, 55]⟩, .int .i64 3, .string ⟨#[45, 48, 49]⟩, .int .i64 3, .string ⟨#[49, 97]⟩, .int .i64 3, .string ⟨#[32, 49]⟩, .int .i64 3, .string ⟨#[49, 45]⟩, .int .i64 3, .string ⟨#[48]⟩, .int .i64 0, .string ⟨#[45, 49, 48]⟩, .int .i64 0] : Array Value)[i * 2 + 1]? = some (.int .i64 (c : Int)) ∧ s.size ≤ 100 ∧ errI s.data.toList = c
  | 0, _ => ⟨⟨#[]⟩, 4, rfl, rfl, by decide, (by unfold errI; rw [if_neg (by decide)]; decide +kernel)⟩
  | 1, _ => ⟨⟨#[45]⟩, 4, rfl, rfl, by decide, (by show errI (45 :: []) = _; rw [errI_neg]; decide +kernel)⟩
  | 2, _ => ⟨⟨#[45, 48]⟩, 3, rfl, rfl, by decide, (by show errI (45 :: [48]) = _; rw [errI_neg]; decide +kernel)⟩
  | 3, _ => ⟨⟨#[45, 45, 49]⟩, 3, rfl, rfl, by decide, (by show errI (45 :: [45, 49]) = _; rw [errI_neg]; decide +kernel)⟩
  | 4, _ => ⟨⟨#[43, 49]⟩, 3, rfl, rfl, by decide, (by unfold errI; rw [if_neg (by decide)]; decide +kernel)⟩
  | 5, _ => ⟨⟨#[48, 48, 55]⟩, 3, rfl, rfl, by decide, (by unfold errI; rw [if_neg (by decide)]; decide +kernel)⟩
  | 6, _ => ⟨⟨#[45, 48, 49]⟩, 3, rfl, rfl, by decide, (by show errI (45 :: [48, 49]) = _; rw [errI_neg]; decide +kernel)⟩
  | 7, _ => ⟨⟨#[49, 97]⟩, 3, rfl, rfl, by decide, (by unfold errI; rw [if_neg (by decide)]; decide +kernel)⟩
  | 8, _ => ⟨⟨#[32, 49]⟩, 3, rfl, rfl, by decide, (by unfold errI; rw [if_neg (by decide)]; decide +kernel)⟩
  | 9, _ => ⟨⟨#[49, 45]⟩, 3, rfl, rfl, by decide, (by unfold errI; rw [if_neg (by decide)]; decide +kernel)⟩
  | 10, _ => ⟨⟨#[48]⟩, 0, rfl, rfl, by decide, (by unfold errI; rw [if_neg (by decide)]; decide +kernel)⟩
  | 11, _ => ⟨⟨#[45, 49, 48]⟩, 0, rfl, rfl, by decide, (by show errI (45 :: [49, 48]) = _; rw [errI_neg]; decide +kernel)⟩
  | n + 12, h => absurd h (by omega)

set_option maxHeartbeats 4000000 in
set_option maxRecDepth 1000000 in
theorem wholeNames_calls (w : World) : Calls Tryd.prog 3 #[] w (Yes w) := by
  go_enter Tryd.func3, Tryd.ntmps3
  go_wp2_with fail
  refine (lawake_calls _).mono ?_
  rintro e w1 ⟨rfl, x1⟩
  go_wp2_with fail
  have Z0 : Hid (InI (((((((((w1.alloc (.cells #[.int .u64 0, .int .u64 0] 28)).alloc (.cells #[.int .u64 9223372036854775807, .int .u64 0] 28)).alloc (.cells #[.int .u64 9223372036854775808] 28)).alloc (.cells #[.int .u64 9223372036854775808] 28)).alloc (.cells #[.int .u64 9223372036854775809] 28)).alloc (.cells #[.int .u64 1] 28)).alloc (.cells #[.int .u64 5, .int .u64 1] 28)).alloc (.cells #[.int .u64 18446744073709551615] 28)).alloc (.cells #[.bool false, .slice none 0 0, .int .i64 0, .bool true, .bool true, .slice (some ⟨w1.heap.size, 0, none⟩) 2 2, .int .i64 0, .bool true, .bool false, .slice (some ⟨w1.heap.size + 1, 0, none⟩) 2 2, .int .i64 9223372036854775807, .bool true, .bool false, .slice (some ⟨w1.heap.size + 1 + 1, 0, none⟩) 1 1, .int .i64 0, .bool false, .bool true, .slice (some ⟨w1.heap.size + 1 + 1 + 1, 0, none⟩) 1 1, .int .i64 (-9223372036854775808), .bool true, .bool true, .slice (some ⟨w1.heap.size + 1 + 1 + 1 + 1, 0, none⟩) 1 1, .int .i64 0, .bool false, .bool true, .slice (some ⟨w1.heap.size + 1 + 1 + 1 + 1 + 1, 0, none⟩) 1 1, .int .i64 (-1), .bool true, .bool false, .slice (some ⟨w1.heap.size + 1 + 1 + 1 + 1 + 1 + 1, 0, none⟩) 2 2, .int .i64 0, .bool false, .bool true, .slice (some ⟨w1.heap.size + 1 + 1 + 1 + 1 + 1 + 1 + 1, 0, none⟩) 1 1, .int .i64 0, .bool false] 27)) false (.slice none 0 0) 2 0) := (⟨[], Limbs.nil _, (by unfold iv; simp [val]), by simp⟩ : InI _ _ _ _ _)
  have Z1 : Hid (InI (((((((((w1.alloc (.cells #[.int .u64 0, .int .u64 0] 28)).alloc (.cells #[.int .u64 9223372036854775807, .int .u64 0] 28)).alloc (.cells #[.int .u64 9223372036854775808] 28)).alloc (.cells #[.int .u64 9223372036854775808] 28)).alloc (.cells #[.int .u64 9223372036854775809] 28)).alloc (.cells #[.int .u64 1] 28)).alloc (.cells #[.int .u64 5, .int .u64 1] 28)).alloc (.cells #[.int .u64 18446744073709551615] 28)).alloc (.cells #[.bool false, .slice none 0 0, .int .i64 0, .bool true, .bool true, .slice (some ⟨w1.heap.size, 0, none⟩) 2 2, .int .i64 0, .bool true, .bool false, .slice (some ⟨w1.heap.size + 1, 0, none⟩) 2 2, .int .i64 9223372036854775807, .bool true, .bool false, .slice (some ⟨w1.heap.size + 1 + 1, 0, none⟩) 1 1, .int .i64 0, .bool false, .bool true, .slice (some ⟨w1.heap.size + 1 + 1 + 1, 0, none⟩) 1 1, .int .i64 (-9223372036854775808), .bool true, .bool true, .slice (some ⟨w1.heap.size + 1 + 1 + 1 + 1, 0, none⟩) 1 1, .int .i64 0, .bool false, .bool true, .slice (some ⟨w1.heap.size + 1 + 1 + 1 + 1 + 1, 0, none⟩) 1 1, .int .i64 (-1), .bool true, .bool false, .slice (some ⟨w1.heap.size + 1 + 1 + 1 + 1 + 1 + 1, 0, none⟩) 2 2, .int .i64 0, .bool false, .bool true, .slice (some ⟨w1.heap.size + 1 + 1 + 1 + 1 + 1 + 1 + 1, 0, none⟩) 1 1, .int .i64 0, .bool false] 27)) true (.slice (some ⟨w1.heap.size, 0, none⟩) 2 2) 2 0) := (⟨[0, 0], (limbs_at (w := w1) [0, 0] (by rw [Bs_def]; simp) _ rfl 2 rfl (by rw [Lmax_def]; simp) (w1.heap.size) (by simp)).ext (((((((((Ext.refl _).alloc _).alloc _).alloc _).alloc _).alloc _).alloc _).alloc _).alloc _), (by rw [iv_lit2, Bs_def]; decide), by simp⟩ : InI _ _ _ _ _)
  have Z2 : Hid (InI (((((((((w1.alloc (.cells #[.int .u64 0, .int .u64 0] 28)).alloc (.cells #[.int .u64 9223372036854775807, .int .u64 0] 28)).alloc (.cells #[.int .u64 9223372036854775808] 28)).alloc (.cells #[.int .u64 9223372036854775808] 28)).alloc (.cells #[.int .u64 9223372036854775809] 28)).alloc (.cells #[.int .u64 1] 28)).alloc (.cells #[.int .u64 5, .int .u64 1] 28)).alloc (.cells #[.int .u64 18446744073709551615] 28)).alloc (.cells #[.bool false, .slice none 0 0, .int .i64 0, .bool true, .bool true, .slice (some ⟨w1.heap.size, 0, none⟩) 2 2, .int .i64 0, .bool true, .bool false, .slice (some ⟨w1.heap.size + 1, 0, none⟩) 2 2, .int .i64 9223372036854775807, .bool true, .bool false, .slice (some ⟨w1.heap.size + 1 + 1, 0, none⟩) 1 1, .int .i64 0, .bool false, .bool true, .slice (some ⟨w1.heap.size + 1 + 1 + 1, 0, none⟩) 1 1, .int .i64 (-9223372036854775808), .bool true, .bool true, .slice (some ⟨w1.heap.size + 1 + 1 + 1 + 1, 0, none⟩) 1 1, .int .i64 0, .bool false, .bool true, .slice (some ⟨w1.heap.size + 1 + 1 + 1 + 1 + 1, 0, none⟩) 1 1, .int .i64 (-1), .bool true, .bool false, .slice (some ⟨w1.heap.size + 1 + 1 + 1 + 1 + 1 + 1, 0, none⟩) 2 2, .int .i64 0, .bool false, .bool true, .slice (some ⟨w1.heap.size + 1 + 1 + 1 + 1 + 1 + 1 + 1, 0, none⟩) 1 1, .int .i64 0, .bool false] 27)) false (.slice (some ⟨w1.heap.size + 1, 0, none⟩) 2 2) 2 9223372036854775807) := (⟨[9223372036854775807, 0], (limbs_at (w := (w1.alloc (.cells #[.int .u64 0, .int .u64 0] 28))) [9223372036854775807, 0] (by rw [Bs_def]; simp) _ rfl 2 rfl (by rw [Lmax_def]; simp) (w1.heap.size + 1) (by simp)).ext ((((((((Ext.refl _).alloc _).alloc _).alloc _).alloc _).alloc _).alloc _).alloc _), (by rw [iv_lit2, Bs_def]; decide), by simp⟩ : InI _ _ _ _ _)
  have Z3 : Hid (InI (((((((((w1.alloc (.cells #[.int .u64 0, .int .u64 0] 28)).alloc (.cells #[.int .u64 9223372036854775807, .int .u64 0] 28)).alloc (.cells #[.int .u64 9223372036854775808] 28)).alloc (.cells #[.int .u64 9223372036854775808] 28)).alloc (.cells #[.int .u64 9223372036854775809] 28)).alloc (.cells #[.int .u64 1] 28)).alloc (.cells #[.int .u64 5, .int .u64 1] 28)).alloc (.cells #[.int .u64 18446744073709551615] 28)).alloc (.cells #[.bool false, .slice none 0 0, .int .i64 0, .bool true, .bool true, .slice (some ⟨w1.heap.size, 0, none⟩) 2 2, .int .i64 0, .bool true, .bool false, .slice (some ⟨w1.heap.size + 1, 0, none⟩) 2 2, .int .i64 9223372036854775807, .bool true, .bool false, .slice (some ⟨w1.heap.size + 1 + 1, 0, none⟩) 1 1, .int .i64 0, .bool false, .bool true, .slice (some ⟨w1.heap.size + 1 + 1 + 1, 0, none⟩) 1 1, .int .i64 (-9223372036854775808), .bool true, .bool true, .slice (some ⟨w1.heap.size + 1 + 1 + 1 + 1, 0, none⟩) 1 1, .int .i64 0, .bool false, .bool true, .slice (some ⟨w1.heap.size + 1 + 1 + 1 + 1 + 1, 0, none⟩) 1 1, .int .i64 (-1), .bool true, .bool false, .slice (some ⟨w1.heap.size + 1 + 1 + 1 + 1 + 1 + 1, 0, none⟩) 2 2, .int .i64 0, .bool false, .bool true, .slice (some ⟨w1.heap.size + 1 + 1 + 1 + 1 + 1 + 1 + 1, 0, none⟩) 1 1, .int .i64 0, .bool false] 27)) false (.slice (some ⟨w1.heap.size + 1 + 1, 0, none⟩) 1 1) 2 9223372036854775808) := (⟨[9223372036854775808], (limbs_at (w := ((w1.alloc (.cells #[.int .u64 0, .int .u64 0] 28)).alloc (.cells #[.int .u64 9223372036854775807, .int .u64 0] 28))) [9223372036854775808] (by rw [Bs_def]; simp) _ rfl 1 rfl (by rw [Lmax_def]; simp) (w1.heap.size + 1 + 1) (by simp)).ext (((((((Ext.refl _).alloc _).alloc _).alloc _).alloc _).alloc _).alloc _), (by rw [iv_lit1]; decide), by simp⟩ : InI _ _ _ _ _)
  have Z4 : Hid (InI (((((((((w1.alloc (.cells #[.int .u64 0, .int .u64 0] 28)).alloc (.cells #[.int .u64 9223372036854775807, .int .u64 0] 28)).alloc (.cells #[.int .u64 9223372036854775808] 28)).alloc (.cells #[.int .u64 9223372036854775808] 28)).alloc (.cells #[.int .u64 9223372036854775809] 28)).alloc (.cells #[.int .u64 1] 28)).alloc (.cells #[.int .u64 5, .int .u64 1] 28)).alloc (.cells #[.int .u64 18446744073709551615] 28)).alloc (.cells #[.bool false, .slice none 0 0, .int .i64 0, .bool true, .bool true, .slice (some ⟨w1.heap.size, 0, none⟩) 2 2, .int .i64 0, .bool true, .bool false, .slice (some ⟨w1.heap.size + 1, 0, none⟩) 2 2, .int .i64 9223372036854775807, .bool true, .bool false, .slice (some ⟨w1.heap.size + 1 + 1, 0, none⟩) 1 1, .int .i64 0, .bool false, .bool true, .slice (some ⟨w1.heap.size + 1 + 1 + 1, 0, none⟩) 1 1, .int .i64 (-9223372036854775808), .bool true, .bool true, .slice (some ⟨w1.heap.size + 1 + 1 + 1 + 1, 0, none⟩) 1 1, .int .i64 0, .bool false, .bool true, .slice (some ⟨w1.heap.size + 1 + 1 + 1 + 1 + 1, 0, none⟩) 1 1, .int .i64 (-1), .bool true, .bool false, .slice (some ⟨w1.heap.size + 1 + 1 + 1 + 1 + 1 + 1, 0, none⟩) 2 2, .int .i64 0, .bool false, .bool true, .slice (some ⟨w1.heap.size + 1 + 1 + 1 + 1 + 1 + 1 + 1, 0, none⟩) 1 1, .int .i64 0, .bool false] 27)) true (.slice (some ⟨w1.heap.size + 1 + 1 + 1, 0, none⟩) 1 1) 2 (-9223372036854775808)) := (⟨[9223372036854775808], (limbs_at (w := (((w1.alloc (.cells #[.int .u64 0, .int .u64 0] 28)).alloc (.cells #[.int .u64 9223372036854775807, .int .u64 0] 28)).alloc (.cells #[.int .u64 9223372036854775808] 28))) [9223372036854775808] (by rw [Bs_def]; simp) _ rfl 1 rfl (by rw [Lmax_def]; simp) (w1.heap.size + 1 + 1 + 1) (by simp)).ext ((((((Ext.refl _).alloc _).alloc _).alloc _).alloc _).alloc _), (by rw [iv_lit1]; decide), by simp⟩ : InI _ _ _ _ _)
  have Z5 : Hid (InI (((((((((w1.alloc (.cells #[.int .u64 0, .int .u64 0] 28)).alloc (.cells #[.int .u64 9223372036854775807, .int .u64 0] 28)).alloc (.cells #[.int .u64 9223372036854775808] 28)).alloc (.cells #[.int .u64 9223372036854775808] 28)).alloc (.cells #[.int .u64 9223372036854775809] 28)).alloc (.cells #[.int .u64 1] 28)).alloc (.cells #[.int .u64 5, .int .u64 1] 28)).alloc (.cells #[.int .u64 18446744073709551615] 28)).alloc (.cells #[.bool false, .slice none 0 0, .int .i64 0, .bool true, .bool true, .slice (some ⟨w1.heap.size, 0, none⟩) 2 2, .int .i64 0, .bool true, .bool false, .slice (some ⟨w1.heap.size + 1, 0, none⟩) 2 2, .int .i64 9223372036854775807, .bool true, .bool false, .slice (some ⟨w1.heap.size + 1 + 1, 0, none⟩) 1 1, .int .i64 0, .bool false, .bool true, .slice (some ⟨w1.heap.size + 1 + 1 + 1, 0, none⟩) 1 1, .int .i64 (-9223372036854775808), .bool true, .bool true, .slice (some ⟨w1.heap.size + 1 + 1 + 1 + 1, 0, none⟩) 1 1, .int .i64 0, .bool false, .bool true, .slice (some ⟨w1.heap.size + 1 + 1 + 1 + 1 + 1, 0, none⟩) 1 1, .int .i64 (-1), .bool true, .bool false, .slice (some ⟨w1.heap.size + 1 + 1 + 1 + 1 + 1 + 1, 0, none⟩) 2 2, .int .i64 0, .bool false, .bool true, .slice (some ⟨w1.heap.size + 1 + 1 + 1 + 1 + 1 + 1 + 1, 0, none⟩) 1 1, .int .i64 0, .bool false] 27)) true (.slice (some ⟨w1.heap.size + 1 + 1 + 1 + 1, 0, none⟩) 1 1) 2 (-9223372036854775809)) := (⟨[9223372036854775809], (limbs_at (w := ((((w1.alloc (.cells #[.int .u64 0, .int .u64 0] 28)).alloc (.cells #[.int .u64 9223372036854775807, .int .u64 0] 28)).alloc (.cells #[.int .u64 9223372036854775808] 28)).alloc (.cells #[.int .u64 9223372036854775808] 28))) [9223372036854775809] (by rw [Bs_def]; simp) _ rfl 1 rfl (by rw [Lmax_def]; simp) (w1.heap.size + 1 + 1 + 1 + 1) (by simp)).ext (((((Ext.refl _).alloc _).alloc _).alloc _).alloc _), (by rw [iv_lit1]; decide), by simp⟩ : InI _ _ _ _ _)
  have Z6 : Hid (InI (((((((((w1.alloc (.cells #[.int .u64 0, .int .u64 0] 28)).alloc (.cells #[.int .u64 9223372036854775807, .int .u64 0] 28)).alloc (.cells #[.int .u64 9223372036854775808] 28)).alloc (.cells #[.int .u64 9223372036854775808] 28)).alloc (.cells #[.int .u64 9223372036854775809] 28)).alloc (.cells #[.int .u64 1] 28)).alloc (.cells #[.int .u64 5, .int .u64 1] 28)).alloc (.cells #[.int .u64 18446744073709551615] 28)).alloc (.cells #[.bool false, .slice none 0 0, .int .i64 0, .bool true, .bool true, .slice (some ⟨w1.heap.size, 0, none⟩) 2 2, .int .i64 0, .bool true, .bool false, .slice (some ⟨w1.heap.size + 1, 0, none⟩) 2 2, .int .i64 9223372036854775807, .bool true, .bool false, .slice (some ⟨w1.heap.size + 1 + 1, 0, none⟩) 1 1, .int .i64 0, .bool false, .bool true, .slice (some ⟨w1.heap.size + 1 + 1 + 1, 0, none⟩) 1 1, .int .i64 (-9223372036854775808), .bool true, .bool true, .slice (some ⟨w1.heap.size + 1 + 1 + 1 + 1, 0, none⟩) 1 1, .int .i64 0, .bool false, .bool true, .slice (some ⟨w1.heap.size + 1 + 1 + 1 + 1 + 1, 0, none⟩) 1 1, .int .i64 (-1), .bool true, .bool false, .slice (some ⟨w1.heap.size + 1 + 1 + 1 + 1 + 1 + 1, 0, none⟩) 2 2, .int .i64 0, .bool false, .bool true, .slice (some ⟨w1.heap.size + 1 + 1 + 1 + 1 + 1 + 1 + 1, 0, none⟩) 1 1, .int .i64 0, .bool false] 27)) true (.slice (some ⟨w1.heap.size + 1 + 1 + 1 + 1 + 1, 0, none⟩) 1 1) 2 (-1)) := (⟨[1], (limbs_at (w := (((((w1.alloc (.cells #[.int .u64 0, .int .u64 0] 28)).alloc (.cells #[.int .u64 9223372036854775807, .int .u64 0] 28)).alloc (.cells #[.int .u64 9223372036854775808] 28)).alloc (.cells #[.int .u64 9223372036854775808] 28)).alloc (.cells #[.int .u64 9223372036854775809] 28))) [1] (by rw [Bs_def]; simp) _ rfl 1 rfl (by rw [Lmax_def]; simp) (w1.heap.size + 1 + 1 + 1 + 1 + 1) (by simp)).ext ((((Ext.refl _).alloc _).alloc _).alloc _), (by rw [iv_lit1]; decide), by simp⟩ : InI _ _ _ _ _)
  have Z7 : Hid (InI (((((((((w1.alloc (.cells #[.int .u64 0, .int .u64 0] 28)).alloc (.cells #[.int .u64 9223372036854775807, .int .u64 0] 28)).alloc (.cells #[.int .u64 9223372036854775808] 28)).alloc (.cells #[.int .u64 9223372036854775808] 28)).alloc (.cells #[.int .u64 9223372036854775809] 28)).alloc (.cells #[.int .u64 1] 28)).alloc (.cells #[.int .u64 5, .int .u64 1] 28)).alloc (.cells #[.int .u64 18446744073709551615] 28)).alloc (.cells #[.bool false, .slice none 0 0, .int .i64 0, .bool true, .bool true, .slice (some ⟨w1.heap.size, 0, none⟩) 2 2, .int .i64 0, .bool true, .bool false, .slice (some ⟨w1.heap.size + 1, 0, none⟩) 2 2, .int .i64 9223372036854775807, .bool true, .bool false, .slice (some ⟨w1.heap.size + 1 + 1, 0, none⟩) 1 1, .int .i64 0, .bool false, .bool true, .slice (some ⟨w1.heap.size + 1 + 1 + 1, 0, none⟩) 1 1, .int .i64 (-9223372036854775808), .bool true, .bool true, .slice (some ⟨w1.heap.size + 1 + 1 + 1 + 1, 0, none⟩) 1 1, .int .i64 0, .bool false, .bool true, .slice (some ⟨w1.heap.size + 1 + 1 + 1 + 1 + 1, 0, none⟩) 1 1, .int .i64 (-1), .bool true, .bool false, .slice (some ⟨w1.heap.size + 1 + 1 + 1 + 1 + 1 + 1, 0, none⟩) 2 2, .int .i64 0, .bool false, .bool true, .slice (some ⟨w1.heap.size + 1 + 1 + 1 + 1 + 1 + 1 + 1, 0, none⟩) 1 1, .int .i64 0, .bool false] 27)) false (.slice (some ⟨w1.heap.size + 1 + 1 + 1 + 1 + 1 + 1, 0, none⟩) 2 2) 2 18446744073709551621) := (⟨[5, 1], (limbs_at (w := ((((((w1.alloc (.cells #[.int .u64 0, .int .u64 0] 28)).alloc (.cells #[.int .u64 9223372036854775807, .int .u64 0] 28)).alloc (.cells #[.int .u64 9223372036854775808] 28)).alloc (.cells #[.int .u64 9223372036854775808] 28)).alloc (.cells #[.int .u64 9223372036854775809] 28)).alloc (.cells #[.int .u64 1] 28))) [5, 1] (by rw [Bs_def]; simp) _ rfl 2 rfl (by rw [Lmax_def]; simp) (w1.heap.size + 1 + 1 + 1 + 1 + 1 + 1) (by simp)).ext (((Ext.refl _).alloc _).alloc _), (by rw [iv_lit2, Bs_def]; decide), by simp⟩ : InI _ _ _ _ _)
  have Z8 : Hid (InI (((((((((w1.alloc (.cells #[.int .u64 0, .int .u64 0] 28)).alloc (.cells #[.int .u64 9223372036854775807, .int .u64 0] 28)).alloc (.cells #[.int .u64 9223372036854775808] 28)).alloc (.cells #[.int .u64 9223372036854775808] 28)).alloc (.cells #[.int .u64 9223372036854775809] 28)).alloc (.cells #[.int .u64 1] 28)).alloc (.cells #[.int .u64 5, .int .u64 1] 28)).alloc (.cells #[.int .u64 18446744073709551615] 28)).alloc (.cells #[.bool false, .slice none 0 0, .int .i64 0, .bool true, .bool true, .slice (some ⟨w1.heap.size, 0, none⟩) 2 2, .int .i64 0, .bool true, .bool false, .slice (some ⟨w1.heap.size + 1, 0, none⟩) 2 2, .int .i64 9223372036854775807, .bool true, .bool false, .slice (some ⟨w1.heap.size + 1 + 1, 0, none⟩) 1 1, .int .i64 0, .bool false, .bool true, .slice (some ⟨w1.heap.size + 1 + 1 + 1, 0, none⟩) 1 1, .int .i64 (-9223372036854775808), .bool true, .bool true, .slice (some ⟨w1.heap.size + 1 + 1 + 1 + 1, 0, none⟩) 1 1, .int .i64 0, .bool false, .bool true, .slice (some ⟨w1.heap.size + 1 + 1 + 1 + 1 + 1, 0, none⟩) 1 1, .int .i64 (-1), .bool true, .bool false, .slice (some ⟨w1.heap.size + 1 + 1 + 1 + 1 + 1 + 1, 0, none⟩) 2 2, .int .i64 0, .bool false, .bool true, .slice (some ⟨w1.heap.size + 1 + 1 + 1 + 1 + 1 + 1 + 1, 0, none⟩) 1 1, .int .i64 0, .bool false] 27)) true (.slice (some ⟨w1.heap.size + 1 + 1 + 1 + 1 + 1 + 1 + 1, 0, none⟩) 1 1) 2 (-18446744073709551615)) := (⟨[18446744073709551615], (limbs_at (w := (((((((w1.alloc (.cells #[.int .u64 0, .int .u64 0] 28)).alloc (.cells #[.int .u64 9223372036854775807, .int .u64 0] 28)).alloc (.cells #[.int .u64 9223372036854775808] 28)).alloc (.cells #[.int .u64 9223372036854775808] 28)).alloc (.cells #[.int .u64 9223372036854775809] 28)).alloc (.cells #[.int .u64 1] 28)).alloc (.cells #[.int .u64 5, .int .u64 1] 28))) [18446744073709551615] (by rw [Bs_def]; simp) _ rfl 1 rfl (by rw [Lmax_def]; simp) (w1.heap.size + 1 + 1 + 1 + 1 + 1 + 1 + 1) (by simp)).ext ((Ext.refl _).alloc _), (by rw [iv_lit1]; decide), by simp⟩ : InI _ _ _ _ _)
  have TB : Hid (TabI (w1.heap.size + 1 + 1 + 1 + 1 + 1 + 1 + 1 + 1) (((((((((w1.alloc (.cells #[.int .u64 0, .int .u64 0] 28)).alloc (.cells #[.int .u64 9223372036854775807, .int .u64 0] 28)).alloc (.cells #[.int .u64 9223372036854775808] 28)).alloc (.cells #[.int .u64 9223372036854775808] 28)).alloc (.cells #[.int .u64 9223372036854775809] 28)).alloc (.cells #[.int .u64 1] 28)).alloc (.cells #[.int .u64 5, .int .u64 1] 28)).alloc (.cells #[.int .u64 18446744073709551615] 28)).alloc (.cells #[.bool false, .slice none 0 0, .int .i64 0, .bool true, .bool true, .slice (some ⟨w1.heap.size, 0, none⟩) 2 2, .int .i64 0, .bool true, .bool false, .slice (some ⟨w1.heap.size + 1, 0, none⟩) 2 2, .int .i64 9223372036854775807, .bool true, .bool false, .slice (some ⟨w1.heap.size + 1 + 1, 0, none⟩) 1 1, .int .i64 0, .bool false, .bool true, .slice (some ⟨w1.heap.size + 1 + 1 + 1, 0, none⟩) 1 1, .int .i64 (-9223372036854775808), .bool true, .bool true, .slice (some ⟨w1.heap.size + 1 + 1 + 1 + 1, 0, none⟩) 1 1, .int .i64 0, .bool false, .bool true, .slice (some ⟨w1.heap.size + 1 + 1 + 1 + 1 + 1, 0, none⟩) 1 1, .int .i64 (-1), .bool true, .bool false, .slice (some ⟨w1.heap.size + 1 + 1 + 1 + 1 + 1 + 1, 0, none⟩) 2 2, .int .i64 0, .bool false, .bool true, .slice (some ⟨w1.heap.size + 1 + 1 + 1 + 1 + 1 + 1 + 1, 0, none⟩) 1 1, .int .i64 0, .bool false] 27))) := by
    refine ⟨_, _, by have h := heap_alloc_new ((((((((w1.alloc (.cells #[.int .u64 0, .int .u64 0] 28)).alloc (.cells #[.int .u64 9223372036854775807, .int .u64 0] 28)).alloc (.cells #[.int .u64 9223372036854775808] 28)).alloc (.cells #[.int .u64 9223372036854775808] 28)).alloc (.cells #[.int .u64 9223372036854775809] 28)).alloc (.cells #[.int .u64 1] 28)).alloc (.cells #[.int .u64 5, .int .u64 1] 28)).alloc (.cells #[.int .u64 18446744073709551615] 28)) (.cells #[.bool false, .slice none 0 0, .int .i64 0, .bool true, .bool true, .slice (some ⟨w1.heap.size, 0, none⟩) 2 2, .int .i64 0, .bool true, .bool false, .slice (some ⟨w1.heap.size + 1, 0, none⟩) 2 2, .int .i64 9223372036854775807, .bool true, .bool false, .slice (some ⟨w1.heap.size + 1 + 1, 0, none⟩) 1 1, .int .i64 0, .bool false, .bool true, .slice (some ⟨w1.heap.size + 1 + 1 + 1, 0, none⟩) 1 1, .int .i64 (-9223372036854775808), .bool true, .bool true, .slice (some ⟨w1.heap.size + 1 + 1 + 1 + 1, 0, none⟩) 1 1, .int .i64 0, .bool false, .bool true, .slice (some ⟨w1.heap.size + 1 + 1 + 1 + 1 + 1, 0, none⟩) 1 1, .int .i64 (-1), .bool true, .bool false, .slice (some ⟨w1.heap.size + 1 + 1 + 1 + 1 + 1 + 1, 0, none⟩) 2 2, .int .i64 0, .bool false, .bool true, .slice (some ⟨w1.heap.size + 1 + 1 + 1 + 1 + 1 + 1 + 1, 0, none⟩) 1 1, .int .i64 0, .bool false] 27); simpa using h, ?_⟩
    intro i hi
    match i, hi with
    | 0, _ => exact ⟨_, _, _, _, _, _, _, rfl, rfl, rfl, rfl, Z0.out, by decide, by decide⟩
    | 1, _ => exact ⟨_, _, _, _, _, _, _, rfl, rfl, rfl, rfl, Z1.out, by decide, by decide⟩
    | 2, _ => exact ⟨_, _, _, _, _, _, _, rfl, rfl, rfl, rfl, Z2.out, by decide, by decide⟩
    | 3, _ => exact ⟨_, _, _, _, _, _, _, rfl, rfl, rfl, rfl, Z3.out, by decide, by decide⟩
    | 4, _ => exact ⟨_, _, _, _, _, _, _, rfl, rfl, rfl, rfl, Z4.out, by decide, by decide⟩
    | 5, _ => exact ⟨_, _, _, _, _, _, _, rfl, rfl, rfl, rfl, Z5.out, by decide, by decide⟩
    | 6, _ => exact ⟨_, _, _, _, _, _, _, rfl, rfl, rfl, rfl, Z6.out, by decide, by decide⟩
    | 7, _ => exact ⟨_, _, _, _, _, _, _, rfl, rfl, rfl, rfl, Z7.out, by decide, by decide⟩
    | 8, _ => exact ⟨_, _, _, _, _, _, _, rfl, rfl, rfl, rfl, Z8.out, by decide, by decide⟩
    | n + 9, h => exact absurd h (by omega)
  have EW : Hid (Ext w (((((((((w1.alloc (.cells #[.int .u64 0, .int .u64 0] 28)).alloc (.cells #[.int .u64 9223372036854775807, .int .u64 0] 28)).alloc (.cells #[.int .u64 9223372036854775808] 28)).alloc (.cells #[.int .u64 9223372036854775808] 28)).alloc (.cells #[.int .u64 9223372036854775809] 28)).alloc (.cells #[.int .u64 1] 28)).alloc (.cells #[.int .u64 5, .int .u64 1] 28)).alloc (.cells #[.int .u64 18446744073709551615] 28)).alloc (.cells #[.bool false, .slice none 0 0, .int .i64 0, .bool true, .bool true, .slice (some ⟨w1.heap.size, 0, none⟩) 2 2, .int .i64 0, .bool true, .bool false, .slice (some ⟨w1.heap.size + 1, 0, none⟩) 2 2, .int .i64 9223372036854775807, .bool true, .bool false, .slice (some ⟨w1.heap.size + 1 + 1, 0, none⟩) 1 1, .int .i64 0, .bool false, .bool true, .slice (some ⟨w1.heap.size + 1 + 1 + 1, 0, none⟩) 1 1, .int .i64 (-9223372036854775808), .bool true, .bool true, .slice (some ⟨w1.heap.size + 1 + 1 + 1 + 1, 0, none⟩) 1 1, .int .i64 0, .bool false, .bool true, .slice (some ⟨w1.heap.size + 1 + 1 + 1 + 1 + 1, 0, none⟩) 1 1, .int .i64 (-1), .bool true, .bool false, .slice (some ⟨w1.heap.size + 1 + 1 + 1 + 1 + 1 + 1, 0, none⟩) 2 2, .int .i64 0, .bool false, .bool true, .slice (some ⟨w1.heap.size + 1 + 1 + 1 + 1 + 1 + 1 + 1, 0, none⟩) 1 1, .int .i64 0, .bool false] 27))) := x1.trans ((((((((((Ext.refl _).alloc _).alloc _).alloc _).alloc _).alloc _).alloc _).alloc _).alloc _).alloc _)
  obtain ⟨W4, hW⟩ : ∃ W, W = (((((((((w1.alloc (.cells #[.int .u64 0, .int .u64 0] 28)).alloc (.cells #[.int .u64 9223372036854775807, .int .u64 0] 28)).alloc (.cells #[.int .u64 9223372036854775808] 28)).alloc (.cells #[.int .u64 9223372036854775808] 28)).alloc (.cells #[.int .u64 9223372036854775809] 28)).alloc (.cells #[.int .u64 1] 28)).alloc (.cells #[.int .u64 5, .int .u64 1] 28)).alloc (.cells #[.int .u64 18446744073709551615] 28)).alloc (.cells #[.bool false, .slice none 0 0, .int .i64 0, .bool true, .bool true, .slice (some ⟨w1.heap.size, 0, none⟩) 2 2, .int .i64 0, .bool true, .bool false, .slice (some ⟨w1.heap.size + 1, 0, none⟩) 2 2, .int .i64 9223372036854775807, .bool true, .bool false, .slice (some ⟨w1.heap.size + 1 + 1, 0, none⟩) 1 1, .int .i64 0, .bool false, .bool true, .slice (some ⟨w1.heap.size + 1 + 1 + 1, 0, none⟩) 1 1, .int .i64 (-9223372036854775808), .bool true, .bool true, .slice (some ⟨w1.heap.size + 1 + 1 + 1 + 1, 0, none⟩) 1 1, .int .i64 0, .bool false, .bool true, .slice (some ⟨w1.heap.size + 1 + 1 + 1 + 1 + 1, 0, none⟩) 1 1, .int .i64 (-1), .bool true, .bool false, .slice (some ⟨w1.heap.size + 1 + 1 + 1 + 1 + 1 + 1, 0, none⟩) 2 2, .int .i64 0, .bool false, .bool true, .slice (some ⟨w1.heap.size + 1 + 1 + 1 + 1 + 1 + 1 + 1, 0, none⟩) 1 1, .int .i64 0, .bool false] 27)) := ⟨_, rfl⟩
  obtain ⟨g, hg⟩ : ∃ g, w1.heap.size + 1 + 1 + 1 + 1 + 1 + 1 + 1 + 1 = g := ⟨_, rfl⟩
  rw [← hW] at TB EW ⊢
  rw [hg] at TB ⊢
  clear hW hg Z0 Z1 Z2 Z3 Z4 Z5 Z6 Z7 Z8
  go_loopw [53] (fun v53 wr => ∃ i : Nat, v53 = .int .i64 (i : Int) ∧ i ≤ 9 ∧ Ext W4 wr) (fun v53 _ => 9 - (intOf v53).toNat)
  case atStart => exact ⟨0, rfl, Nat.zero_le _, Ext.refl _⟩
  case round =>
    obtain ⟨i, rfl, hi, hx⟩ := hrel
    have XX := Lib.hid hx
    clear hx
    by_cases hi2 : i < 9
    · have LT := Lib.hid hi2
      obtain ⟨b, f, p, k, c, z, n, k1, k2, k3, k4, k5, k6, k7⟩ := (TB.out.ext XX.out).cell hi2
      have HZ := Lib.hid k5
      have HS := Lib.hid k6
      have HF := Lib.hid k7
      have t3 : (i : Int) ≤ 8 := by omega
      clear hi k5 k6 k7
      cases f with
      | false =>
        go_wp2_with fail
        obtain ⟨v1, hv1⟩ : ∃ W, W = (wr.alloc (.cells #[.bool b, .slice p k c, .int .i64 n, .bool false] 27)) := ⟨_, rfl⟩
        have y1 : Ext wr v1 := by rw [hv1]; exact ((Ext.refl _).alloc _)
        have b0_0 : Hid (At (wr.heap.size) 0 (.bool b) v1) := by rw [hv1]; exact At.ext (At.n0 (by rfl)) (Ext.refl _)
        have b0_1 : Hid (At (wr.heap.size) 1 (.slice p k c) v1) := by rw [hv1]; exact At.ext (At.n0 (by rfl)) (Ext.refl _)
        have b0_2 : Hid (At (wr.heap.size) 2 (.int .i64 n) v1) := by rw [hv1]; exact At.ext (At.n0 (by rfl)) (Ext.refl _)
        have b0_3 : Hid (At (wr.heap.size) 3 (.bool false) v1) := by rw [hv1]; exact At.ext (At.n0 (by rfl)) (Ext.refl _)
        have u0 : Hid (wr.heap.size < v1.heap.size) := b0_0.out.2
        have e1_ : Ext W4 v1 := Ext.trans XX.out y1
        rw [← hv1]
        clear hv1
        refine (small_is (HZ.out.ext y1) (by decide) n HS.out false HF.out).mono ?_
        rintro e w2 ⟨rfl, x2⟩
        have e2_ : Ext W4 w2 := Ext.trans e1_ x2
        go_wp2_with fail
        have hkeep51 : AllAt' ([(wr.heap.size, 0, .bool b), (wr.heap.size, 1, .slice p k c), (wr.heap.size, 2, .int .i64 n), (wr.heap.size, 3, .bool false)] : List (Nat × Nat × Value)) w2 := AllAt'.cons (b0_0.out.ext x2) (AllAt'.cons (b0_1.out.ext x2) (AllAt'.cons (b0_2.out.ext x2) (AllAt'.cons (b0_3.out.ext x2) (AllAt'.nil _))))
        have hob51 : ObOk W4.heap.size w2 (([(wr.heap.size, 0, .bool b), (wr.heap.size, 1, .slice p k c), (wr.heap.size, 2, .int .i64 n), (wr.heap.size, 3, .bool false)] : List (Nat × Nat × Value)).map (·.1)) ([] : List (Nat × List (Nat × Value))) := trivial
        have hne51 : AllNe (([] : List (Nat × List (Nat × Value))).map (·.1)) := trivial
        (try simp only [List.append_eq, List.cons_append, List.nil_append])
        refine wp_region_gen ⟨[63, 64, 65, 66, 67, 68, 69, 70, 71, 72, 73, 74, 75, 76, 77, 78, 79, 80, 81, 82, 83, 84, 85, 86, 87, 88], fun i => false, fun i => ([none, none, none, none, none, none, none, none, none, none, none, none, none, none, none, none, none, none, none, none, none, none, none, none, none, none] : List (Option (BoxRef × Nat))).getD i none, fun i => ([Sg.val (.int .i64 n), Sg.val (.pointer (some ⟨wr.heap.size, 2, none⟩)), Sg.val (.int .i64 n), Sg.val (.bool false), Sg.val (.bool false), Sg.val (.bool false), Sg.val (.pointer (some ⟨wr.heap.size, 3, none⟩)), Sg.val (.bool false), Sg.val (.bool false), Sg.val (.bool false), Sg.val (.bool false), Sg.val (.bool false), Sg.val (.bool false), Sg.val undef, Sg.val undef, Sg.val undef, Sg.val undef, Sg.val undef, Sg.val undef, Sg.val undef, Sg.val undef, Sg.val undef, Sg.val undef, Sg.val undef, Sg.val (.bool false), Sg.val (.bool false)] : List Sg).getD i Sg.any, [(wr.heap.size, 0, .bool b), (wr.heap.size, 1, .slice p k c), (wr.heap.size, 2, .int .i64 n), (wr.heap.size, 3, .bool false)], []⟩ W4.heap.size (by kernel_rfl) (by kernel_rfl) e2_.size ?hfr hkeep51 hob51 hne51 ?hs ?he
        case hfr =>
          intro i v wk hi hst hv
          exact absurd hi (by simp)
        case hs =>
          refine ⟨?_, ?_, ?_, ?_, ?_, ?_, ?_, ?_, ?_, ?_, ?_, ?_, ?_, ?_, ?_, ?_, ?_, ?_, ?_, ?_, ?_, ?_, ?_, ?_, ?_, ?_, trivial⟩
          · refine RStep.op rfl rfl (fun ac wk hp K hK => ?_)
            have t3_ : ac.tmps[3]?.getD undef = .int .i64 n := hp.slot 3 rfl rfl
            have HP := Lib.hid hp
            clear hp
            go_simp
            refine hK.out _ _ ?_ (Ext.refl _) (fun h => absurd h (by simp))
            exact rfl
          · refine RStep.op rfl rfl (fun ac wk hp K hK => ?_)
            have t2_ : ac.tmps[2]?.getD undef = .pointer (some ⟨wr.heap.size, 0, none⟩) := hp.slot 2 rfl rfl
            have HP := Lib.hid hp
            clear hp
            go_simp
            refine hK.out _ _ ?_ (Ext.refl _) (fun h => absurd h (by simp))
            exact rfl
          · refine RStep.op rfl rfl (fun ac wk hp K hK => ?_)
            have u1e := hp.get 1 (by decide +kernel) rfl
            have t64_ : ac.tmps[64]?.getD undef = .pointer (some ⟨wr.heap.size, 2, none⟩) := slot_is' u1e
            have c0_ := hp.cell 2 rfl
            have HP := Lib.hid hp
            clear hp
            go_simp
            refine hK.out _ _ ?_ (Ext.refl _) (fun h => absurd h (by simp))
            exact rfl
          · refine RStep.op rfl rfl (fun ac wk hp K hK => ?_)
            have u0e := hp.get 0 (by decide +kernel) rfl
            have t63_ : ac.tmps[63]?.getD undef = .int .i64 n := slot_is' u0e
            have u2e := hp.get 2 (by decide +kernel) rfl
            have t65_ : ac.tmps[65]?.getD undef = .int .i64 n := slot_is' u2e
            have HP := Lib.hid hp
            clear hp
            go_simp
            refine hK.out _ _ ?_ (Ext.refl _) (fun h => absurd h (by simp))
            exact (by first | rfl | (apply congrArg Value.bool; simp; done) | (apply congrArg Value.bool; simp; omega) | (simp [*]; done))
          · refine RStep.op rfl rfl (fun ac wk hp K hK => ?_)
            have u3e := hp.get 3 (by decide +kernel) rfl
            have t66_ : ac.tmps[66]?.getD undef = .bool false := slot_is' u3e
            have HP := Lib.hid hp
            clear hp
            go_simp
            refine hK.out _ _ ?_ (Ext.refl _) (fun h => absurd h (by simp))
            exact rfl
          · refine RStep.yes 4 false rfl rfl (by decide +kernel) rfl rfl (fun ac wk hp K hK => ?_)
            have t4_ : ac.tmps[4]?.getD undef = .bool false := hp.slot 4 rfl rfl
            have HP := Lib.hid hp
            clear hp
            go_simp
            refine hK.out _ _ ?_ (Ext.refl _) (fun h => absurd h (by simp))
            exact rfl
          · refine RStep.yes 4 false rfl rfl (by decide +kernel) rfl rfl (fun ac wk hp K hK => ?_)
            have t2_ : ac.tmps[2]?.getD undef = .pointer (some ⟨wr.heap.size, 0, none⟩) := hp.slot 2 rfl rfl
            have HP := Lib.hid hp
            clear hp
            go_simp
            refine hK.out _ _ ?_ (Ext.refl _) (fun h => absurd h (by simp))
            exact rfl
          · refine RStep.yes 4 false rfl rfl (by decide +kernel) rfl rfl (fun ac wk hp K hK => ?_)
            have u6e := hp.get 6 (by decide +kernel) rfl
            have t69_ : ac.tmps[69]?.getD undef = .pointer (some ⟨wr.heap.size, 3, none⟩) := slot_is' u6e
            have c0_ := hp.cell 3 rfl
            have HP := Lib.hid hp
            clear hp
            go_simp
            refine hK.out _ _ ?_ (Ext.refl _) (fun h => absurd h (by simp))
            exact rfl
          · refine RStep.yes 4 false rfl rfl (by decide +kernel) rfl rfl (fun ac wk hp K hK => ?_)
            have u5e := hp.get 5 (by decide +kernel) rfl
            have t68_ : ac.tmps[68]?.getD undef = .bool false := slot_is' u5e
            have u7e := hp.get 7 (by decide +kernel) rfl
            have t70_ : ac.tmps[70]?.getD undef = .bool false := slot_is' u7e
            have HP := Lib.hid hp
            clear hp
            go_simp
            refine hK.out _ _ ?_ (Ext.refl _) (fun h => absurd h (by simp))
            exact (by first | rfl | (apply congrArg Value.bool; simp; done) | (apply congrArg Value.bool; simp; omega) | (simp [*]; done))
          · refine RStep.op rfl rfl (fun ac wk hp K hK => ?_)
            have u4e := hp.get 4 (by decide +kernel) rfl
            have t67_ : ac.tmps[67]?.getD undef = .bool false := slot_is' u4e
            have u8e := hp.get 8 (by decide +kernel) rfl
            have t71_ : ac.tmps[71]?.getD undef = .bool false := slot_is' u8e
            have HP := Lib.hid hp
            clear hp
            go_simp
            refine hK.out _ _ ?_ (Ext.refl _) (fun h => absurd h (by simp))
            exact rfl
          · refine RStep.op rfl rfl (fun ac wk hp K hK => ?_)
            have u9e := hp.get 9 (by decide +kernel) rfl
            have t72_ : ac.tmps[72]?.getD undef = .bool false := slot_is' u9e
            have HP := Lib.hid hp
            clear hp
            go_simp
            refine hK.out _ _ ?_ (Ext.refl _) (fun h => absurd h (by simp))
            exact rfl
          · refine RStep.yes 10 false rfl rfl (by decide +kernel) rfl rfl (fun ac wk hp K hK => ?_)
            have t4_ : ac.tmps[4]?.getD undef = .bool false := hp.slot 4 rfl rfl
            have HP := Lib.hid hp
            clear hp
            go_simp
            refine hK.out _ _ ?_ (Ext.refl _) (fun h => absurd h (by simp))
            exact rfl
          · refine RStep.yes 10 false rfl rfl (by decide +kernel) rfl rfl (fun ac wk hp K hK => ?_)
            have u11e := hp.get 11 (by decide +kernel) rfl
            have t74_ : ac.tmps[74]?.getD undef = .bool false := slot_is' u11e
            have HP := Lib.hid hp
            clear hp
            go_simp
            refine hK.out _ _ ?_ (Ext.refl _) (fun h => absurd h (by simp))
            exact rfl
          · exact RStep.no 12 true rfl rfl (by decide +kernel) rfl (.inl rfl) rfl rfl
          · exact RStep.no 12 true rfl rfl (by decide +kernel) rfl (.inl rfl) rfl rfl
          · exact RStep.no 12 true rfl rfl (by decide +kernel) rfl (.inl rfl) rfl rfl
          · exact RStep.no 12 true rfl rfl (by decide +kernel) rfl (.inl rfl) rfl rfl
          · exact RStep.no 12 true rfl rfl (by decide +kernel) rfl (.inl rfl) rfl rfl
          · exact RStep.no 12 true rfl rfl (by decide +kernel) rfl (.inl rfl) rfl rfl
          · exact RStep.no 12 true rfl rfl (by decide +kernel) rfl (.inl rfl) rfl rfl
          · exact RStep.no 12 true rfl rfl (by decide +kernel) rfl (.inl rfl) rfl rfl
          · exact RStep.no 12 true rfl rfl (by decide +kernel) rfl (.inl rfl) rfl rfl
          · exact RStep.no 12 true rfl rfl (by decide +kernel) rfl (.inl rfl) rfl rfl
          · exact RStep.no 12 true rfl rfl (by decide +kernel) rfl (.inl rfl) rfl rfl
          · refine RStep.yes 10 false rfl rfl (by decide +kernel) rfl rfl (fun ac wk hp K hK => ?_)
            have u12e := hp.get 12 (by decide +kernel) rfl
            have t75_ : ac.tmps[75]?.getD undef = .bool false := slot_is' u12e
            have u23e := hp.get 23 (by decide +kernel) rfl
            have t86_ : ac.tmps[86]?.getD undef = undef := slot_is' u23e
            have HP := Lib.hid hp
            clear hp
            go_simp
            refine hK.out _ _ ?_ (Ext.refl _) (fun h => absurd h (by simp))
            exact rfl
          · refine RStep.op rfl rfl (fun ac wk hp K hK => ?_)
            have u10e := hp.get 10 (by decide +kernel) rfl
            have t73_ : ac.tmps[73]?.getD undef = .bool false := slot_is' u10e
            have u24e := hp.get 24 (by decide +kernel) rfl
            have t87_ : ac.tmps[87]?.getD undef = .bool false := slot_is' u24e
            have HP := Lib.hid hp
            clear hp
            go_simp
            refine hK.out _ _ ?_ (Ext.refl _) (fun h => absurd h (by simp))
            exact rfl
        case he =>
          intro ac v3 hM
          have y51_0e := hM.post 0 rfl rfl
          have y51_1e := hM.post 1 rfl rfl
          have y51_2e := hM.post 2 rfl rfl
          have y51_3e := hM.post 3 rfl rfl
          have y51_4e := hM.post 4 rfl rfl
          have y51_5e := hM.post 5 rfl rfl
          have y51_6e := hM.post 6 rfl rfl
          have y51_7e := hM.post 7 rfl rfl
          have y51_8e := hM.post 8 rfl rfl
          have y51_9e := hM.post 9 rfl rfl
          have y51_10e := hM.post 10 rfl rfl
          have y51_11e := hM.post 11 rfl rfl
          have y51_12e := hM.post 12 rfl rfl
          have y51_13e := hM.post 13 rfl rfl
          have y51_14e := hM.post 14 rfl rfl
          have y51_15e := hM.post 15 rfl rfl
          have y51_16e := hM.post 16 rfl rfl
          have y51_17e := hM.post 17 rfl rfl
          have y51_18e := hM.post 18 rfl rfl
          have y51_19e := hM.post 19 rfl rfl
          have y51_20e := hM.post 20 rfl rfl
          have y51_21e := hM.post 21 rfl rfl
          have y51_22e := hM.post 22 rfl rfl
          have y51_23e := hM.post 23 rfl rfl
          have y51_24e := hM.post 24 rfl rfl
          have y51_25e := hM.post 25 rfl rfl
          have b0_0 : Hid (At (wr.heap.size) 0 (.bool b) v3) := Lib.hid (hM.keep.at 0 rfl)
          have b0_1 : Hid (At (wr.heap.size) 1 (.slice p k c) v3) := Lib.hid (hM.keep.at 1 rfl)
          have b0_2 : Hid (At (wr.heap.size) 2 (.int .i64 n) v3) := Lib.hid (hM.keep.at 2 rfl)
          have b0_3 : Hid (At (wr.heap.size) 3 (.bool false) v3) := Lib.hid (hM.keep.at 3 rfl)
          have gv3 : Gr w2 v3 := hM.gr
          have e3_ : Ext W4 v3 := Ext.below e2_ hM.blw
          have z0_ : sl ac 63 = .int .i64 n := y51_0e
          have z1_ : sl ac 64 = .pointer (some ⟨wr.heap.size, 2, none⟩) := y51_1e
          have z2_ : sl ac 65 = .int .i64 n := y51_2e
          have z3_ : sl ac 66 = .bool false := y51_3e
          have z4_ : sl ac 67 = .bool false := y51_4e
          have z5_ : sl ac 68 = .bool false := y51_5e
          have z6_ : sl ac 69 = .pointer (some ⟨wr.heap.size, 3, none⟩) := y51_6e
          have z7_ : sl ac 70 = .bool false := y51_7e
          have z8_ : sl ac 71 = .bool false := y51_8e
          have z9_ : sl ac 72 = .bool false := y51_9e
          have z10_ : sl ac 73 = .bool false := y51_10e
          have z11_ : sl ac 74 = .bool false := y51_11e
          have z12_ : sl ac 75 = .bool false := y51_12e
          have z13_ : sl ac 76 = undef := y51_13e
          have z14_ : sl ac 77 = undef := y51_14e
          have z15_ : sl ac 78 = undef := y51_15e
          have z16_ : sl ac 79 = undef := y51_16e
          have z17_ : sl ac 80 = undef := y51_17e
          have z18_ : sl ac 81 = undef := y51_18e
          have z19_ : sl ac 82 = undef := y51_19e
          have z20_ : sl ac 83 = undef := y51_20e
          have z21_ : sl ac 84 = undef := y51_21e
          have z22_ : sl ac 85 = undef := y51_22e
          have z23_ : sl ac 86 = undef := y51_23e
          have z24_ : sl ac 87 = .bool false := y51_24e
          have z25_ : sl ac 88 = .bool false := y51_25e
          rw [hM.ag.lay]
          simp only [lay, List.foldl_cons, List.foldl_nil, List.setIfInBounds_toArray, List.set_cons_zero, List.set_cons_succ, z0_, z1_, z2_, z3_, z4_, z5_, z6_, z7_, z8_, z9_, z10_, z11_, z12_, z13_, z14_, z15_, z16_, z17_, z18_, z19_, z20_, z21_, z22_, z23_, z24_, z25_]
          clear hM hkeep51 hob51 hne51 z0_ z1_ z2_ z3_ z4_ z5_ z6_ z7_ z8_ z9_ z10_ z11_ z12_ z13_ z14_ z15_ z16_ z17_ z18_ z19_ z20_ z21_ z22_ z23_ z24_ z25_ y51_0e y51_1e y51_2e y51_3e y51_4e y51_5e y51_6e y51_7e y51_8e y51_9e y51_10e y51_11e y51_12e y51_13e y51_14e y51_15e y51_16e y51_17e y51_18e y51_19e y51_20e y51_21e y51_22e y51_23e y51_24e y51_25e
          go_wp2_with fail
          exact ⟨⟨i + 1, by first | rfl | go_num, LT.out, e3_⟩, by simp [intOf]; have := LT.out; omega⟩
      | true =>
        have HN : Hid (n = z) := by show _ = _; rw [← HS.out]; unfold smallI; rw [HF.out]; rfl
        have hfr := HF.out
        unfold fitsI at hfr
        have hfr2 := of_decide_eq_true hfr
        have hnn := HN.out
        have HR1 : Hid (-9223372036854775808 ≤ n) := by show _ ≤ _; omega
        have HR2 : Hid (n ≤ 9223372036854775807) := by show _ ≤ _; omega
        clear hfr hfr2 hnn
        go_wp2_with fail
        obtain ⟨v1, hv1⟩ : ∃ W, W = (wr.alloc (.cells #[.bool b, .slice p k c, .int .i64 n, .bool true] 27)) := ⟨_, rfl⟩
        have y1 : Ext wr v1 := by rw [hv1]; exact ((Ext.refl _).alloc _)
        have b0_0 : Hid (At (wr.heap.size) 0 (.bool b) v1) := by rw [hv1]; exact At.ext (At.n0 (by rfl)) (Ext.refl _)
        have b0_1 : Hid (At (wr.heap.size) 1 (.slice p k c) v1) := by rw [hv1]; exact At.ext (At.n0 (by rfl)) (Ext.refl _)
        have b0_2 : Hid (At (wr.heap.size) 2 (.int .i64 n) v1) := by rw [hv1]; exact At.ext (At.n0 (by rfl)) (Ext.refl _)
        have b0_3 : Hid (At (wr.heap.size) 3 (.bool true) v1) := by rw [hv1]; exact At.ext (At.n0 (by rfl)) (Ext.refl _)
        have u0 : Hid (wr.heap.size < v1.heap.size) := b0_0.out.2
        have e1_ : Ext W4 v1 := Ext.trans XX.out y1
        rw [← hv1]
        clear hv1
        refine (small_is (HZ.out.ext y1) (by decide) n HS.out true HF.out).mono ?_
        rintro e w2 ⟨rfl, x2⟩
        have e2_ : Ext W4 w2 := Ext.trans e1_ x2
        go_wp2_with fail
        have hkeep51 : AllAt' ([(wr.heap.size, 0, .bool b), (wr.heap.size, 1, .slice p k c), (wr.heap.size, 2, .int .i64 n), (wr.heap.size, 3, .bool true)] : List (Nat × Nat × Value)) w2 := AllAt'.cons (b0_0.out.ext x2) (AllAt'.cons (b0_1.out.ext x2) (AllAt'.cons (b0_2.out.ext x2) (AllAt'.cons (b0_3.out.ext x2) (AllAt'.nil _))))
        have hob51 : ObOk W4.heap.size w2 (([(wr.heap.size, 0, .bool b), (wr.heap.size, 1, .slice p k c), (wr.heap.size, 2, .int .i64 n), (wr.heap.size, 3, .bool true)] : List (Nat × Nat × Value)).map (·.1)) ([] : List (Nat × List (Nat × Value))) := trivial
        have hne51 : AllNe (([] : List (Nat × List (Nat × Value))).map (·.1)) := trivial
        (try simp only [List.append_eq, List.cons_append, List.nil_append])
        refine wp_region_gen ⟨[63, 64, 65, 66, 67, 68, 69, 70, 71, 72, 73, 74, 75, 76, 77, 78, 79, 80, 81, 82, 83, 84, 85, 86, 87, 88], fun i => false, fun i => ([none, none, none, none, none, none, none, none, none, none, none, none, none, none, none, none, none, none, none, none, none, none, none, none, none, none] : List (Option (BoxRef × Nat))).getD i none, fun i => ([Sg.val (.int .i64 n), Sg.val (.pointer (some ⟨wr.heap.size, 2, none⟩)), Sg.val (.int .i64 n), Sg.val (.bool false), Sg.val (.bool false), Sg.val (.bool true), Sg.val (.pointer (some ⟨wr.heap.size, 3, none⟩)), Sg.val (.bool true), Sg.val (.bool false), Sg.val (.bool false), Sg.val (.bool false), Sg.val (.bool true), Sg.val (.bool true), Sg.val (.int .i64 n), Sg.int n, Sg.val (.pointer (some ⟨wr.heap.size, 0, none⟩)), Sg.val (.pointer (some ⟨wr.heap.size, 0, none⟩)), Sg.val (.bool b), Sg.val (.pointer (some ⟨wr.heap.size, 0, none⟩)), Sg.val (.pointer (some ⟨wr.heap.size, 1, none⟩)), Sg.val (.slice p k c), Sg.int z, Sg.val (.bool true), Sg.val (.bool false), Sg.val (.bool false), Sg.val (.bool false)] : List Sg).getD i Sg.any, [(wr.heap.size, 0, .bool b), (wr.heap.size, 1, .slice p k c), (wr.heap.size, 2, .int .i64 n), (wr.heap.size, 3, .bool true)], []⟩ W4.heap.size (by kernel_rfl) (by kernel_rfl) e2_.size ?hfr hkeep51 hob51 hne51 ?hs ?he
        case hfr =>
          intro i v wk hi hst hv
          exact absurd hi (by simp)
        case hs =>
          refine ⟨?_, ?_, ?_, ?_, ?_, ?_, ?_, ?_, ?_, ?_, ?_, ?_, ?_, ?_, ?_, ?_, ?_, ?_, ?_, ?_, ?_, ?_, ?_, ?_, ?_, ?_, trivial⟩
          · refine RStep.op rfl rfl (fun ac wk hp K hK => ?_)
            have t3_ : ac.tmps[3]?.getD undef = .int .i64 n := hp.slot 3 rfl rfl
            have HP := Lib.hid hp
            clear hp
            go_simp
            refine hK.out _ _ ?_ (Ext.refl _) (fun h => absurd h (by simp))
            exact rfl
          · refine RStep.op rfl rfl (fun ac wk hp K hK => ?_)
            have t2_ : ac.tmps[2]?.getD undef = .pointer (some ⟨wr.heap.size, 0, none⟩) := hp.slot 2 rfl rfl
            have HP := Lib.hid hp
            clear hp
            go_simp
            refine hK.out _ _ ?_ (Ext.refl _) (fun h => absurd h (by simp))
            exact rfl
          · refine RStep.op rfl rfl (fun ac wk hp K hK => ?_)
            have u1e := hp.get 1 (by decide +kernel) rfl
            have t64_ : ac.tmps[64]?.getD undef = .pointer (some ⟨wr.heap.size, 2, none⟩) := slot_is' u1e
            have c0_ := hp.cell 2 rfl
            have HP := Lib.hid hp
            clear hp
            go_simp
            refine hK.out _ _ ?_ (Ext.refl _) (fun h => absurd h (by simp))
            exact rfl
          · refine RStep.op rfl rfl (fun ac wk hp K hK => ?_)
            have u0e := hp.get 0 (by decide +kernel) rfl
            have t63_ : ac.tmps[63]?.getD undef = .int .i64 n := slot_is' u0e
            have u2e := hp.get 2 (by decide +kernel) rfl
            have t65_ : ac.tmps[65]?.getD undef = .int .i64 n := slot_is' u2e
            have HP := Lib.hid hp
            clear hp
            go_simp
            refine hK.out _ _ ?_ (Ext.refl _) (fun h => absurd h (by simp))
            exact (by first | rfl | (apply congrArg Value.bool; simp; done) | (apply congrArg Value.bool; simp; omega) | (simp [*]; done))
          · refine RStep.op rfl rfl (fun ac wk hp K hK => ?_)
            have u3e := hp.get 3 (by decide +kernel) rfl
            have t66_ : ac.tmps[66]?.getD undef = .bool false := slot_is' u3e
            have HP := Lib.hid hp
            clear hp
            go_simp
            refine hK.out _ _ ?_ (Ext.refl _) (fun h => absurd h (by simp))
            exact rfl
          · refine RStep.yes 4 false rfl rfl (by decide +kernel) rfl rfl (fun ac wk hp K hK => ?_)
            have t4_ : ac.tmps[4]?.getD undef = .bool true := hp.slot 4 rfl rfl
            have HP := Lib.hid hp
            clear hp
            go_simp
            refine hK.out _ _ ?_ (Ext.refl _) (fun h => absurd h (by simp))
            exact rfl
          · refine RStep.yes 4 false rfl rfl (by decide +kernel) rfl rfl (fun ac wk hp K hK => ?_)
            have t2_ : ac.tmps[2]?.getD undef = .pointer (some ⟨wr.heap.size, 0, none⟩) := hp.slot 2 rfl rfl
            have HP := Lib.hid hp
            clear hp
            go_simp
            refine hK.out _ _ ?_ (Ext.refl _) (fun h => absurd h (by simp))
            exact rfl
          · refine RStep.yes 4 false rfl rfl (by decide +kernel) rfl rfl (fun ac wk hp K hK => ?_)
            have u6e := hp.get 6 (by decide +kernel) rfl
            have t69_ : ac.tmps[69]?.getD undef = .pointer (some ⟨wr.heap.size, 3, none⟩) := slot_is' u6e
            have c0_ := hp.cell 3 rfl
            have HP := Lib.hid hp
            clear hp
            go_simp
            refine hK.out _ _ ?_ (Ext.refl _) (fun h => absurd h (by simp))
            exact rfl
          · refine RStep.yes 4 false rfl rfl (by decide +kernel) rfl rfl (fun ac wk hp K hK => ?_)
            have u5e := hp.get 5 (by decide +kernel) rfl
            have t68_ : ac.tmps[68]?.getD undef = .bool true := slot_is' u5e
            have u7e := hp.get 7 (by decide +kernel) rfl
            have t70_ : ac.tmps[70]?.getD undef = .bool true := slot_is' u7e
            have HP := Lib.hid hp
            clear hp
            go_simp
            refine hK.out _ _ ?_ (Ext.refl _) (fun h => absurd h (by simp))
            exact (by first | rfl | (apply congrArg Value.bool; simp; done) | (apply congrArg Value.bool; simp; omega) | (simp [*]; done))
          · refine RStep.op rfl rfl (fun ac wk hp K hK => ?_)
            have u4e := hp.get 4 (by decide +kernel) rfl
            have t67_ : ac.tmps[67]?.getD undef = .bool false := slot_is' u4e
            have u8e := hp.get 8 (by decide +kernel) rfl
            have t71_ : ac.tmps[71]?.getD undef = .bool false := slot_is' u8e
            have HP := Lib.hid hp
            clear hp
            go_simp
            refine hK.out _ _ ?_ (Ext.refl _) (fun h => absurd h (by simp))
            exact rfl
          · refine RStep.op rfl rfl (fun ac wk hp K hK => ?_)
            have u9e := hp.get 9 (by decide +kernel) rfl
            have t72_ : ac.tmps[72]?.getD undef = .bool false := slot_is' u9e
            have HP := Lib.hid hp
            clear hp
            go_simp
            refine hK.out _ _ ?_ (Ext.refl _) (fun h => absurd h (by simp))
            exact rfl
          · refine RStep.yes 10 false rfl rfl (by decide +kernel) rfl rfl (fun ac wk hp K hK => ?_)
            have t4_ : ac.tmps[4]?.getD undef = .bool true := hp.slot 4 rfl rfl
            have HP := Lib.hid hp
            clear hp
            go_simp
            refine hK.out _ _ ?_ (Ext.refl _) (fun h => absurd h (by simp))
            exact rfl
          · refine RStep.yes 10 false rfl rfl (by decide +kernel) rfl rfl (fun ac wk hp K hK => ?_)
            have u11e := hp.get 11 (by decide +kernel) rfl
            have t74_ : ac.tmps[74]?.getD undef = .bool true := slot_is' u11e
            have HP := Lib.hid hp
            clear hp
            go_simp
            refine hK.out _ _ ?_ (Ext.refl _) (fun h => absurd h (by simp))
            exact rfl
          · refine RStep.yes 12 true rfl rfl (by decide +kernel) rfl rfl (fun ac wk hp K hK => ?_)
            have t3_ : ac.tmps[3]?.getD undef = .int .i64 n := hp.slot 3 rfl rfl
            have HP := Lib.hid hp
            clear hp
            go_simp
            refine hK.out _ _ ?_ (Ext.refl _) (fun h => absurd h (by simp))
            exact rfl
          · refine RStep.yes 12 true rfl rfl (by decide +kernel) rfl rfl (fun ac wk hp K hK => ?_)
            have u13e := hp.get 13 (by decide +kernel) rfl
            have t76_ : ac.tmps[76]?.getD undef = .int .i64 n := slot_is' u13e
            have HP := Lib.hid hp
            clear hp
            go_simp
            refine (of_is _ n HR1.out HR2.out).mono ?_
            rintro e wk' ⟨sb52, sv52, sm52, rfl, e52, ix⟩
            obtain ⟨sp52, sl52, sc52, rfl⟩ := e52.slice
            refine hK.out _ _ ?_ ix (fun h => absurd h (by simp))
            exact ⟨_, _, _, _, _, rfl, e52⟩
          · refine RStep.yes 12 true rfl rfl (by decide +kernel) rfl rfl (fun ac wk hp K hK => ?_)
            have t2_ : ac.tmps[2]?.getD undef = .pointer (some ⟨wr.heap.size, 0, none⟩) := hp.slot 2 rfl rfl
            have HP := Lib.hid hp
            clear hp
            go_simp
            refine hK.out _ _ ?_ (Ext.refl _) (fun h => absurd h (by simp))
            exact rfl
          · refine RStep.yes 12 true rfl rfl (by decide +kernel) rfl rfl (fun ac wk hp K hK => ?_)
            have u15e := hp.get 15 (by decide +kernel) rfl
            have t78_ : ac.tmps[78]?.getD undef = .pointer (some ⟨wr.heap.size, 0, none⟩) := slot_is' u15e
            have HP := Lib.hid hp
            clear hp
            go_simp
            refine hK.out _ _ ?_ (Ext.refl _) (fun h => absurd h (by simp))
            exact rfl
          · refine RStep.yes 12 true rfl rfl (by decide +kernel) rfl rfl (fun ac wk hp K hK => ?_)
            have u16e := hp.get 16 (by decide +kernel) rfl
            have t79_ : ac.tmps[79]?.getD undef = .pointer (some ⟨wr.heap.size, 0, none⟩) := slot_is' u16e
            have c0_ := hp.cell 0 rfl
            have HP := Lib.hid hp
            clear hp
            go_simp
            refine hK.out _ _ ?_ (Ext.refl _) (fun h => absurd h (by simp))
            exact rfl
          · refine RStep.yes 12 true rfl rfl (by decide +kernel) rfl rfl (fun ac wk hp K hK => ?_)
            have t2_ : ac.tmps[2]?.getD undef = .pointer (some ⟨wr.heap.size, 0, none⟩) := hp.slot 2 rfl rfl
            have HP := Lib.hid hp
            clear hp
            go_simp
            refine hK.out _ _ ?_ (Ext.refl _) (fun h => absurd h (by simp))
            exact rfl
          · refine RStep.yes 12 true rfl rfl (by decide +kernel) rfl rfl (fun ac wk hp K hK => ?_)
            have u18e := hp.get 18 (by decide +kernel) rfl
            have t81_ : ac.tmps[81]?.getD undef = .pointer (some ⟨wr.heap.size, 0, none⟩) := slot_is' u18e
            have HP := Lib.hid hp
            clear hp
            go_simp
            refine hK.out _ _ ?_ (Ext.refl _) (fun h => absurd h (by simp))
            exact rfl
          · refine RStep.yes 12 true rfl rfl (by decide +kernel) rfl rfl (fun ac wk hp K hK => ?_)
            have u19e := hp.get 19 (by decide +kernel) rfl
            have t82_ : ac.tmps[82]?.getD undef = .pointer (some ⟨wr.heap.size, 1, none⟩) := slot_is' u19e
            have c0_ := hp.cell 1 rfl
            have HP := Lib.hid hp
            clear hp
            go_simp
            refine hK.out _ _ ?_ (Ext.refl _) (fun h => absurd h (by simp))
            exact rfl
          · refine RStep.yes 12 true rfl rfl (by decide +kernel) rfl rfl (fun ac wk hp K hK => ?_)
            have u17e := hp.get 17 (by decide +kernel) rfl
            have t80_ : ac.tmps[80]?.getD undef = .bool b := slot_is' u17e
            have u20e := hp.get 20 (by decide +kernel) rfl
            have t83_ : ac.tmps[83]?.getD undef = .slice p k c := slot_is' u20e
            have HP := Lib.hid hp
            clear hp
            go_simp
            refine (make_is (HZ.out.gr ((y1.gr.trans x2.gr).trans HP.out.gr)) (by decide)).mono ?_
            rintro e wk' ⟨sb53, sv53, sm53, rfl, e53, ix⟩
            obtain ⟨sp53, sl53, sc53, rfl⟩ := e53.slice
            refine hK.out _ _ ?_ ix (fun h => absurd h (by simp))
            exact ⟨_, _, _, _, _, rfl, e53⟩
          · refine RStep.yes 12 true rfl rfl (by decide +kernel) rfl rfl (fun ac wk hp K hK => ?_)
            obtain ⟨u14b, u14p, u14n, u14c, u14m, u14e, u14i⟩ := hp.get 14 (by decide +kernel) rfl
            have t77_ : ac.tmps[77]?.getD undef = .agg #[.bool u14b, .slice u14p u14n u14c] := slot_is' u14e
            obtain ⟨u21b, u21p, u21n, u21c, u21m, u21e, u21i⟩ := hp.get 21 (by decide +kernel) rfl
            have t84_ : ac.tmps[84]?.getD undef = .agg #[.bool u21b, .slice u21p u21n u21c] := slot_is' u21e
            have HP := Lib.hid hp
            clear hp
            go_simp
            refine (rsame_is u14i u21i true (decide_eq_true (show (n : Int) = z from HN.out))).mono ?_
            rintro e wk' ⟨rfl, ix⟩
            refine hK.out _ _ ?_ ix (fun h => absurd h (by simp))
            exact rfl
          · refine RStep.yes 12 true rfl rfl (by decide +kernel) rfl rfl (fun ac wk hp K hK => ?_)
            have u22e := hp.get 22 (by decide +kernel) rfl
            have t85_ : ac.tmps[85]?.getD undef = .bool true := slot_is' u22e
            have HP := Lib.hid hp
            clear hp
            go_simp
            refine hK.out _ _ ?_ (Ext.refl _) (fun h => absurd h (by simp))
            exact rfl
          · refine RStep.yes 10 false rfl rfl (by decide +kernel) rfl rfl (fun ac wk hp K hK => ?_)
            have u12e := hp.get 12 (by decide +kernel) rfl
            have t75_ : ac.tmps[75]?.getD undef = .bool true := slot_is' u12e
            have u23e := hp.get 23 (by decide +kernel) rfl
            have t86_ : ac.tmps[86]?.getD undef = .bool false := slot_is' u23e
            have HP := Lib.hid hp
            clear hp
            go_simp
            refine hK.out _ _ ?_ (Ext.refl _) (fun h => absurd h (by simp))
            exact rfl
          · refine RStep.op rfl rfl (fun ac wk hp K hK => ?_)
            have u10e := hp.get 10 (by decide +kernel) rfl
            have t73_ : ac.tmps[73]?.getD undef = .bool false := slot_is' u10e
            have u24e := hp.get 24 (by decide +kernel) rfl
            have t87_ : ac.tmps[87]?.getD undef = .bool false := slot_is' u24e
            have HP := Lib.hid hp
            clear hp
            go_simp
            refine hK.out _ _ ?_ (Ext.refl _) (fun h => absurd h (by simp))
            exact rfl
        case he =>
          intro ac v3 hM
          have y51_0e := hM.post 0 rfl rfl
          have y51_1e := hM.post 1 rfl rfl
          have y51_2e := hM.post 2 rfl rfl
          have y51_3e := hM.post 3 rfl rfl
          have y51_4e := hM.post 4 rfl rfl
          have y51_5e := hM.post 5 rfl rfl
          have y51_6e := hM.post 6 rfl rfl
          have y51_7e := hM.post 7 rfl rfl
          have y51_8e := hM.post 8 rfl rfl
          have y51_9e := hM.post 9 rfl rfl
          have y51_10e := hM.post 10 rfl rfl
          have y51_11e := hM.post 11 rfl rfl
          have y51_12e := hM.post 12 rfl rfl
          have y51_13e := hM.post 13 rfl rfl
          obtain ⟨y51_14b, y51_14p, y51_14n, y51_14c, y51_14m, y51_14e, y51_14i⟩ := hM.post 14 rfl rfl
          have y51_15e := hM.post 15 rfl rfl
          have y51_16e := hM.post 16 rfl rfl
          have y51_17e := hM.post 17 rfl rfl
          have y51_18e := hM.post 18 rfl rfl
          have y51_19e := hM.post 19 rfl rfl
          have y51_20e := hM.post 20 rfl rfl
          obtain ⟨y51_21b, y51_21p, y51_21n, y51_21c, y51_21m, y51_21e, y51_21i⟩ := hM.post 21 rfl rfl
          have y51_22e := hM.post 22 rfl rfl
          have y51_23e := hM.post 23 rfl rfl
          have y51_24e := hM.post 24 rfl rfl
          have y51_25e := hM.post 25 rfl rfl
          have b0_0 : Hid (At (wr.heap.size) 0 (.bool b) v3) := Lib.hid (hM.keep.at 0 rfl)
          have b0_1 : Hid (At (wr.heap.size) 1 (.slice p k c) v3) := Lib.hid (hM.keep.at 1 rfl)
          have b0_2 : Hid (At (wr.heap.size) 2 (.int .i64 n) v3) := Lib.hid (hM.keep.at 2 rfl)
          have b0_3 : Hid (At (wr.heap.size) 3 (.bool true) v3) := Lib.hid (hM.keep.at 3 rfl)
          have gv3 : Gr w2 v3 := hM.gr
          have e3_ : Ext W4 v3 := Ext.below e2_ hM.blw
          have z0_ : sl ac 63 = .int .i64 n := y51_0e
          have z1_ : sl ac 64 = .pointer (some ⟨wr.heap.size, 2, none⟩) := y51_1e
          have z2_ : sl ac 65 = .int .i64 n := y51_2e
          have z3_ : sl ac 66 = .bool false := y51_3e
          have z4_ : sl ac 67 = .bool false := y51_4e
          have z5_ : sl ac 68 = .bool true := y51_5e
          have z6_ : sl ac 69 = .pointer (some ⟨wr.heap.size, 3, none⟩) := y51_6e
          have z7_ : sl ac 70 = .bool true := y51_7e
          have z8_ : sl ac 71 = .bool false := y51_8e
          have z9_ : sl ac 72 = .bool false := y51_9e
          have z10_ : sl ac 73 = .bool false := y51_10e
          have z11_ : sl ac 74 = .bool true := y51_11e
          have z12_ : sl ac 75 = .bool true := y51_12e
          have z13_ : sl ac 76 = .int .i64 n := y51_13e
          have z14_ : sl ac 77 = .agg #[.bool y51_14b, .slice y51_14p y51_14n y51_14c] := y51_14e
          have z15_ : sl ac 78 = .pointer (some ⟨wr.heap.size, 0, none⟩) := y51_15e
          have z16_ : sl ac 79 = .pointer (some ⟨wr.heap.size, 0, none⟩) := y51_16e
          have z17_ : sl ac 80 = .bool b := y51_17e
          have z18_ : sl ac 81 = .pointer (some ⟨wr.heap.size, 0, none⟩) := y51_18e
          have z19_ : sl ac 82 = .pointer (some ⟨wr.heap.size, 1, none⟩) := y51_19e
          have z20_ : sl ac 83 = .slice p k c := y51_20e
          have z21_ : sl ac 84 = .agg #[.bool y51_21b, .slice y51_21p y51_21n y51_21c] := y51_21e
          have z22_ : sl ac 85 = .bool true := y51_22e
          have z23_ : sl ac 86 = .bool false := y51_23e
          have z24_ : sl ac 87 = .bool false := y51_24e
          have z25_ : sl ac 88 = .bool false := y51_25e
          rw [hM.ag.lay]
          simp only [lay, List.foldl_cons, List.foldl_nil, List.setIfInBounds_toArray, List.set_cons_zero, List.set_cons_succ, z0_, z1_, z2_, z3_, z4_, z5_, z6_, z7_, z8_, z9_, z10_, z11_, z12_, z13_, z14_, z15_, z16_, z17_, z18_, z19_, z20_, z21_, z22_, z23_, z24_, z25_]
          clear hM hkeep51 hob51 hne51 z0_ z1_ z2_ z3_ z4_ z5_ z6_ z7_ z8_ z9_ z10_ z11_ z12_ z13_ z14_ z15_ z16_ z17_ z18_ z19_ z20_ z21_ z22_ z23_ z24_ z25_ y51_0e y51_1e y51_2e y51_3e y51_4e y51_5e y51_6e y51_7e y51_8e y51_9e y51_10e y51_11e y51_12e y51_13e y51_14e y51_15e y51_16e y51_17e y51_18e y51_19e y51_20e y51_21e y51_22e y51_23e y51_24e y51_25e
          go_wp2_with fail
          exact ⟨⟨i + 1, by first | rfl | go_num, LT.out, e3_⟩, by simp [intOf]; have := LT.out; omega⟩
    · have t3 : (9 : Int) ≤ (i : Int) := by omega
      have E5 := Lib.hid (EW.out.trans XX.out)
      clear hi hi2 TB EW
      go_wp2_with fail
      have TB : Hid (TabD wr.heap.size (wr.alloc (.cells #[.int .i64 17, .int .i64 5, .int .i64 3, .int .i64 2, .int .i64 0, .int .i64 17, .int .i64 (-5), .int .i64 (-3), .int .i64 2, .int .i64 0, .int .i64 (-17), .int .i64 5, .int .i64 (-4), .int .i64 3, .int .i64 0, .int .i64 (-17), .int .i64 (-5), .int .i64 4, .int .i64 3, .int .i64 0, .int .i64 (-15), .int .i64 5, .int .i64 (-3), .int .i64 0, .int .i64 0, .int .i64 15, .int .i64 (-5), .int .i64 (-3), .int .i64 0, .int .i64 0, .int .i64 (-1), .int .i64 1099511627776, .int .i64 (-1), .int .i64 1099511627775, .int .i64 0, .int .i64 0, .int .i64 (-3), .int .i64 0, .int .i64 0, .int .i64 0, .int .i64 4, .int .i64 9, .int .i64 0, .int .i64 4, .int .i64 0] 35))) := ⟨_, _, heap_alloc_new _ _, tabD_get⟩
      have EW : Hid (Ext w (wr.alloc (.cells #[.int .i64 17, .int .i64 5, .int .i64 3, .int .i64 2, .int .i64 0, .int .i64 17, .int .i64 (-5), .int .i64 (-3), .int .i64 2, .int .i64 0, .int .i64 (-17), .int .i64 5, .int .i64 (-4), .int .i64 3, .int .i64 0, .int .i64 (-17), .int .i64 (-5), .int .i64 4, .int .i64 3, .int .i64 0, .int .i64 (-15), .int .i64 5, .int .i64 (-3), .int .i64 0, .int .i64 0, .int .i64 15, .int .i64 (-5), .int .i64 (-3), .int .i64 0, .int .i64 0, .int .i64 (-1), .int .i64 1099511627776, .int .i64 (-1), .int .i64 1099511627775, .int .i64 0, .int .i64 0, .int .i64 (-3), .int .i64 0, .int .i64 0, .int .i64 0, .int .i64 4, .int .i64 9, .int .i64 0, .int .i64 4, .int .i64 0] 35))) := E5.out.trans ((Ext.refl _).alloc _)
      obtain ⟨W5, hW⟩ : ∃ W, W = wr.alloc (.cells #[.int .i64 17, .int .i64 5, .int .i64 3, .int .i64 2, .int .i64 0, .int .i64 17, .int .i64 (-5), .int .i64 (-3), .int .i64 2, .int .i64 0, .int .i64 (-17), .int .i64 5, .int .i64 (-4), .int .i64 3, .int .i64 0, .int .i64 (-17), .int .i64 (-5), .int .i64 4, .int .i64 3, .int .i64 0, .int .i64 (-15), .int .i64 5, .int .i64 (-3), .int .i64 0, .int .i64 0, .int .i64 15, .int .i64 (-5), .int .i64 (-3), .int .i64 0, .int .i64 0, .int .i64 (-1), .int .i64 1099511627776, .int .i64 (-1), .int .i64 1099511627775, .int .i64 0, .int .i64 0, .int .i64 (-3), .int .i64 0, .int .i64 0, .int .i64 0, .int .i64 4, .int .i64 9, .int .i64 0, .int .i64 4, .int .i64 0] 35) := ⟨_, rfl⟩
      obtain ⟨g2, hg⟩ : ∃ g, wr.heap.size = g := ⟨_, rfl⟩
      rw [← hW] at TB EW ⊢
      rw [hg] at TB ⊢
      clear hW hg XX E5 t3
      go_loopw [101] (fun v101 wr => ∃ i : Nat, v101 = .int .i64 (i : Int) ∧ i ≤ 9 ∧ Ext W5 wr) (fun v101 _ => 9 - (intOf v101).toNat)
      case atStart => exact ⟨0, rfl, Nat.zero_le _, Ext.refl _⟩
      case round =>
        obtain ⟨i2, rfl, hi, hx⟩ := hrel
        rename World => wr2
        have XX := Lib.hid hx
        clear hx
        by_cases hi2 : i2 < 9
        · have LT := Lib.hid hi2
          obtain ⟨a, b, c, d, k1, k2, k3, k4, k5, hb0, hc, hd, hr1, hr2, hr3, hr4, hr5, hr6, hr7, hr8⟩ := (TB.out.ext XX.out).cell hi2
          have HB := Lib.hid hb0
          have HC := Lib.hid hc
          have HD := Lib.hid hd
          have A1 := Lib.hid hr1
          have A2 := Lib.hid hr2
          have B1 := Lib.hid hr3
          have B2 := Lib.hid hr4
          have C1 := Lib.hid hr5
          have C2 := Lib.hid hr6
          have D1 := Lib.hid hr7
          have D2 := Lib.hid hr8
          have t3 : (i2 : Int) ≤ 8 := by omega
          clear hi hb0 hc hd hr1 hr2 hr3 hr4 hr5 hr6 hr7 hr8
          go_wp2_with fail
          obtain ⟨v1, hv1⟩ : ∃ W, W = (wr2.alloc (.cells #[.int .i64 a, .int .i64 b, .int .i64 c, .int .i64 d, .int .i64 0] 35)) := ⟨_, rfl⟩
          have y1 : Ext wr2 v1 := by rw [hv1]; exact ((Ext.refl _).alloc _)
          have b0_0 : Hid (At (wr2.heap.size) 0 (.int .i64 a) v1) := by rw [hv1]; exact At.ext (At.n0 (by rfl)) (Ext.refl _)
          have b0_1 : Hid (At (wr2.heap.size) 1 (.int .i64 b) v1) := by rw [hv1]; exact At.ext (At.n0 (by rfl)) (Ext.refl _)
          have b0_2 : Hid (At (wr2.heap.size) 2 (.int .i64 c) v1) := by rw [hv1]; exact At.ext (At.n0 (by rfl)) (Ext.refl _)
          have b0_3 : Hid (At (wr2.heap.size) 3 (.int .i64 d) v1) := by rw [hv1]; exact At.ext (At.n0 (by rfl)) (Ext.refl _)
          have b0_4 : Hid (At (wr2.heap.size) 4 (.int .i64 0) v1) := by rw [hv1]; exact At.ext (At.n0 (by rfl)) (Ext.refl _)
          have u0 : Hid (wr2.heap.size < v1.heap.size) := b0_0.out.2
          have e1_ : Ext W5 v1 := Ext.trans XX.out y1
          rw [← hv1]
          clear hv1
          have hkeep61 : AllAt' ([(wr2.heap.size, 0, .int .i64 a), (wr2.heap.size, 1, .int .i64 b), (wr2.heap.size, 2, .int .i64 c), (wr2.heap.size, 3, .int .i64 d), (wr2.heap.size, 4, .int .i64 0)] : List (Nat × Nat × Value)) v1 := AllAt'.cons b0_0.out (AllAt'.cons b0_1.out (AllAt'.cons b0_2.out (AllAt'.cons b0_3.out (AllAt'.cons b0_4.out (AllAt'.nil _)))))
          have hob61 : ObOk W5.heap.size v1 (([(wr2.heap.size, 0, .int .i64 a), (wr2.heap.size, 1, .int .i64 b), (wr2.heap.size, 2, .int .i64 c), (wr2.heap.size, 3, .int .i64 d), (wr2.heap.size, 4, .int .i64 0)] : List (Nat × Nat × Value)).map (·.1)) ([] : List (Nat × List (Nat × Value))) := trivial
          have hne61 : AllNe (([] : List (Nat × List (Nat × Value))).map (·.1)) := trivial
          (try simp only [List.append_eq, List.cons_append, List.nil_append])
          refine wp_region_gen ⟨[106, 107, 108, 109, 110, 111, 112, 105, 113, 114, 115, 7, 8, 9], fun i => i == 11 || i == 12, fun i => ([none, none, none, none, none, none, none, none, none, none, none, none, none, some (.op 11, 8), some (.op 12, 9), none] : List (Option (BoxRef × Nat))).getD i none, fun i => ([Sg.val (.pointer (some ⟨wr2.heap.size, 0, none⟩)), Sg.val (.int .i64 a), Sg.int a, Sg.val (.pointer (some ⟨wr2.heap.size, 1, none⟩)), Sg.val (.int .i64 b), Sg.int b, Sg.three (Sg.int (a / b)) (Sg.int (a % b)) (Sg.val (.int .i64 0)), Sg.three (Sg.int (a / b)) (Sg.int (a % b)) (Sg.val (.int .i64 0)), Sg.int (a / b), Sg.int (a % b), Sg.val (.int .i64 0), Sg.box 2 v1.heap.size, Sg.box 2 v1.heap.size, Sg.any, Sg.any, Sg.val (.int .i64 0)] : List Sg).getD i Sg.any, [(wr2.heap.size, 0, .int .i64 a), (wr2.heap.size, 1, .int .i64 b), (wr2.heap.size, 2, .int .i64 c), (wr2.heap.size, 3, .int .i64 d), (wr2.heap.size, 4, .int .i64 0)], []⟩ W5.heap.size (by kernel_rfl) (by kernel_rfl) e1_.size ?hfr hkeep61 hob61 hne61 ?hs ?he
          case hfr =>
            intro i v wk hi hst hv
            have : i = 11 ∨ i = 12 := by simpa [or_assoc] using hi
            rcases this with rfl | rfl <;> (obtain ⟨s, rfl, -, hb⟩ := hv; exact hb.lt)
          case hs =>
            refine ⟨?_, ?_, ?_, ?_, ?_, ?_, ?_, ?_, ?_, ?_, ?_, ?_, ?_, ?_, ?_, ?_, trivial⟩
            · refine RStep.op rfl rfl (fun ac wk hp K hK => ?_)
              have t6_ : ac.tmps[6]?.getD undef = .pointer (some ⟨wr2.heap.size, 0, none⟩) := hp.slot 6 rfl rfl
              have HP := Lib.hid hp
              clear hp
              go_simp
              refine hK.out _ _ ?_ (Ext.refl _) (fun h => absurd h (by simp))
              exact rfl
            · refine RStep.op rfl rfl (fun ac wk hp K hK => ?_)
              have u0e := hp.get 0 (by decide +kernel) rfl
              have t106_ : ac.tmps[106]?.getD undef = .pointer (some ⟨wr2.heap.size, 0, none⟩) := slot_is' u0e
              have c0_ := hp.cell 0 rfl
              have HP := Lib.hid hp
              clear hp
              go_simp
              refine hK.out _ _ ?_ (Ext.refl _) (fun h => absurd h (by simp))
              exact rfl
            · refine RStep.op rfl rfl (fun ac wk hp K hK => ?_)
              have u1e := hp.get 1 (by decide +kernel) rfl
              have t107_ : ac.tmps[107]?.getD undef = .int .i64 a := slot_is' u1e
              have HP := Lib.hid hp
              clear hp
              go_simp
              refine (of_is _ a A1.out A2.out).mono ?_
              rintro e wk' ⟨sb61, sv61, sm61, rfl, e61, ix⟩
              obtain ⟨sp61, sl61, sc61, rfl⟩ := e61.slice
              refine hK.out _ _ ?_ ix (fun h => absurd h (by simp))
              exact ⟨_, _, _, _, _, rfl, e61⟩
            · refine RStep.op rfl rfl (fun ac wk hp K hK => ?_)
              have t6_ : ac.tmps[6]?.getD undef = .pointer (some ⟨wr2.heap.size, 0, none⟩) := hp.slot 6 rfl rfl
              have HP := Lib.hid hp
              clear hp
              go_simp
              refine hK.out _ _ ?_ (Ext.refl _) (fun h => absurd h (by simp))
              exact rfl
            · refine RStep.op rfl rfl (fun ac wk hp K hK => ?_)
              have u3e := hp.get 3 (by decide +kernel) rfl
              have t109_ : ac.tmps[109]?.getD undef = .pointer (some ⟨wr2.heap.size, 1, none⟩) := slot_is' u3e
              have c0_ := hp.cell 1 rfl
              have HP := Lib.hid hp
              clear hp
              go_simp
              refine hK.out _ _ ?_ (Ext.refl _) (fun h => absurd h (by simp))
              exact rfl
            · refine RStep.op rfl rfl (fun ac wk hp K hK => ?_)
              have u4e := hp.get 4 (by decide +kernel) rfl
              have t110_ : ac.tmps[110]?.getD undef = .int .i64 b := slot_is' u4e
              have HP := Lib.hid hp
              clear hp
              go_simp
              refine (of_is _ b B1.out B2.out).mono ?_
              rintro e wk' ⟨sb62, sv62, sm62, rfl, e62, ix⟩
              obtain ⟨sp62, sl62, sc62, rfl⟩ := e62.slice
              refine hK.out _ _ ?_ ix (fun h => absurd h (by simp))
              exact ⟨_, _, _, _, _, rfl, e62⟩
            · refine RStep.op rfl rfl (fun ac wk hp K hK => ?_)
              obtain ⟨u2b, u2p, u2n, u2c, u2m, u2e, u2i⟩ := hp.get 2 (by decide +kernel) rfl
              have t108_ : ac.tmps[108]?.getD undef = .agg #[.bool u2b, .slice u2p u2n u2c] := slot_is' u2e
              obtain ⟨u5b, u5p, u5n, u5c, u5m, u5e, u5i⟩ := hp.get 5 (by decide +kernel) rfl
              have t111_ : ac.tmps[111]?.getD undef = .agg #[.bool u5b, .slice u5p u5n u5c] := slot_is' u5e
              have HP := Lib.hid hp
              clear hp
              go_simp
              refine (divy_is (u2i.inI (k := 1) (LenI.small (by have h1 : (-9223372036854775808 : Int) ≤ a := A1.out; have h2 : a ≤ (9223372036854775807 : Int) := A2.out; omega))) (u5i.inI (k := 1) (LenI.small (by have h1 : (-9223372036854775808 : Int) ≤ b := B1.out; have h2 : b ≤ (9223372036854775807 : Int) := B2.out; omega))) (by decide) (by decide) HB.out).mono ?_
              rintro e wk' ⟨sb63, su63, sm63, su63_, sm63_, rfl, e63q, e63r, ix⟩
              obtain ⟨sp63q, sl63q, sc63q, rfl⟩ := e63q.slice
              obtain ⟨sp63r, sl63r, sc63r, rfl⟩ := e63r.slice
              refine hK.out _ _ ?_ ix (fun h => absurd h (by simp))
              exact ⟨_, _, _, rfl, ⟨_, _, _, _, _, rfl, e63q⟩, ⟨_, _, _, _, _, rfl, e63r⟩, rfl⟩
            · refine RStep.op rfl rfl (fun ac wk hp K hK => ?_)
              obtain ⟨_, _, _, u6e, ⟨u6xb, u6xp, u6xn, u6xc, u6xm, rfl, u6xi⟩, ⟨u6yb, u6yp, u6yn, u6yc, u6ym, rfl, u6yi⟩, rfl⟩ := hp.get 6 (by decide +kernel) rfl
              have t112_ : ac.tmps[112]?.getD undef = .tuple #[.agg #[.bool u6xb, .slice u6xp u6xn u6xc], .agg #[.bool u6yb, .slice u6yp u6yn u6yc], .int .i64 0] := slot_is' u6e
              have HP := Lib.hid hp
              clear hp
              go_simp
              refine hK.out _ _ ?_ (Ext.refl _) (fun h => absurd h (by simp))
              exact ⟨_, _, _, rfl, ⟨_, _, _, _, _, rfl, u6xi⟩, ⟨_, _, _, _, _, rfl, u6yi⟩, rfl⟩
            · refine RStep.op rfl rfl (fun ac wk hp K hK => ?_)
              obtain ⟨_, _, _, u7e, ⟨u7xb, u7xp, u7xn, u7xc, u7xm, rfl, u7xi⟩, ⟨u7yb, u7yp, u7yn, u7yc, u7ym, rfl, u7yi⟩, rfl⟩ := hp.get 7 (by decide +kernel) rfl
              have t105_ : ac.tmps[105]?.getD undef = .tuple #[.agg #[.bool u7xb, .slice u7xp u7xn u7xc], .agg #[.bool u7yb, .slice u7yp u7yn u7yc], .int .i64 0] := slot_is' u7e
              have HP := Lib.hid hp
              clear hp
              go_simp
              refine hK.out _ _ ?_ (Ext.refl _) (fun h => absurd h (by simp))
              exact ⟨_, _, _, _, _, rfl, u7xi⟩
            · refine RStep.op rfl rfl (fun ac wk hp K hK => ?_)
              obtain ⟨_, _, _, u7e, ⟨u7xb, u7xp, u7xn, u7xc, u7xm, rfl, u7xi⟩, ⟨u7yb, u7yp, u7yn, u7yc, u7ym, rfl, u7yi⟩, rfl⟩ := hp.get 7 (by decide +kernel) rfl
              have t105_ : ac.tmps[105]?.getD undef = .tuple #[.agg #[.bool u7xb, .slice u7xp u7xn u7xc], .agg #[.bool u7yb, .slice u7yp u7yn u7yc], .int .i64 0] := slot_is' u7e
              have HP := Lib.hid hp
              clear hp
              go_simp
              refine hK.out _ _ ?_ (Ext.refl _) (fun h => absurd h (by simp))
              exact ⟨_, _, _, _, _, rfl, u7yi⟩
            · refine RStep.op rfl rfl (fun ac wk hp K hK => ?_)
              obtain ⟨_, _, _, u7e, ⟨u7xb, u7xp, u7xn, u7xc, u7xm, rfl, u7xi⟩, ⟨u7yb, u7yp, u7yn, u7yc, u7ym, rfl, u7yi⟩, rfl⟩ := hp.get 7 (by decide +kernel) rfl
              have t105_ : ac.tmps[105]?.getD undef = .tuple #[.agg #[.bool u7xb, .slice u7xp u7xn u7xc], .agg #[.bool u7yb, .slice u7yp u7yn u7yc], .int .i64 0] := slot_is' u7e
              have HP := Lib.hid hp
              clear hp
              go_simp
              refine hK.out _ _ ?_ (Ext.refl _) (fun h => absurd h (by simp))
              exact rfl
            · refine RStep.op rfl rfl (fun ac wk hp K hK => ?_)
              have hsz := hp.gr.size
              clear hp
              go_simp
              exact hK.out _ _ ⟨_, rfl, hsz, Bx.new 2 ⟨rfl, by decide⟩ (by decide) noI_s2⟩ ((Ext.refl _).alloc _) (fun _ => rfl)
            · refine RStep.op rfl rfl (fun ac wk hp K hK => ?_)
              have hsz := hp.gr.size
              clear hp
              go_simp
              exact hK.out _ _ ⟨_, rfl, hsz, Bx.new 2 ⟨rfl, by decide⟩ (by decide) noI_s2⟩ ((Ext.refl _).alloc _) (fun _ => rfl)
            · refine RStep.st 11 8 rfl rfl (fun ac wk hp => ?_)
              obtain ⟨u11s, u11e, u11l, u11b⟩ := hp.get 11 (by decide +kernel) rfl
              have t7_ : ac.tmps[7]?.getD undef = .pointer (some ⟨u11s, 0, none⟩) := slot_is' u11e
              obtain ⟨u8b, u8p, u8n, u8c, u8m, u8e, u8i⟩ := hp.get 8 (by decide +kernel) rfl
              have t113_ : ac.tmps[113]?.getD undef = .agg #[.bool u8b, .slice u8p u8n u8c] := slot_is' u8e
              obtain ⟨d0, hd0, -⟩ := Bx.cell u11b (o := 0) (by decide)
              have fz0 := Bx.free u11b 0
              obtain ⟨d1, hd1, -⟩ := Bx.cell u11b (o := 1) (by decide)
              have fz1 := Bx.free u11b 1
              refine ⟨u11s, 2, [.bool u8b, .slice u8p u8n u8c], u11e, u11b, by rw [u8e]; rfl, rfl, noI_s2, fun K hK => ?_⟩
              have HK := Lib.hid hK
              clear hK hp
              go_simp
              exact HK.out
            · refine RStep.st 12 9 rfl rfl (fun ac wk hp => ?_)
              obtain ⟨u12s, u12e, u12l, u12b⟩ := hp.get 12 (by decide +kernel) rfl
              have t8_ : ac.tmps[8]?.getD undef = .pointer (some ⟨u12s, 0, none⟩) := slot_is' u12e
              obtain ⟨u9b, u9p, u9n, u9c, u9m, u9e, u9i⟩ := hp.get 9 (by decide +kernel) rfl
              have t114_ : ac.tmps[114]?.getD undef = .agg #[.bool u9b, .slice u9p u9n u9c] := slot_is' u9e
              obtain ⟨d0, hd0, -⟩ := Bx.cell u12b (o := 0) (by decide)
              have fz0 := Bx.free u12b 0
              obtain ⟨d1, hd1, -⟩ := Bx.cell u12b (o := 1) (by decide)
              have fz1 := Bx.free u12b 1
              refine ⟨u12s, 2, [.bool u9b, .slice u9p u9n u9c], u12e, u12b, by rw [u9e]; rfl, rfl, noI_s2, fun K hK => ?_⟩
              have HK := Lib.hid hK
              clear hK hp
              go_simp
              exact HK.out
            · refine RStep.op rfl rfl (fun ac wk hp K hK => ?_)
              have u10e := hp.get 10 (by decide +kernel) rfl
              have t115_ : ac.tmps[115]?.getD undef = .int .i64 0 := slot_is' u10e
              have HP := Lib.hid hp
              clear hp
              go_simp
              refine hK.out _ _ ?_ (Ext.refl _) (fun h => absurd h (by simp))
              exact rfl
          case he =>
            intro ac v2 hM
            have y61_0e := hM.post 0 rfl rfl
            have y61_1e := hM.post 1 rfl rfl
            obtain ⟨y61_2b, y61_2p, y61_2n, y61_2c, y61_2m, y61_2e, y61_2i⟩ := hM.post 2 rfl rfl
            have y61_3e := hM.post 3 rfl rfl
            have y61_4e := hM.post 4 rfl rfl
            obtain ⟨y61_5b, y61_5p, y61_5n, y61_5c, y61_5m, y61_5e, y61_5i⟩ := hM.post 5 rfl rfl
            obtain ⟨_, _, _, y61_6e, ⟨y61_6xb, y61_6xp, y61_6xn, y61_6xc, y61_6xm, rfl, y61_6xi⟩, ⟨y61_6yb, y61_6yp, y61_6yn, y61_6yc, y61_6ym, rfl, y61_6yi⟩, rfl⟩ := hM.post 6 rfl rfl
            obtain ⟨_, _, _, y61_7e, ⟨y61_7xb, y61_7xp, y61_7xn, y61_7xc, y61_7xm, rfl, y61_7xi⟩, ⟨y61_7yb, y61_7yp, y61_7yn, y61_7yc, y61_7ym, rfl, y61_7yi⟩, rfl⟩ := hM.post 7 rfl rfl
            obtain ⟨y61_8b, y61_8p, y61_8n, y61_8c, y61_8m, y61_8e, y61_8i⟩ := hM.post 8 rfl rfl
            obtain ⟨y61_9b, y61_9p, y61_9n, y61_9c, y61_9m, y61_9e, y61_9i⟩ := hM.post 9 rfl rfl
            have y61_10e := hM.post 10 rfl rfl
            obtain ⟨y61_11s, y61_11e, y61_11l, y61_11b⟩ := hM.post 11 rfl rfl
            have l1 := Lib.hid y61_11l
            have k1 := Lib.hid y61_11b
            have u1 := Lib.hid (Bx.lt y61_11b)
            obtain ⟨y61_12s, y61_12e, y61_12l, y61_12b⟩ := hM.post 12 rfl rfl
            have l2 := Lib.hid y61_12l
            have k2 := Lib.hid y61_12b
            have u2 := Lib.hid (Bx.lt y61_12b)
            have y61_15e := hM.post 15 rfl rfl
            have hf61_11_12 : y61_11s ≠ y61_12s := by have h := hM.fresh 11 12 (by decide) rfl rfl rfl rfl rfl rfl; rw [show at_ _ ac 11 = _ from y61_11e, show at_ _ ac 12 = _ from y61_12e] at h; exact h
            have b1_0 : Hid (At (y61_11s) 0 (.bool y61_8b) v2) := Lib.hid (hM.boxOp 13 11 8 rfl rfl y61_11e (cs := [.bool y61_8b, .slice y61_8p y61_8n y61_8c]) (by rw [y61_8e]; rfl) 0 _ rfl)
            have b1_1 : Hid (At (y61_11s) 1 (.slice y61_8p y61_8n y61_8c) v2) := Lib.hid (hM.boxOp 13 11 8 rfl rfl y61_11e (cs := [.bool y61_8b, .slice y61_8p y61_8n y61_8c]) (by rw [y61_8e]; rfl) 1 _ rfl)
            have b2_0 : Hid (At (y61_12s) 0 (.bool y61_9b) v2) := Lib.hid (hM.boxOp 14 12 9 rfl rfl y61_12e (cs := [.bool y61_9b, .slice y61_9p y61_9n y61_9c]) (by rw [y61_9e]; rfl) 0 _ rfl)
            have b2_1 : Hid (At (y61_12s) 1 (.slice y61_9p y61_9n y61_9c) v2) := Lib.hid (hM.boxOp 14 12 9 rfl rfl y61_12e (cs := [.bool y61_9b, .slice y61_9p y61_9n y61_9c]) (by rw [y61_9e]; rfl) 1 _ rfl)
            have b0_0 : Hid (At (wr2.heap.size) 0 (.int .i64 a) v2) := Lib.hid (hM.keep.at 0 rfl)
            have b0_1 : Hid (At (wr2.heap.size) 1 (.int .i64 b) v2) := Lib.hid (hM.keep.at 1 rfl)
            have b0_2 : Hid (At (wr2.heap.size) 2 (.int .i64 c) v2) := Lib.hid (hM.keep.at 2 rfl)
            have b0_3 : Hid (At (wr2.heap.size) 3 (.int .i64 d) v2) := Lib.hid (hM.keep.at 3 rfl)
            have b0_4 : Hid (At (wr2.heap.size) 4 (.int .i64 0) v2) := Lib.hid (hM.keep.at 4 rfl)
            have gv2 : Gr v1 v2 := hM.gr
            have e2_ : Ext W5 v2 := Ext.below e1_ hM.blw
            have z0_ : sl ac 106 = .pointer (some ⟨wr2.heap.size, 0, none⟩) := y61_0e
            have z1_ : sl ac 107 = .int .i64 a := y61_1e
            have z2_ : sl ac 108 = .agg #[.bool y61_2b, .slice y61_2p y61_2n y61_2c] := y61_2e
            have z3_ : sl ac 109 = .pointer (some ⟨wr2.heap.size, 1, none⟩) := y61_3e
            have z4_ : sl ac 110 = .int .i64 b := y61_4e
            have z5_ : sl ac 111 = .agg #[.bool y61_5b, .slice y61_5p y61_5n y61_5c] := y61_5e
            have z6_ : sl ac 112 = .tuple #[.agg #[.bool y61_6xb, .slice y61_6xp y61_6xn y61_6xc], .agg #[.bool y61_6yb, .slice y61_6yp y61_6yn y61_6yc], .int .i64 0] := y61_6e
            have z7_ : sl ac 105 = .tuple #[.agg #[.bool y61_7xb, .slice y61_7xp y61_7xn y61_7xc], .agg #[.bool y61_7yb, .slice y61_7yp y61_7yn y61_7yc], .int .i64 0] := y61_7e
            have z8_ : sl ac 113 = .agg #[.bool y61_8b, .slice y61_8p y61_8n y61_8c] := y61_8e
            have z9_ : sl ac 114 = .agg #[.bool y61_9b, .slice y61_9p y61_9n y61_9c] := y61_9e
            have z10_ : sl ac 115 = .int .i64 0 := y61_10e
            have z11_ : sl ac 7 = .pointer (some ⟨y61_11s, 0, none⟩) := y61_11e
            have z12_ : sl ac 8 = .pointer (some ⟨y61_12s, 0, none⟩) := y61_12e
            have z15_ : sl ac 9 = .int .i64 0 := y61_15e
            rw [hM.ag.lay]
            simp only [lay, List.foldl_cons, List.foldl_nil, List.setIfInBounds_toArray, List.set_cons_zero, List.set_cons_succ, z0_, z1_, z2_, z3_, z4_, z5_, z6_, z7_, z8_, z9_, z10_, z11_, z12_, z15_]
            clear hM hkeep61 hob61 hne61 z0_ z1_ z2_ z3_ z4_ z5_ z6_ z7_ z8_ z9_ z10_ z11_ z12_ z15_ y61_0e y61_1e y61_2e y61_3e y61_4e y61_5e y61_6e y61_7e y61_8e y61_9e y61_10e y61_11e y61_12e y61_15e
            go_wp2_with fail
            have hkeep62 : AllAt' ([(wr2.heap.size, 0, .int .i64 a), (wr2.heap.size, 1, .int .i64 b), (wr2.heap.size, 2, .int .i64 c), (wr2.heap.size, 3, .int .i64 d), (wr2.heap.size, 4, .int .i64 0), (y61_11s, 0, .bool y61_8b), (y61_11s, 1, .slice y61_8p y61_8n y61_8c), (y61_12s, 0, .bool y61_9b), (y61_12s, 1, .slice y61_9p y61_9n y61_9c)] : List (Nat × Nat × Value)) v2 := AllAt'.cons b0_0.out (AllAt'.cons b0_1.out (AllAt'.cons b0_2.out (AllAt'.cons b0_3.out (AllAt'.cons b0_4.out (AllAt'.cons b1_0.out (AllAt'.cons b1_1.out (AllAt'.cons b2_0.out (AllAt'.cons b2_1.out (AllAt'.nil _)))))))))
            have hob62 : ObOk W5.heap.size v2 (([(wr2.heap.size, 0, .int .i64 a), (wr2.heap.size, 1, .int .i64 b), (wr2.heap.size, 2, .int .i64 c), (wr2.heap.size, 3, .int .i64 d), (wr2.heap.size, 4, .int .i64 0), (y61_11s, 0, .bool y61_8b), (y61_11s, 1, .slice y61_8p y61_8n y61_8c), (y61_12s, 0, .bool y61_9b), (y61_12s, 1, .slice y61_9p y61_9n y61_9c)] : List (Nat × Nat × Value)).map (·.1)) ([] : List (Nat × List (Nat × Value))) := trivial
            have hne62 : AllNe (([] : List (Nat × List (Nat × Value))).map (·.1)) := trivial
            (try simp only [List.append_eq, List.cons_append, List.nil_append])
            refine wp_region_gen ⟨[116, 117, 118, 119, 120, 121, 122, 123, 124, 125, 126, 127, 128, 129, 130, 131, 132, 133], fun i => false, fun i => ([none, none, none, none, none, none, none, none, none, none, none, none, none, none, none, none, none, none] : List (Option (BoxRef × Nat))).getD i none, fun i => ([Sg.val (.int .i64 0), Sg.val (.bool false), Sg.val (.bool false), Sg.int (a / b), Sg.val (.pointer (some ⟨wr2.heap.size, 2, none⟩)), Sg.val (.int .i64 c), Sg.int c, Sg.val (.bool true), Sg.val (.bool false), Sg.val (.bool false), Sg.val (.bool false), Sg.int (a % b), Sg.val (.pointer (some ⟨wr2.heap.size, 3, none⟩)), Sg.val (.int .i64 d), Sg.int d, Sg.val (.bool true), Sg.val (.bool false), Sg.val (.bool false)] : List Sg).getD i Sg.any, [(wr2.heap.size, 0, .int .i64 a), (wr2.heap.size, 1, .int .i64 b), (wr2.heap.size, 2, .int .i64 c), (wr2.heap.size, 3, .int .i64 d), (wr2.heap.size, 4, .int .i64 0), (y61_11s, 0, .bool y61_8b), (y61_11s, 1, .slice y61_8p y61_8n y61_8c), (y61_12s, 0, .bool y61_9b), (y61_12s, 1, .slice y61_9p y61_9n y61_9c)], []⟩ W5.heap.size (by kernel_rfl) (by kernel_rfl) e2_.size ?hfr hkeep62 hob62 hne62 ?hs ?he
            case hfr =>
              intro i v wk hi hst hv
              exact absurd hi (by simp)
            case hs =>
              refine ⟨?_, ?_, ?_, ?_, ?_, ?_, ?_, ?_, ?_, ?_, ?_, ?_, ?_, ?_, ?_, ?_, ?_, ?_, trivial⟩
              · refine RStep.op rfl rfl (fun ac wk hp K hK => ?_)
                have t9_ : ac.tmps[9]?.getD undef = .int .i64 0 := hp.slot 9 rfl rfl
                have HP := Lib.hid hp
                clear hp
                go_simp
                refine hK.out _ _ ?_ (Ext.refl _) (fun h => absurd h (by simp))
                exact rfl
              · refine RStep.op rfl rfl (fun ac wk hp K hK => ?_)
                have u0e := hp.get 0 (by decide +kernel) rfl
                have t116_ : ac.tmps[116]?.getD undef = .int .i64 0 := slot_is' u0e
                have HP := Lib.hid hp
                clear hp
                go_simp
                refine hK.out _ _ ?_ (Ext.refl _) (fun h => absurd h (by simp))
                exact rfl
              · refine RStep.op rfl rfl (fun ac wk hp K hK => ?_)
                have u1e := hp.get 1 (by decide +kernel) rfl
                have t117_ : ac.tmps[117]?.getD undef = .bool false := slot_is' u1e
                have HP := Lib.hid hp
                clear hp
                go_simp
                refine hK.out _ _ ?_ (Ext.refl _) (fun h => absurd h (by simp))
                exact rfl
              · refine RStep.yes 2 false rfl rfl (by decide +kernel) rfl rfl (fun ac wk hp K hK => ?_)
                have t7_ : ac.tmps[7]?.getD undef = .pointer (some ⟨y61_11s, 0, none⟩) := hp.slot 7 rfl rfl
                have c0_ := hp.cell 5 rfl
                have c1_ := hp.cell 6 rfl
                have HP := Lib.hid hp
                clear hp
                go_simp
                refine hK.out _ _ ?_ (Ext.refl _) (fun h => absurd h (by simp))
                exact ⟨_, _, _, _, _, rfl, (y61_8i.gr HP.out.gr)⟩
              · refine RStep.yes 2 false rfl rfl (by decide +kernel) rfl rfl (fun ac wk hp K hK => ?_)
                have t6_ : ac.tmps[6]?.getD undef = .pointer (some ⟨wr2.heap.size, 0, none⟩) := hp.slot 6 rfl rfl
                have HP := Lib.hid hp
                clear hp
                go_simp
                refine hK.out _ _ ?_ (Ext.refl _) (fun h => absurd h (by simp))
                exact rfl
              · refine RStep.yes 2 false rfl rfl (by decide +kernel) rfl rfl (fun ac wk hp K hK => ?_)
                have u4e := hp.get 4 (by decide +kernel) rfl
                have t120_ : ac.tmps[120]?.getD undef = .pointer (some ⟨wr2.heap.size, 2, none⟩) := slot_is' u4e
                have c0_ := hp.cell 2 rfl
                have HP := Lib.hid hp
                clear hp
                go_simp
                refine hK.out _ _ ?_ (Ext.refl _) (fun h => absurd h (by simp))
                exact rfl
              · refine RStep.yes 2 false rfl rfl (by decide +kernel) rfl rfl (fun ac wk hp K hK => ?_)
                have u5e := hp.get 5 (by decide +kernel) rfl
                have t121_ : ac.tmps[121]?.getD undef = .int .i64 c := slot_is' u5e
                have HP := Lib.hid hp
                clear hp
                go_simp
                refine (of_is _ c C1.out C2.out).mono ?_
                rintro e wk' ⟨sb64, sv64, sm64, rfl, e64, ix⟩
                obtain ⟨sp64, sl64, sc64, rfl⟩ := e64.slice
                refine hK.out _ _ ?_ ix (fun h => absurd h (by simp))
                exact ⟨_, _, _, _, _, rfl, e64⟩
              · refine RStep.yes 2 false rfl rfl (by decide +kernel) rfl rfl (fun ac wk hp K hK => ?_)
                obtain ⟨u3b, u3p, u3n, u3c, u3m, u3e, u3i⟩ := hp.get 3 (by decide +kernel) rfl
                have t119_ : ac.tmps[119]?.getD undef = .agg #[.bool u3b, .slice u3p u3n u3c] := slot_is' u3e
                obtain ⟨u6b, u6p, u6n, u6c, u6m, u6e, u6i⟩ := hp.get 6 (by decide +kernel) rfl
                have t122_ : ac.tmps[122]?.getD undef = .agg #[.bool u6b, .slice u6p u6n u6c] := slot_is' u6e
                have HP := Lib.hid hp
                clear hp
                go_simp
                refine (rsame_is u3i u6i true (decide_eq_true (show ((a / b) : Int) = c from HC.out))).mono ?_
                rintro e wk' ⟨rfl, ix⟩
                refine hK.out _ _ ?_ ix (fun h => absurd h (by simp))
                exact rfl
              · refine RStep.yes 2 false rfl rfl (by decide +kernel) rfl rfl (fun ac wk hp K hK => ?_)
                have u7e := hp.get 7 (by decide +kernel) rfl
                have t123_ : ac.tmps[123]?.getD undef = .bool true := slot_is' u7e
                have HP := Lib.hid hp
                clear hp
                go_simp
                refine hK.out _ _ ?_ (Ext.refl _) (fun h => absurd h (by simp))
                exact rfl
              · refine RStep.op rfl rfl (fun ac wk hp K hK => ?_)
                have u2e := hp.get 2 (by decide +kernel) rfl
                have t118_ : ac.tmps[118]?.getD undef = .bool false := slot_is' u2e
                have u8e := hp.get 8 (by decide +kernel) rfl
                have t124_ : ac.tmps[124]?.getD undef = .bool false := slot_is' u8e
                have HP := Lib.hid hp
                clear hp
                go_simp
                refine hK.out _ _ ?_ (Ext.refl _) (fun h => absurd h (by simp))
                exact rfl
              · refine RStep.op rfl rfl (fun ac wk hp K hK => ?_)
                have u9e := hp.get 9 (by decide +kernel) rfl
                have t125_ : ac.tmps[125]?.getD undef = .bool false := slot_is' u9e
                have HP := Lib.hid hp
                clear hp
                go_simp
                refine hK.out _ _ ?_ (Ext.refl _) (fun h => absurd h (by simp))
                exact rfl
              · refine RStep.yes 10 false rfl rfl (by decide +kernel) rfl rfl (fun ac wk hp K hK => ?_)
                have t8_ : ac.tmps[8]?.getD undef = .pointer (some ⟨y61_12s, 0, none⟩) := hp.slot 8 rfl rfl
                have c0_ := hp.cell 7 rfl
                have c1_ := hp.cell 8 rfl
                have HP := Lib.hid hp
                clear hp
                go_simp
                refine hK.out _ _ ?_ (Ext.refl _) (fun h => absurd h (by simp))
                exact ⟨_, _, _, _, _, rfl, (y61_9i.gr HP.out.gr)⟩
              · refine RStep.yes 10 false rfl rfl (by decide +kernel) rfl rfl (fun ac wk hp K hK => ?_)
                have t6_ : ac.tmps[6]?.getD undef = .pointer (some ⟨wr2.heap.size, 0, none⟩) := hp.slot 6 rfl rfl
                have HP := Lib.hid hp
                clear hp
                go_simp
                refine hK.out _ _ ?_ (Ext.refl _) (fun h => absurd h (by simp))
                exact rfl
              · refine RStep.yes 10 false rfl rfl (by decide +kernel) rfl rfl (fun ac wk hp K hK => ?_)
                have u12e := hp.get 12 (by decide +kernel) rfl
                have t128_ : ac.tmps[128]?.getD undef = .pointer (some ⟨wr2.heap.size, 3, none⟩) := slot_is' u12e
                have c0_ := hp.cell 3 rfl
                have HP := Lib.hid hp
                clear hp
                go_simp
                refine hK.out _ _ ?_ (Ext.refl _) (fun h => absurd h (by simp))
                exact rfl
              · refine RStep.yes 10 false rfl rfl (by decide +kernel) rfl rfl (fun ac wk hp K hK => ?_)
                have u13e := hp.get 13 (by decide +kernel) rfl
                have t129_ : ac.tmps[129]?.getD undef = .int .i64 d := slot_is' u13e
                have HP := Lib.hid hp
                clear hp
                go_simp
                refine (of_is _ d D1.out D2.out).mono ?_
                rintro e wk' ⟨sb66, sv66, sm66, rfl, e66, ix⟩
                obtain ⟨sp66, sl66, sc66, rfl⟩ := e66.slice
                refine hK.out _ _ ?_ ix (fun h => absurd h (by simp))
                exact ⟨_, _, _, _, _, rfl, e66⟩
              · refine RStep.yes 10 false rfl rfl (by decide +kernel) rfl rfl (fun ac wk hp K hK => ?_)
                obtain ⟨u11b, u11p, u11n, u11c, u11m, u11e, u11i⟩ := hp.get 11 (by decide +kernel) rfl
                have t127_ : ac.tmps[127]?.getD undef = .agg #[.bool u11b, .slice u11p u11n u11c] := slot_is' u11e
                obtain ⟨u14b, u14p, u14n, u14c, u14m, u14e, u14i⟩ := hp.get 14 (by decide +kernel) rfl
                have t130_ : ac.tmps[130]?.getD undef = .agg #[.bool u14b, .slice u14p u14n u14c] := slot_is' u14e
                have HP := Lib.hid hp
                clear hp
                go_simp
                refine (rsame_is u11i u14i true (decide_eq_true (show ((a % b) : Int) = d from HD.out))).mono ?_
                rintro e wk' ⟨rfl, ix⟩
                refine hK.out _ _ ?_ ix (fun h => absurd h (by simp))
                exact rfl
              · refine RStep.yes 10 false rfl rfl (by decide +kernel) rfl rfl (fun ac wk hp K hK => ?_)
                have u15e := hp.get 15 (by decide +kernel) rfl
                have t131_ : ac.tmps[131]?.getD undef = .bool true := slot_is' u15e
                have HP := Lib.hid hp
                clear hp
                go_simp
                refine hK.out _ _ ?_ (Ext.refl _) (fun h => absurd h (by simp))
                exact rfl
              · refine RStep.op rfl rfl (fun ac wk hp K hK => ?_)
                have u10e := hp.get 10 (by decide +kernel) rfl
                have t126_ : ac.tmps[126]?.getD undef = .bool false := slot_is' u10e
                have u16e := hp.get 16 (by decide +kernel) rfl
                have t132_ : ac.tmps[132]?.getD undef = .bool false := slot_is' u16e
                have HP := Lib.hid hp
                clear hp
                go_simp
                refine hK.out _ _ ?_ (Ext.refl _) (fun h => absurd h (by simp))
                exact rfl
            case he =>
              intro ac v3 hM
              have y62_0e := hM.post 0 rfl rfl
              have y62_1e := hM.post 1 rfl rfl
              have y62_2e := hM.post 2 rfl rfl
              obtain ⟨y62_3b, y62_3p, y62_3n, y62_3c, y62_3m, y62_3e, y62_3i⟩ := hM.post 3 rfl rfl
              have y62_4e := hM.post 4 rfl rfl
              have y62_5e := hM.post 5 rfl rfl
              obtain ⟨y62_6b, y62_6p, y62_6n, y62_6c, y62_6m, y62_6e, y62_6i⟩ := hM.post 6 rfl rfl
              have y62_7e := hM.post 7 rfl rfl
              have y62_8e := hM.post 8 rfl rfl
              have y62_9e := hM.post 9 rfl rfl
              have y62_10e := hM.post 10 rfl rfl
              obtain ⟨y62_11b, y62_11p, y62_11n, y62_11c, y62_11m, y62_11e, y62_11i⟩ := hM.post 11 rfl rfl
              have y62_12e := hM.post 12 rfl rfl
              have y62_13e := hM.post 13 rfl rfl
              obtain ⟨y62_14b, y62_14p, y62_14n, y62_14c, y62_14m, y62_14e, y62_14i⟩ := hM.post 14 rfl rfl
              have y62_15e := hM.post 15 rfl rfl
              have y62_16e := hM.post 16 rfl rfl
              have y62_17e := hM.post 17 rfl rfl
              have b0_0 : Hid (At (wr2.heap.size) 0 (.int .i64 a) v3) := Lib.hid (hM.keep.at 0 rfl)
              have b0_1 : Hid (At (wr2.heap.size) 1 (.int .i64 b) v3) := Lib.hid (hM.keep.at 1 rfl)
              have b0_2 : Hid (At (wr2.heap.size) 2 (.int .i64 c) v3) := Lib.hid (hM.keep.at 2 rfl)
              have b0_3 : Hid (At (wr2.heap.size) 3 (.int .i64 d) v3) := Lib.hid (hM.keep.at 3 rfl)
              have b0_4 : Hid (At (wr2.heap.size) 4 (.int .i64 0) v3) := Lib.hid (hM.keep.at 4 rfl)
              have b1_0 : Hid (At (y61_11s) 0 (.bool y61_8b) v3) := Lib.hid (hM.keep.at 5 rfl)
              have b1_1 : Hid (At (y61_11s) 1 (.slice y61_8p y61_8n y61_8c) v3) := Lib.hid (hM.keep.at 6 rfl)
              have b2_0 : Hid (At (y61_12s) 0 (.bool y61_9b) v3) := Lib.hid (hM.keep.at 7 rfl)
              have b2_1 : Hid (At (y61_12s) 1 (.slice y61_9p y61_9n y61_9c) v3) := Lib.hid (hM.keep.at 8 rfl)
              have gv3 : Gr v2 v3 := hM.gr
              have e3_ : Ext W5 v3 := Ext.below e2_ hM.blw
              have z0_ : sl ac 116 = .int .i64 0 := y62_0e
              have z1_ : sl ac 117 = .bool false := y62_1e
              have z2_ : sl ac 118 = .bool false := y62_2e
              have z3_ : sl ac 119 = .agg #[.bool y62_3b, .slice y62_3p y62_3n y62_3c] := y62_3e
              have z4_ : sl ac 120 = .pointer (some ⟨wr2.heap.size, 2, none⟩) := y62_4e
              have z5_ : sl ac 121 = .int .i64 c := y62_5e
              have z6_ : sl ac 122 = .agg #[.bool y62_6b, .slice y62_6p y62_6n y62_6c] := y62_6e
              have z7_ : sl ac 123 = .bool true := y62_7e
              have z8_ : sl ac 124 = .bool false := y62_8e
              have z9_ : sl ac 125 = .bool false := y62_9e
              have z10_ : sl ac 126 = .bool false := y62_10e
              have z11_ : sl ac 127 = .agg #[.bool y62_11b, .slice y62_11p y62_11n y62_11c] := y62_11e
              have z12_ : sl ac 128 = .pointer (some ⟨wr2.heap.size, 3, none⟩) := y62_12e
              have z13_ : sl ac 129 = .int .i64 d := y62_13e
              have z14_ : sl ac 130 = .agg #[.bool y62_14b, .slice y62_14p y62_14n y62_14c] := y62_14e
              have z15_ : sl ac 131 = .bool true := y62_15e
              have z16_ : sl ac 132 = .bool false := y62_16e
              have z17_ : sl ac 133 = .bool false := y62_17e
              rw [hM.ag.lay]
              simp only [lay, List.foldl_cons, List.foldl_nil, List.setIfInBounds_toArray, List.set_cons_zero, List.set_cons_succ, z0_, z1_, z2_, z3_, z4_, z5_, z6_, z7_, z8_, z9_, z10_, z11_, z12_, z13_, z14_, z15_, z16_, z17_]
              clear hM hkeep62 hob62 hne62 z0_ z1_ z2_ z3_ z4_ z5_ z6_ z7_ z8_ z9_ z10_ z11_ z12_ z13_ z14_ z15_ z16_ z17_ y62_0e y62_1e y62_2e y62_3e y62_4e y62_5e y62_6e y62_7e y62_8e y62_9e y62_10e y62_11e y62_12e y62_13e y62_14e y62_15e y62_16e y62_17e
              go_wp2_with fail
              exact ⟨⟨i2 + 1, by first | rfl | go_num, LT.out, e3_⟩, by simp [intOf]; have := LT.out; omega⟩
        · have t3 : (9 : Int) ≤ (i2 : Int) := by omega
          have E5 := Lib.hid (EW.out.trans XX.out)
          clear hi hi2 TB EW
          go_wp2_with fail
          have TB : Hid (TabS wr2.heap.size (wr2.alloc (.cells #[.string ⟨#[]⟩, .int .i64 4, .string ⟨#[45]⟩, .int .i64 4, .string ⟨#[45, 48]⟩, .int .i64 3, .string ⟨#[45, 45, 49]⟩, .int .i64 3, .string ⟨#[43, 49]⟩, .int .i64 3, .string ⟨#[48, 48, 55]⟩, .int .i64 3, .string ⟨#[45, 48, 49]⟩, .int .i64 3, .string ⟨#[49, 97]⟩, .int .i64 3, .string ⟨#[32, 49]⟩, .int .i64 3, .string ⟨#[49, 45]⟩, .int .i64 3, .string ⟨#[48]⟩, .int .i64 0, .string ⟨#[45, 49, 48]⟩, .int .i64 0] 40))) := ⟨_, _, heap_alloc_new _ _, tabS_get⟩
          have EW : Hid (Ext w (wr2.alloc (.cells #[.string ⟨#[]⟩, .int .i64 4, .string ⟨#[45]⟩, .int .i64 4, .string ⟨#[45, 48]⟩, .int .i64 3, .string ⟨#[45, 45, 49]⟩, .int .i64 3, .string ⟨#[43, 49]⟩, .int .i64 3, .string ⟨#[48, 48, 55]⟩, .int .i64 3, .string ⟨#[45, 48, 49]⟩, .int .i64 3, .string ⟨#[49, 97]⟩, .int .i64 3, .string ⟨#[32, 49]⟩, .int .i64 3, .string ⟨#[49, 45]⟩, .int .i64 3, .string ⟨#[48]⟩, .int .i64 0, .string ⟨#[45, 49, 48]⟩, .int .i64 0] 40))) := E5.out.trans ((Ext.refl _).alloc _)
          obtain ⟨W6, hW⟩ : ∃ W, W = wr2.alloc (.cells #[.string ⟨#[]⟩, .int .i64 4, .string ⟨#[45]⟩, .int .i64 4, .string ⟨#[45, 48]⟩, .int .i64 3, .string ⟨#[45, 45, 49]⟩, .int .i64 3, .string ⟨#[43, 49]⟩, .int .i64 3, .string ⟨#[48, 48, 55]⟩, .int .i64 3, .string ⟨#[45, 48, 49]⟩, .int .i64 3, .string ⟨#[49, 97]⟩, .int .i64 3, .string ⟨#[32, 49]⟩, .int .i64 3, .string ⟨#[49, 45]⟩, .int .i64 3, .string ⟨#[48]⟩, .int .i64 0, .string ⟨#[45, 49, 48]⟩, .int .i64 0] 40) := ⟨_, rfl⟩
          obtain ⟨g3, hg⟩ : ∃ g, wr2.heap.size = g := ⟨_, rfl⟩
          rw [← hW] at TB EW ⊢
          rw [hg] at TB ⊢
          clear hW hg XX E5 t3
          go_loopw [149] (fun v149 wr => ∃ i : Nat, v149 = .int .i64 (i : Int) ∧ i ≤ 12 ∧ Ext W6 wr) (fun v149 _ => 12 - (intOf v149).toNat)
          case atStart => exact ⟨0, rfl, Nat.zero_le _, Ext.refl _⟩
          case round =>
            obtain ⟨i3, rfl, hi, hx⟩ := hrel
            rename World => wr3
            have XX := Lib.hid hx
            clear hx
            by_cases hi2 : i3 < 12
            · have LT := Lib.hid hi2
              obtain ⟨s, c, k1, k2, k3, k4⟩ := (TB.out.ext XX.out).cell hi2
              have HSZ : Hid (s.size ≤ 500) := by show _ ≤ _; omega
              have t3 : (i3 : Int) ≤ 11 := by omega
              clear hi k3
              by_cases hc : c = 0
              · subst hc
                obtain ⟨z, hz⟩ : ∃ z, readI s.data.toList = z := ⟨_, rfl⟩
                have HE : Hid (((errI s.data.toList : Nat) : Int) = 0) := by show _ = _; rw [k4]; rfl
                have HQ := Lib.hid hz
                have k2 : wr3.cell? ⟨g3, i3 * 2 + 1, none⟩ = some (.int .i64 0) := k2
                clear k4 hz
                go_wp2_with fail
                obtain ⟨v1, hv1⟩ : ∃ W, W = (wr3.alloc (.cells #[.string s, .int .i64 0] 40)) := ⟨_, rfl⟩
                have y1 : Ext wr3 v1 := by rw [hv1]; exact ((Ext.refl _).alloc _)
                have b0_0 : Hid (At (wr3.heap.size) 0 (.string s) v1) := by rw [hv1]; exact At.ext (At.n0 (by rfl)) (Ext.refl _)
                have b0_1 : Hid (At (wr3.heap.size) 1 (.int .i64 0) v1) := by rw [hv1]; exact At.ext (At.n0 (by rfl)) (Ext.refl _)
                have u0 : Hid (wr3.heap.size < v1.heap.size) := b0_0.out.2
                have e1_ : Ext W6 v1 := Ext.trans XX.out y1
                rw [← hv1]
                clear hv1
                refine (read_is s _ HSZ.out 0 z HE.out HQ.out).mono ?_
                rintro e w2 ⟨sb71, sv71, sm71, rfl, e71, x2⟩
                have e2_ : Ext W6 w2 := Ext.trans e1_ x2
                obtain ⟨sp71, sl71, sc71, rfl⟩ := e71.slice
                have g0_1 := (b0_1.out.ext x2).1
                have f0 : wr3.heap.size < w2.heap.size := (b0_0.out.ext x2).2
                have ff0 : wr3.heap.size < w2.heap.size + 1 := by omega
                go_wp2_with fail
                obtain ⟨v3, hv3⟩ : ∃ W, W = (w2.alloc (.cells #[.bool sb71, .slice sp71 sl71 sc71] 26)) := ⟨_, rfl⟩
                have y3 : Ext w2 v3 := by rw [hv3]; exact ((Ext.refl _).alloc _)
                have b1_0 : Hid (At (w2.heap.size) 0 (.bool sb71) v3) := by rw [hv3]; exact At.ext (At.n0 (by rfl)) (Ext.refl _)
                have b1_1 : Hid (At (w2.heap.size) 1 (.slice sp71 sl71 sc71) v3) := by rw [hv3]; exact At.ext (At.n0 (by rfl)) (Ext.refl _)
                have k1 : Hid (Bx 2 (w2.heap.size) v3) := by rw [hv3]; exact Bx.gr (Bx.n0 2 ⟨rfl, by decide⟩ (by decide) noI_s2) (Ext.gr (Ext.refl _))
                have u1 : Hid (w2.heap.size < v3.heap.size) := b1_0.out.2
                have e3_ : Ext W6 v3 := Ext.trans e2_ y3
                rw [← hv3]
                clear hv3
                exact ⟨⟨i3 + 1, by first | rfl | go_num, LT.out, e3_⟩, by simp [intOf]; have := LT.out; omega⟩
              · have HE : Hid (((errI s.data.toList : Nat) : Int) = (c : Int)) := by show _ = _; rw [k4]
                have HQ : Hid (readI s.data.toList = 0) := readI_none (by rw [k4]; exact hc)
                have hc0 : (c : Int) ≠ 0 := by omega
                have hcb : ((c : Int) != 0) = true := by simpa using hc0
                have hcd : ((c : Int) == 0) = false := by simpa using hc0
                have hcc : ((c : Int) != (c : Int)) = false := by simp
                clear k4 hc
                go_wp2_with fail
                obtain ⟨v1, hv1⟩ : ∃ W, W = (wr3.alloc (.cells #[.string s, .int .i64 (c : Int)] 40)) := ⟨_, rfl⟩
                have y1 : Ext wr3 v1 := by rw [hv1]; exact ((Ext.refl _).alloc _)
                have b0_0 : Hid (At (wr3.heap.size) 0 (.string s) v1) := by rw [hv1]; exact At.ext (At.n0 (by rfl)) (Ext.refl _)
                have b0_1 : Hid (At (wr3.heap.size) 1 (.int .i64 (c : Int)) v1) := by rw [hv1]; exact At.ext (At.n0 (by rfl)) (Ext.refl _)
                have u0 : Hid (wr3.heap.size < v1.heap.size) := b0_0.out.2
                have e1_ : Ext W6 v1 := Ext.trans XX.out y1
                rw [← hv1]
                clear hv1
                refine (read_is s _ HSZ.out (c : Int) 0 HE.out HQ.out).mono ?_
                rintro e w2 ⟨sb71, sv71, sm71, rfl, e71, x2⟩
                have e2_ : Ext W6 w2 := Ext.trans e1_ x2
                obtain ⟨sp71, sl71, sc71, rfl⟩ := e71.slice
                have g0_1 := (b0_1.out.ext x2).1
                have f0 : wr3.heap.size < w2.heap.size := (b0_0.out.ext x2).2
                have ff0 : wr3.heap.size < w2.heap.size + 1 := by omega
                go_wp2_with fail
                obtain ⟨v3, hv3⟩ : ∃ W, W = (w2.alloc (.cells #[.bool sb71, .slice sp71 sl71 sc71] 26)) := ⟨_, rfl⟩
                have y3 : Ext w2 v3 := by rw [hv3]; exact ((Ext.refl _).alloc _)
                have b1_0 : Hid (At (w2.heap.size) 0 (.bool sb71) v3) := by rw [hv3]; exact At.ext (At.n0 (by rfl)) (Ext.refl _)
                have b1_1 : Hid (At (w2.heap.size) 1 (.slice sp71 sl71 sc71) v3) := by rw [hv3]; exact At.ext (At.n0 (by rfl)) (Ext.refl _)
                have k1 : Hid (Bx 2 (w2.heap.size) v3) := by rw [hv3]; exact Bx.gr (Bx.n0 2 ⟨rfl, by decide⟩ (by decide) noI_s2) (Ext.gr (Ext.refl _))
                have u1 : Hid (w2.heap.size < v3.heap.size) := b1_0.out.2
                have e3_ : Ext W6 v3 := Ext.trans e2_ y3
                rw [← hv3]
                clear hv3
                refine (rsame_is (e71.ext y3) (zero_is _) true (decide_eq_true (show (0 : Int) = 0 from rfl))).mono ?_
                rintro e w4 ⟨rfl, x4⟩
                have e4_ : Ext W6 w4 := Ext.trans e3_ x4
                clear g0_1 f0 ff0
                go_wp2_with fail
                exact ⟨⟨i3 + 1, by first | rfl | go_num, LT.out, e4_⟩, by simp [intOf]; have := LT.out; omega⟩
            · have t3 : (12 : Int) ≤ (i3 : Int) := by omega
              have E5 := Lib.hid (EW.out.trans XX.out)
              clear hi hi2 TB EW XX
              go_wp2_with fail
              refine (of_is _ 1 (by decide) (by decide)).mono ?_
              rintro e w1 ⟨sb81, sv81, sm81, rfl, e81, x1⟩
              have e1_ : Ext wr3 w1 := Ext.trans (Ext.refl wr3) x1
              obtain ⟨sp81, sl81, sc81, rfl⟩ := e81.slice
              go_wp2_with fail
              obtain ⟨v2, hv2⟩ : ∃ W, W = (w1.alloc (.cells #[.int .u64 0] 28)) := ⟨_, rfl⟩
              have y2 : Ext w1 v2 := by rw [hv2]; exact ((Ext.refl _).alloc _)
              have r0 : Hid (Limbs v2 (.slice (some ⟨w1.heap.size, 0, none⟩) 1 1) [0]) := by rw [hv2]; exact (lit_n0 [0] (by decide) rfl 1 rfl (by decide)).ext (Ext.refl _)
              have e2_ : Ext wr3 v2 := Ext.trans e1_ y2
              rw [← hv2]
              clear hv2
              refine (divz_is ((e81.ext y2).inI (k := 1) (LenI.small (by have h1 : (-9223372036854775808 : Int) ≤ 1 := (by decide); have h2 : 1 ≤ (9223372036854775807 : Int) := (by decide); omega))) (inI_mk (lit_in r0.out) true) (by decide) (by decide) (by decide)).mono ?_
              rintro e w3 ⟨su82, sm82, su82_, sm82_, rfl, e82q, e82r, x3⟩
              have e3_ : Ext wr3 w3 := Ext.trans e2_ x3
              obtain ⟨sp82q, sl82q, sc82q, rfl⟩ := e82q.slice
              obtain ⟨sp82r, sl82r, sc82r, rfl⟩ := e82r.slice
              go_wp2_with fail
              obtain ⟨v4, hv4⟩ : ∃ W, W = ((w3.alloc (.cells #[.bool false, .slice sp82q sl82q sc82q] 26)).alloc (.cells #[.bool false, .slice sp82r sl82r sc82r] 26)) := ⟨_, rfl⟩
              have y4 : Ext w3 v4 := by rw [hv4]; exact (((Ext.refl _).alloc _).alloc _)
              have b1_0 : Hid (At (w3.heap.size) 0 (.bool false) v4) := by rw [hv4]; exact At.ext (At.n0 (by rfl)) ((Ext.refl _).alloc _)
              have b1_1 : Hid (At (w3.heap.size) 1 (.slice sp82q sl82q sc82q) v4) := by rw [hv4]; exact At.ext (At.n0 (by rfl)) ((Ext.refl _).alloc _)
              have k1 : Hid (Bx 2 (w3.heap.size) v4) := by rw [hv4]; exact Bx.gr (Bx.n0 2 ⟨rfl, by decide⟩ (by decide) noI_s2) (Ext.gr ((Ext.refl _).alloc _))
              have u1 : Hid (w3.heap.size < v4.heap.size) := b1_0.out.2
              have b2_0 : Hid (At (w3.heap.size + 1) 0 (.bool false) v4) := by rw [hv4]; exact At.ext (At.n1 (by rfl)) (Ext.refl _)
              have b2_1 : Hid (At (w3.heap.size + 1) 1 (.slice sp82r sl82r sc82r) v4) := by rw [hv4]; exact At.ext (At.n1 (by rfl)) (Ext.refl _)
              have k2 : Hid (Bx 2 (w3.heap.size + 1) v4) := by rw [hv4]; exact Bx.gr (Bx.n1 2 ⟨rfl, by decide⟩ (by decide) noI_s2) (Ext.gr (Ext.refl _))
              have u2 : Hid (w3.heap.size + 1 < v4.heap.size) := b2_0.out.2
              have e4_ : Ext wr3 v4 := Ext.trans e3_ y4
              rw [← hv4]
              clear hv4
              refine (may_is (zero_is _)).mono ?_
              rintro e w5 ⟨rfl, x5⟩
              have e5_ : Ext wr3 w5 := Ext.trans e4_ x5
              go_wp2_with fail
              refine (may_raw (Limbs.nil _) true false (by decide)).mono ?_
              rintro e w6 ⟨rfl, x6⟩
              have e6_ : Ext wr3 w6 := Ext.trans e5_ x6
              go_wp2_with fail
              obtain ⟨v7, hv7⟩ : ∃ W, W = (w6.alloc (.cells #[.int .u64 0] 28)) := ⟨_, rfl⟩
              have y7 : Ext w6 v7 := by rw [hv7]; exact ((Ext.refl _).alloc _)
              have r3 : Hid (Limbs v7 (.slice (some ⟨w6.heap.size, 0, none⟩) 1 1) [0]) := by rw [hv7]; exact (lit_n0 [0] (by decide) rfl 1 rfl (by decide)).ext (Ext.refl _)
              have e7_ : Ext wr3 v7 := Ext.trans e6_ y7
              rw [← hv7]
              clear hv7
              refine (may_raw r3.out false false (by decide)).mono ?_
              rintro e w8 ⟨rfl, x8⟩
              have e8_ : Ext wr3 w8 := Ext.trans e7_ x8
              go_wp2_with fail
              obtain ⟨v9, hv9⟩ : ∃ W, W = (w8.alloc (.cells #[.int .u64 1, .int .u64 0] 28)) := ⟨_, rfl⟩
              have y9 : Ext w8 v9 := by rw [hv9]; exact ((Ext.refl _).alloc _)
              have r4 : Hid (Limbs v9 (.slice (some ⟨w8.heap.size, 0, none⟩) 2 2) [1, 0]) := by rw [hv9]; exact (lit_n0 [1, 0] (by decide) rfl 2 rfl (by decide)).ext (Ext.refl _)
              have e9_ : Ext wr3 v9 := Ext.trans e8_ y9
              rw [← hv9]
              clear hv9
              refine (may_raw r4.out false false (by decide)).mono ?_
              rintro e w10 ⟨rfl, x10⟩
              have e10_ : Ext wr3 w10 := Ext.trans e9_ x10
              go_wp2_with fail
              obtain ⟨v11, hv11⟩ : ∃ W, W = (w10.alloc (.cells #[.int .u64 0, .int .u64 1] 28)) := ⟨_, rfl⟩
              have y11 : Ext w10 v11 := by rw [hv11]; exact ((Ext.refl _).alloc _)
              have r5 : Hid (Limbs v11 (.slice (some ⟨w10.heap.size, 0, none⟩) 2 2) [0, 1]) := by rw [hv11]; exact (lit_n0 [0, 1] (by decide) rfl 2 rfl (by decide)).ext (Ext.refl _)
              have e11_ : Ext wr3 v11 := Ext.trans e10_ y11
              rw [← hv11]
              clear hv11
              refine (make_is (show InI _ true _ 2 (-18446744073709551616) from ⟨[0, 1], r5.out, by rw [iv_lit2, Bs_def]; decide, by simp⟩) (by decide)).mono ?_
              rintro e w12 ⟨sb87, sv87, sm87, rfl, e87, x12⟩
              have e12_ : Ext wr3 w12 := Ext.trans e11_ x12
              obtain ⟨sp87, sl87, sc87, rfl⟩ := e87.slice
              go_wp2_with fail
              refine (show_is (e87.inI (k := 2) big_len) (by decide) ⟨#[45, 49, 56, 52, 52, 54, 55, 52, 52, 48, 55, 51, 55, 48, 57, 53, 53, 49, 54, 49, 54]⟩ show_big (by rw [show_big2]; decide)).mono ?_
              rintro e w13 ⟨rfl, x13⟩
              have e13_ : Ext wr3 w13 := Ext.trans e12_ x13
              go_wp2_with fail
              obtain ⟨v14, hv14⟩ : ∃ W, W = (w13.alloc (.cells #[.int .u64 0] 28)) := ⟨_, rfl⟩
              have y14 : Ext w13 v14 := by rw [hv14]; exact ((Ext.refl _).alloc _)
              have r6 : Hid (Limbs v14 (.slice (some ⟨w13.heap.size, 0, none⟩) 1 1) [0]) := by rw [hv14]; exact (lit_n0 [0] (by decide) rfl 1 rfl (by decide)).ext (Ext.refl _)
              have e14_ : Ext wr3 v14 := Ext.trans e13_ y14
              rw [← hv14]
              clear hv14
              refine (show_is (inI_mk (lit_in r6.out) true) (by decide) ⟨#[48]⟩ show_zero (by rw [show_zero2]; decide)).mono ?_
              rintro e w15 ⟨rfl, x15⟩
              have e15_ : Ext wr3 w15 := Ext.trans e14_ x15
              go_wp2_with fail
              obtain ⟨v16, hv16⟩ : ∃ W, W = (w15.alloc (.cells #[.int .u64 0] 28)) := ⟨_, rfl⟩
              have y16 : Ext w15 v16 := by rw [hv16]; exact ((Ext.refl _).alloc _)
              have r7 : Hid (Limbs v16 (.slice (some ⟨w15.heap.size, 0, none⟩) 1 1) [0]) := by rw [hv16]; exact (lit_n0 [0] (by decide) rfl 1 rfl (by decide)).ext (Ext.refl _)
              have e16_ : Ext wr3 v16 := Ext.trans e15_ y16
              rw [← hv16]
              clear hv16
              refine (sign_is (inI_mk (lit_in r7.out) true) (by decide) 0 rfl).mono ?_
              rintro e w17 ⟨rfl, x17⟩
              have e17_ : Ext wr3 w17 := Ext.trans e16_ x17
              go_wp2_with fail
              go_ret
              exact ⟨rfl, E5.out.trans e17_⟩

end Go.Proofs.YtefeglkbikcjeaaDoor
