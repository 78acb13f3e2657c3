/- The reference of chapter 13: May, risen, Row. -/
import Derived.Test.YtefeglkbikcjeaaPartJ
namespace Go.Proofs.Ytefeglkbikcjeaa
open Go Go.RowKit

set_option maxRecDepth 100000 in
theorem rmay13_calls (w : World) (k n : Int) (b : Bool) (hb : decide (mayP k n) = b) :
    Calls Try.prog 8 #[.int .i64 k, .int .i64 n] w fun e w' => e = .returned (.bool b) ∧ Ext w w' := by
  have hn : n < 0 ∨ (0 ≤ n ∧ 64 < n) ∨ (0 ≤ n ∧ n ≤ 64 ∧ k < 0) ∨ (0 ≤ n ∧ n ≤ 64 ∧ 0 ≤ k ∧ n < k) ∨ (0 ≤ n ∧ n ≤ 64 ∧ 0 ≤ k ∧ k ≤ n) := by omega
  have HB := Lib.hid hb
  clear hb
  rcases hn with h | ⟨h, h'⟩ | ⟨h, h', h''⟩ | ⟨h, h', h'', h3⟩ | ⟨h, h', h'', h3⟩
  · have HE : Hid (b = false) := by show _ = _; rw [← HB.out, decide_eq_false_iff_not]; unfold mayP; omega
    clear HB
    go_enter Try.func8, Try.ntmps8
    go_wp2_with fail
    go_ret
    exact ⟨ret_eq (by rw [HE.out]; rfl), Ext.refl _⟩
  · have HE : Hid (b = false) := by show _ = _; rw [← HB.out, decide_eq_false_iff_not]; unfold mayP; omega
    clear HB
    go_enter Try.func8, Try.ntmps8
    go_wp2_with fail
    go_ret
    exact ⟨ret_eq (by rw [HE.out]; rfl), Ext.refl _⟩
  · have HE : Hid (b = false) := by show _ = _; rw [← HB.out, decide_eq_false_iff_not]; unfold mayP; omega
    clear HB
    go_enter Try.func8, Try.ntmps8
    go_wp2_with fail
    go_ret
    exact ⟨ret_eq (by rw [HE.out]; rfl), Ext.refl _⟩
  · have HE : Hid (b = false) := by show _ = _; rw [← HB.out, decide_eq_false_iff_not]; unfold mayP; omega
    clear HB
    go_enter Try.func8, Try.ntmps8
    go_wp2_with fail
    go_ret
    exact ⟨ret_eq (by rw [HE.out]; first | rfl | (simp; omega) | simp), Ext.refl _⟩
  · have HE : Hid (b = true) := by show _ = _; rw [← HB.out, decide_eq_true_eq]; unfold mayP; omega
    clear HB
    go_enter Try.func8, Try.ntmps8
    go_wp2_with fail
    go_ret
    exact ⟨ret_eq (by rw [HE.out]; first | rfl | (simp; omega) | simp), Ext.refl _⟩


theorem risen_step {L : List Int} {i m : Nat} (hm : m < L.length) (hn : L.Nodup) : (if (i : Int) ∈ L.take (m + 1) then [(i : Int)] else []) = (if (i : Int) ∈ L.take m then [(i : Int)] else []) ++ (if L.getD m 0 = (i : Int) then [(i : Int)] else []) := by
  rw [getD_in hm, List.take_succ_eq_append_getElem hm]
  simp only [List.mem_append, List.mem_singleton]
  by_cases e : L[m] = (i : Int)
  · have h1 : (i : Int) ∉ L.take m := by
      intro h
      obtain ⟨q, hq, e2⟩ := List.getElem_of_mem h
      rw [List.length_take] at hq
      rw [List.getElem_take] at e2
      have := List.pairwise_iff_getElem.1 hn q m (by omega) hm (by omega)
      exact this (by rw [e2, e])
    rw [if_pos (.inr e.symm), if_neg h1, if_pos e]; rfl
  · have h2 : ((i : Int) ∈ L.take m ∨ (i : Int) = L[m]) ↔ (i : Int) ∈ L.take m := ⟨fun h => h.elim id fun h => absurd h.symm e, .inl⟩
    rw [if_neg e, List.append_nil]
    simp only [h2]

end Go.Proofs.Ytefeglkbikcjeaa
