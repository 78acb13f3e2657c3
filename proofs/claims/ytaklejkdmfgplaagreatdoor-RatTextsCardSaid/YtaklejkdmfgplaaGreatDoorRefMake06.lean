/- The contracts of tombolaref06.sign; of Gcd, Div, Trim by numbers. -/
import Derived.Test.YtaklejkdmfgplaaGreatDoorRefGcd06b
namespace Go.Proofs.YtaklejkdmfgplaaGreatDoor
open Go Go.RowKit

set_option maxHeartbeats 1000000 in
set_option maxRecDepth 100000 in
theorem refsign06 {w : World} {v : Value} {A : List Nat} (hA : Limbs w v A) (hl : A.length ≤ 65536) (neg : Bool) :
    Calls Tryz.prog 71 #[.bool neg, v] w (RetI w (iv neg A)) := by
  have HE : Hid (decide (iv neg A < 0) = (neg && !decide (val A = 0))) := iv_neg neg A
  have HB : Hid ((iv neg A).natAbs = val A) := iv_abs neg A
  have HL := Lib.hid hl
  have y0 := (Ext.refl w).alloc (.cells #[.bool false, .slice none 0 0] 25)
  obtain ⟨l, hlen⟩ : ∃ l, (dig (val A)).length = l := ⟨_, rfl⟩
  have HLN := Lib.hid hlen
  clear hl hlen
  cases neg with
  | false =>
    go_enter Tryz.func71, Tryz.ntmps71
    go_wp2_with fail
    refine (reftrim_calls (hA.ext y0) HL.out).mono ?_
    rintro e w1 ⟨r, rfl, hr, x1⟩
    obtain ⟨c1, c2, c3, c4⟩ := box2 x1
    obtain ⟨ra, rc, rfl⟩ := hr.sh
    go_wp2_with fail
    refine bodyPost_ret (v := .agg #[.bool false, .slice ra (dig (val A)).length rc]) (by simp [results, Tryz.results71, go_sem, c1, c2]) rfl ⟨_, by rw [HE.out]; rfl, ?_, ?_⟩
    · rw [HB.out]; exact (hr.set2 (by simp) _ _).mono (by simp)
    · exact ext_box2 (y0.trans x1) (Nat.le_refl _) _ _
  | true =>
    by_cases h0 : val A = 0
    · have l0 : l = 0 := by rw [← HLN.out]; exact dig_len_pos.2 h0
      have HE2 : Hid (decide (iv true A < 0) = false) := by show _ = _; rw [HE.out, h0]; rfl
      subst l0
      clear h0
      go_enter Tryz.func71, Tryz.ntmps71
      go_wp2_with fail
      refine (reftrim_calls (hA.ext y0) HL.out).mono ?_
      rintro e w1 ⟨r, rfl, hr, x1⟩
      obtain ⟨c1, c2, c3, c4⟩ := box2 x1
      obtain ⟨ra, rc, rfl⟩ := hr.sh
      rw [HLN.out] at hr ⊢
      go_wp2_with fail
      refine bodyPost_ret (v := .agg #[.bool false, .slice ra 0 rc]) (by simp [results, Tryz.results71, go_sem, c1, c2]) rfl ⟨_, by rw [HE2.out], ?_, ?_⟩
      · rw [HB.out]; exact (hr.set2 (by simp) _ _).mono (by simp)
      · exact ext_box2 (y0.trans x1) (Nat.le_refl _) _ _
    · have l1 : (1 : Int) ≤ l := by have : l ≠ 0 := fun e => h0 (dig_len_pos.1 (by rw [HLN.out, e])); omega
      have l1' : 0 < l := by omega
      have HE2 : Hid (decide (iv true A < 0) = true) := by show _ = _; rw [HE.out, decide_eq_false h0]; rfl
      clear h0
      go_enter Tryz.func71, Tryz.ntmps71
      go_wp2_with fail
      refine (reftrim_calls (hA.ext y0) HL.out).mono ?_
      rintro e w1 ⟨r, rfl, hr, x1⟩
      obtain ⟨c1, c2, c3, c4⟩ := box2 x1
      obtain ⟨ra, rc, rfl⟩ := hr.sh
      rw [HLN.out] at hr ⊢
      go_wp2_with fail
      refine bodyPost_ret (v := .agg #[.bool true, .slice ra l rc]) (by simp [results, Tryz.results71, go_sem, c1, c2]) rfl ⟨_, by rw [HE2.out], ?_, ?_⟩
      · rw [HB.out]; exact (hr.set2 (by simp) _ _).mono (by simp)
      · exact ext_box2 (y0.trans x1) (Nat.le_refl _) _ _
/-- by numbers -/
theorem trim06_n {w : World} {v : Value} {k n : Nat} (h : InN w v k n) (hk : k ≤ 1000) : Calls Tryz.prog 68 #[v] w (RetN w n) := by
  obtain ⟨A, h1, rfl, h3⟩ := h
  exact reftrim_calls h1 (by omega)
theorem gcd06_n {w : World} {v u : Value} {k l x y : Nat} (h : InN w v k x) (h' : InN w u l y) (hk : k ≤ 1000) (hl : l ≤ 1000) : Calls Tryz.prog 69 #[v, u] w (RetN w (Nat.gcd x y)) := by
  obtain ⟨A, h1, rfl, h3⟩ := h
  obtain ⟨B, h4, rfl, h6⟩ := h'
  exact refgcd06_calls h1 h4 1000 (by omega) (by omega) (by omega)
theorem div06_n {w : World} {v u : Value} {k l x y : Nat} (h : InN w v k x) (h' : InN w u l y) (hk : k ≤ 65000) (hl : l ≤ 65000) (hy : y ≠ 0) :
    Calls Tryz.prog 70 #[v, u] w fun e w' => ∃ v u, e = .returned (.tuple #[v, u]) ∧ OwnL w.heap.size w' v (dig (x / y)) ∧ OwnL w.heap.size w' u (dig (x % y)) ∧ Ext w w' := by
  obtain ⟨A, h1, rfl, h3⟩ := h
  obtain ⟨B, h4, rfl, h6⟩ := h'
  exact refdiv06_calls h1 h4 (by omega) (by omega) hy
theorem sign06_n {w : World} {v : Value} {k n : Nat} {z : Int} (h : InN w v k n) (b : Bool) (hk : k ≤ 65000) (hz : sgI b n = z) : Calls Tryz.prog 71 #[.bool b, v] w (RetZ w z) := by
  obtain ⟨A, h1, rfl, h3⟩ := h
  subst hz
  exact (refsign06 h1 (by omega) b).mono fun _ _ h => h.z
theorem len_nz {B : Nat} {w : World} {p : Option Addr} {l c n : Nat} (h : OwnL B w (.slice p l c) (dig n)) (hn : n ≠ 0) : ((l : Int) == 0) = false := by
  obtain ⟨p', c', e⟩ := h.sh
  injection e with _ e _
  rw [beq_eq_false_iff_ne]
  intro h0
  have : l = 0 := by omega
  exact hn (dig_len_pos.1 (by rw [← e, this]))
theorem len_z {B : Nat} {w : World} {p : Option Addr} {l c n : Nat} (h : OwnL B w (.slice p l c) (dig n)) (hn : n = 0) : l = 0 := by
  obtain ⟨p', c', e⟩ := h.sh
  injection e with _ e _
  rw [e, hn]; exact dig_len_pos.2 rfl
end Go.Proofs.YtaklejkdmfgplaaGreatDoor
