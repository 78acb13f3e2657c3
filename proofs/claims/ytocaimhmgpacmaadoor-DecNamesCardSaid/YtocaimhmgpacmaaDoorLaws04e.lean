/- The laws on decimal digits, fifth part: DecReads. -/
import Derived.Test.YtocaimhmgpacmaaDoorLaws04d
namespace Go.Proofs.YtocaimhmgpacmaaDoor
open Go Go.RowKit

/-- what one may do with a slice of the call's own -/
theorem OwnL.open {B : Nat} {w : World} {v : Value} {A : List Nat} (h : OwnL B w v A) :
    ∃ a cap, v = .slice a A.length cap ∧ A.length ≤ cap ∧ cap ≤ maxLen ∧
      (0 < A.length → ∃ g, a = some ⟨g, 0, none⟩ ∧ B ≤ g ∧ g < w.heap.size ∧ ∀ j, j < A.length → w.cell? ⟨g, j, none⟩ = some (.int .u64 (el A j : Nat)) ∧ w.frozen? ⟨g, j, none⟩ = false ∧
        ∀ z, z < Bs → OwnL B (w.setCell ⟨g, j, none⟩ (.int .u64 (z : Int))) v (A.set j z)) := by
  obtain ⟨h1, h2⟩ := h
  rcases h1 with h1 | ⟨a, rfl, h3, h4, h5⟩
  · rcases h1.2 with ⟨rfl, h0⟩ | ⟨g, cap, cur, rfl, hg, hh, hc, hm, hs, ht⟩
    · exact ⟨none, 0, by rw [h0], by omega, Nat.zero_le _, fun h => by omega⟩
    · refine ⟨_, cap, rfl, hc, hm, fun _ => ⟨g, rfl, hg, (Array.getElem?_eq_some_iff.1 hh).1, fun j hj => ⟨?_, h1.frozenAt j, fun z hz => ⟨.inl ?_, fun x hx => ?_⟩⟩⟩⟩
      · rw [h1.cellAt j (by omega)]
        simp [lv, el, List.getElem?_eq_getElem hj]
      · have := (h1.stored j (.int .u64 (z : Int))).1
        rw [List.length_set, List.map_set]
        exact this
      · exact set_lt h2 hz x hx
  · have : A.length = 0 := h3
    exact ⟨a, 0, by rw [this], by omega, Nat.zero_le _, fun h => by omega⟩

theorem refread_str (s : ByteArray) (w : World) (hs : s.size ≤ maxLen) (k : Int) (n : Nat) (hk : ((errR s.data.toList : Nat) : Int) = k) (hn : readN s.data.toList = n) :
    Calls Tryd.prog 18 #[.string s] w fun e w' => ∃ v, e = .returned (.tuple #[v, .int .i64 k]) ∧ OwnL w.heap.size w' v (dig n) ∧ Ext w w' :=
  (refread_calls s w hs).mono fun _ _ ⟨v, h1, h2, h3⟩ => ⟨v, by rw [h1, hk], by rw [← hn]; exact h2, h3⟩

theorem digits_501 {l : List UInt8} (h : l.length ≤ 500) : (dig (readN l)).length ≤ 65536 := by
  by_cases hE : errR l = 0
  · have h1 := showL_lt (readN l)
    rw [show_read hE] at h1
    exact dig_lmax (Nat.lt_of_lt_of_le h1 (ten_bs _)) (by omega)
  · rw [readN, if_neg hE, dig_zero]; simp

set_option maxHeartbeats 2000000 in
set_option maxRecDepth 100000 in
theorem decReads_calls (s : ByteArray) (hsz : s.size ≤ maxLen) (w : World) : Calls Tryd.prog 4 #[.string s] w (Yes w) := by
  have hsm := Lib.hid hsz
  unfold maxLen at hsz
  by_cases h500 : 500 < s.size
  · go_enter Tryd.func4, Tryd.ntmps4
    go_wp2_with fail
    refine (awake_calls _).mono ?_
    rintro e w1 ⟨rfl, x1⟩
    go_wp2_with fail
    go_ret
    exact ⟨rfl, x1⟩
  obtain ⟨k, hk⟩ : ∃ k : Int, ((errR s.data.toList : Nat) : Int) = k := ⟨_, rfl⟩
  obtain ⟨n, hn⟩ : ∃ n, readN s.data.toList = n := ⟨_, rfl⟩
  have hdl : (dig n).length ≤ 65536 := by rw [← hn]; exact digits_501 (by rw [← Lib.size_eq]; omega)
  have HK := Lib.hid hk
  have HN := Lib.hid hn
  have hkk : (k != k) = false := by simp
  clear hk hn
  go_enter Tryd.func4, Tryd.ntmps4
  go_wp2_with fail
  refine (refread_str s _ hsm.out k n HK.out HN.out).mono ?_
  rintro e w1 ⟨want, rfl, hw, x1⟩
  go_wp2_with fail
  go_loopw [5, 6, 7, 8] (fun v5 _ _ _ wr => ∃ r : Nat, v5 = .int .i64 (r : Int) ∧ r ≤ 2 ∧ Ext w1 wr) (fun v5 _ _ _ _ => 2 - (intOf v5).toNat)
  case atStart => exact ⟨0, rfl, by omega, Ext.refl _⟩
  case round =>
    obtain ⟨r, rfl, hr, hx⟩ := hrel
    by_cases hr2 : r < 2
    · obtain ⟨wo, rfl⟩ : ∃ wo : World, wo = wr := ⟨_, rfl⟩
      go_wp2_with fail
      refine (read_str s _ hsm.out k n HK.out HN.out).mono ?_
      rintro e w2 ⟨a, rfl, ha, x2⟩
      go_wp2_with fail
      refine (same_true ha.limbs (hw.limbs.ext (hx.trans x2)) rfl).mono ?_
      rintro e w3 ⟨rfl, x3⟩
      have ha3 := ha.ext x3
      obtain ⟨ad, cap, rfl, h1, h2, -⟩ := ha3.open
      have hdb : ((dig n).length : Int) ≤ 65536 := by omega
      unfold maxLen at h2
      go_wp2_with fail
      go_loopw [8] (fun v8 wr => ∃ (i : Nat) (A : List Nat), v8 = .int .i64 (i : Int) ∧ i ≤ (dig n).length ∧ Hid (A.length = (dig n).length) ∧ OwnL wo.heap.size wr (.slice ad (dig n).length cap) A ∧ Ext wo wr) (fun v8 _ => (dig n).length - (intOf v8).toNat)
      case atStart => exact ⟨0, _, rfl, Nat.zero_le _, Lib.hid rfl, ha3, x2.trans x3⟩
      case round =>
        obtain ⟨i, A, rfl, hi, hA, hO, hxx⟩ := hrel
        by_cases hin : i < (dig n).length
        · obtain ⟨a', cap', he, k1, k2, k3⟩ := hO.open
          obtain ⟨g, rfl, hg1, hg2, hg3⟩ := k3 (by rw [hA.out]; omega)
          obtain ⟨c1, c2, c3⟩ := hg3 i (by rw [hA.out]; exact hin)
          injection he with e1 e2 e3
          subst e1
          have c4 := c3 77 (small_Bs (by decide))
          have HA2 : Hid ((A.set i 77).length = (dig n).length) := by show _ = _; rw [List.length_set]; exact hA.out
          clear hg3 c3 k3 e2 e3
          go_wp2_with fail
          exact ⟨⟨i + 1, _, by go_num, by omega, HA2, c4, Below.setCell hxx (by show wo.heap.size ≤ g; exact hg1) _⟩, by simp [intOf]; omega⟩
        · obtain rfl : i = (dig n).length := by omega
          go_wp2_with fail
          exact ⟨⟨r + 1, by go_num, by omega, hx.trans hxx⟩, by simp [intOf]; omega⟩
    · obtain rfl : r = 2 := by omega
      go_wp2_with fail
      refine (awake_calls _).mono ?_
      rintro e w5 ⟨rfl, x5⟩
      go_wp2_with fail
      go_ret
      exact ⟨rfl, (x1.trans hx).trans x5⟩
end Go.Proofs.YtocaimhmgpacmaaDoor
