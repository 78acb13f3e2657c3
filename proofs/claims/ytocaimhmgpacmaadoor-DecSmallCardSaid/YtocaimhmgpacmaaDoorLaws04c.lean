/- The laws on decimal digits, third part: DecRefuses, DecSmall, DecReads. -/
import Derived.Test.YtocaimhmgpacmaaDoorLaws04b
namespace Go.Proofs.YtocaimhmgpacmaaDoor
open Go Go.RowKit

/-- what DecRefuses asks of a text's first byte -/
def good0 (l : List UInt8) : Bool := decide (0 < l.length) && (decide (bn l 0 ≠ 48) || decide (l.length = 1))
def goodTo (l : List UInt8) (i : Nat) : Bool := good0 l && (l.take i).all okd
theorem goodTo_zero (l : List UInt8) : goodTo l 0 = good0 l := by simp [goodTo]
theorem goodTo_succ {l : List UInt8} {i : Nat} (h : i < l.length) : goodTo l (i + 1) = (goodTo l i && (decide (48 ≤ bn l i) && decide (bn l i ≤ 57))) := by
  rw [goodTo, goodTo, List.take_succ_eq_append_getElem h, List.all_append, List.all_cons, List.all_nil, okd_bn h, Bool.and_true, Bool.and_assoc]
theorem goodTo_all {l : List UInt8} (h : l.length ≤ 20000) : goodTo l l.length = decide (errR l = 0) := by
  rw [Bool.eq_iff_iff]
  simp only [goodTo, good0, List.take_length, Bool.and_eq_true, Bool.or_eq_true, decide_eq_true_eq]
  constructor
  · rintro ⟨⟨h1, h2⟩, h3⟩
    refine errR_ok h3 h1 h (fun e => ?_)
    rcases h2 with h2 | h2
    · exact absurd e h2
    · omega
  · intro e
    obtain ⟨h1, h2, h3, h4⟩ := errR_parts e
    refine ⟨⟨List.length_pos_iff.2 h1, ?_⟩, h2⟩
    by_cases hb : bn l 0 = 48
    · right
      have := h3 ((bn_head (List.length_pos_iff.2 h1)).1 hb)
      have := List.length_pos_iff.2 h1
      omega
    · exact .inl hb
theorem errR_four (l : List UInt8) : errR l = 4 ↔ l = [] := by
  unfold errR
  split
  · rename_i h; simp [h]
  · rename_i h
    split
    · simp [h]
    · split
      · simp [h]
      · split <;> simp [h]

set_option maxHeartbeats 2000000 in
set_option maxRecDepth 100000 in
theorem decRefuses_calls (s : ByteArray) (hsz : s.size ≤ maxLen) (w : World) : Calls Tryd.prog 9 #[.string s] w (Yes w) := by
  have hsm := hsz
  unfold maxLen at hsz
  by_cases h500 : 500 < s.size
  · go_enter Tryd.func9, Tryd.ntmps9
    go_wp2_with fail
    refine (awake_calls _).mono ?_
    rintro e w1 ⟨rfl, x1⟩
    go_wp2_with fail
    go_ret
    exact ⟨rfl, x1⟩
  obtain ⟨l, hl⟩ : ∃ l, l = s.data.toList := ⟨_, rfl⟩
  have hlen : s.size = l.length := by rw [hl]; exact Lib.size_eq s
  have hget : ∀ i (h : i < s.size), ((s[i]'h).toNat : Int) = (bn l i : Int) := fun i h => by rw [hl]; exact bn_get s i h
  obtain ⟨k, hk⟩ : ∃ k : Int, ((errR s.data.toList : Nat) : Int) = k := ⟨_, rfl⟩
  have HK := Lib.hid hk
  have HA : Hid (goodTo l s.size = (k == 0)) := by
    show _ = _
    rw [hlen, goodTo_all (by omega), ← hk, ← hl, Bool.eq_iff_iff]
    simp only [decide_eq_true_eq, beq_iff_eq]; omega
  have HZ : Hid ((k == 4) = ((s.size : Int) == 0)) := by
    show _ = _
    rw [← hk, ← hl, Bool.eq_iff_iff, beq_iff_eq, beq_iff_eq, hlen]
    have := errR_four l
    rw [← List.length_eq_zero_iff] at this
    omega
  have HG : Hid (good0 l = goodTo l 0) := (goodTo_zero l).symm
  have HS : Hid (∀ i, i < s.size → goodTo l (i + 1) = (goodTo l i && (decide (48 ≤ bn l i) && decide (bn l i ≤ 57)))) := fun i h => goodTo_succ (by rw [← hlen]; exact h)
  -- the first byte
  have H0 : Hid (good0 l = (decide (0 < s.size) && (decide (bn l 0 ≠ 48) || decide (s.size = 1)))) := by show _ = _; rw [hlen]; rfl
  have hSM := Lib.hid hsm
  clear hlen hl hk hsm
  have hsplit : s.size = 0 ∨ (0 < s.size ∧ ¬ bn l 0 = 48) ∨ (0 < s.size ∧ bn l 0 = 48 ∧ s.size = 1) ∨ (0 < s.size ∧ bn l 0 = 48 ∧ ¬ s.size = 1) := by omega
  have hb0 : s.size = 0 → goodTo l 0 = false := by intro h; rw [← HG.out, H0.out, h]; rfl
  have hb1 : (0 < s.size ∧ ¬ bn l 0 = 48) → goodTo l 0 = true := by rintro ⟨h, h'⟩; rw [← HG.out, H0.out]; simp [h, h']
  have hb2 : (0 < s.size ∧ bn l 0 = 48 ∧ s.size = 1) → goodTo l 0 = true := by rintro ⟨h, h', h''⟩; rw [← HG.out, H0.out]; simp [h'']
  have hb3 : (0 < s.size ∧ bn l 0 = 48 ∧ ¬ s.size = 1) → goodTo l 0 = false := by rintro ⟨h, h', h''⟩; rw [← HG.out, H0.out]; simp [h', h'']
  have B0 := Lib.hid hb0
  have B1 := Lib.hid hb1
  have B2 := Lib.hid hb2
  have B3 := Lib.hid hb3
  clear hb0 hb1 hb2 hb3
  rcases hsplit with h | h | h | h
  · have HB := Lib.hid (B0.out h)
    have h1 : s.size ≤ 0 := by omega
    clear h
    go_enter Tryd.func9, Tryd.ntmps9
    go_wp2_with fail
    refine (awake_calls _).mono ?_
    rintro e w1 ⟨rfl, x1⟩
    go_wp2_with fail
    go_loop [3, 4] (fun v3 v4 => ∃ (i : Nat) (b : Bool), v3 = .bool b ∧ v4 = .int .i64 (i : Int) ∧ i ≤ s.size ∧ Hid (goodTo l i = b)) (fun _ v4 => s.size - (intOf v4).toNat)
    case atStart => exact ⟨0, _, rfl, rfl, Nat.zero_le _, HB⟩
    case round =>
      obtain ⟨i, b, rfl, rfl, hi, hB⟩ := hrel
      by_cases his : i < s.size
      · exfalso; omega
      · obtain rfl : i = s.size := by omega
        have hkb : (k == 0) = b := by rw [← HA.out]; exact hB.out
        have hz4 := HZ.out
        clear hget
        go_wp2_with fail
        refine (read_str s _ hSM.out k _ HK.out rfl).mono ?_
        rintro e w6 ⟨d, rfl, hd, x6⟩
        go_wp2_with fail
        go_ret
        exact ⟨rfl, x1.trans x6⟩
  · have HB := Lib.hid (B1.out h)
    obtain ⟨h1, h2⟩ := h
    have h3 : ((bn l 0 : Int) != 48) = true := by rw [bne_iff_ne]; omega
    go_enter Tryd.func9, Tryd.ntmps9
    go_wp2_with fail
    refine (awake_calls _).mono ?_
    rintro e w1 ⟨rfl, x1⟩
    go_wp2_with fail
    clear h1 h2 h3
    go_loop [3, 4] (fun v3 v4 => ∃ (i : Nat) (b : Bool), v3 = .bool b ∧ v4 = .int .i64 (i : Int) ∧ i ≤ s.size ∧ Hid (goodTo l i = b)) (fun _ v4 => s.size - (intOf v4).toNat)
    case atStart => exact ⟨0, _, rfl, rfl, Nat.zero_le _, HB⟩
    case round =>
      obtain ⟨i, b, rfl, rfl, hi, hB⟩ := hrel
      by_cases his : i < s.size
      · have hs1 := Lib.hid (HS.out i his)
        cases b with
        | false =>
          have HN : Hid (goodTo l (i + 1) = false) := by show _ = _; rw [hs1.out, hB.out]; rfl
          go_wp2_with fail
          exact ⟨⟨i + 1, false, rfl, by go_num, by omega, HN⟩, by simp [intOf]; omega⟩
        | true =>
          by_cases c1 : 48 ≤ bn l i
          · by_cases c2 : bn l i ≤ 57
            · have HN : Hid (goodTo l (i + 1) = true) := by show _ = _; rw [hs1.out, hB.out]; simp [c1, c2]
              have c3 : decide ((bn l i : Int) ≤ 57) = true := by simp; omega
              go_wp2_with fail
              exact ⟨⟨i + 1, true, rfl, by go_num, by omega, HN⟩, by simp [intOf]; omega⟩
            · have HN : Hid (goodTo l (i + 1) = false) := by show _ = _; rw [hs1.out, hB.out]; simp [c2]
              have c3 : decide ((bn l i : Int) ≤ 57) = false := by simp; omega
              go_wp2_with fail
              exact ⟨⟨i + 1, false, rfl, by go_num, by omega, HN⟩, by simp [intOf]; omega⟩
          · have HN : Hid (goodTo l (i + 1) = false) := by show _ = _; rw [hs1.out, hB.out]; simp [c1]
            go_wp2_with fail
            exact ⟨⟨i + 1, false, rfl, by go_num, by omega, HN⟩, by simp [intOf]; omega⟩
      · obtain rfl : i = s.size := by omega
        have hkb : (k == 0) = b := by rw [← HA.out]; exact hB.out
        have hz4 := HZ.out
        clear hget
        go_wp2_with fail
        refine (read_str s _ hSM.out k _ HK.out rfl).mono ?_
        rintro e w6 ⟨d, rfl, hd, x6⟩
        go_wp2_with fail
        go_ret
        exact ⟨rfl, x1.trans x6⟩
  · have HB := Lib.hid (B2.out h)
    obtain ⟨h1, h2, h4⟩ := h
    have h3 : ((bn l 0 : Int) != 48) = false := by rw [bne_eq_false_iff_eq]; omega
    have h5 : ((s.size : Int) == 1) = true := by rw [beq_iff_eq]; omega
    clear h4 h2
    go_enter Tryd.func9, Tryd.ntmps9
    go_wp2_with fail
    refine (awake_calls _).mono ?_
    rintro e w1 ⟨rfl, x1⟩
    go_wp2_with fail
    clear h1 h3 h5
    go_loop [3, 4] (fun v3 v4 => ∃ (i : Nat) (b : Bool), v3 = .bool b ∧ v4 = .int .i64 (i : Int) ∧ i ≤ s.size ∧ Hid (goodTo l i = b)) (fun _ v4 => s.size - (intOf v4).toNat)
    case atStart => exact ⟨0, _, rfl, rfl, Nat.zero_le _, HB⟩
    case round =>
      obtain ⟨i, b, rfl, rfl, hi, hB⟩ := hrel
      by_cases his : i < s.size
      · have hs1 := Lib.hid (HS.out i his)
        cases b with
        | false =>
          have HN : Hid (goodTo l (i + 1) = false) := by show _ = _; rw [hs1.out, hB.out]; rfl
          go_wp2_with fail
          exact ⟨⟨i + 1, false, rfl, by go_num, by omega, HN⟩, by simp [intOf]; omega⟩
        | true =>
          by_cases c1 : 48 ≤ bn l i
          · by_cases c2 : bn l i ≤ 57
            · have HN : Hid (goodTo l (i + 1) = true) := by show _ = _; rw [hs1.out, hB.out]; simp [c1, c2]
              have c3 : decide ((bn l i : Int) ≤ 57) = true := by simp; omega
              go_wp2_with fail
              exact ⟨⟨i + 1, true, rfl, by go_num, by omega, HN⟩, by simp [intOf]; omega⟩
            · have HN : Hid (goodTo l (i + 1) = false) := by show _ = _; rw [hs1.out, hB.out]; simp [c2]
              have c3 : decide ((bn l i : Int) ≤ 57) = false := by simp; omega
              go_wp2_with fail
              exact ⟨⟨i + 1, false, rfl, by go_num, by omega, HN⟩, by simp [intOf]; omega⟩
          · have HN : Hid (goodTo l (i + 1) = false) := by show _ = _; rw [hs1.out, hB.out]; simp [c1]
            go_wp2_with fail
            exact ⟨⟨i + 1, false, rfl, by go_num, by omega, HN⟩, by simp [intOf]; omega⟩
      · obtain rfl : i = s.size := by omega
        have hkb : (k == 0) = b := by rw [← HA.out]; exact hB.out
        have hz4 := HZ.out
        clear hget
        go_wp2_with fail
        refine (read_str s _ hSM.out k _ HK.out rfl).mono ?_
        rintro e w6 ⟨d, rfl, hd, x6⟩
        go_wp2_with fail
        go_ret
        exact ⟨rfl, x1.trans x6⟩
  · have HB := Lib.hid (B3.out h)
    obtain ⟨h1, h2, h4⟩ := h
    have h3 : ((bn l 0 : Int) != 48) = false := by rw [bne_eq_false_iff_eq]; omega
    have h5 : ((s.size : Int) == 1) = false := by rw [beq_eq_false_iff_ne]; omega
    clear h4 h2
    go_enter Tryd.func9, Tryd.ntmps9
    go_wp2_with fail
    refine (awake_calls _).mono ?_
    rintro e w1 ⟨rfl, x1⟩
    go_wp2_with fail
    clear h1 h3 h5
    go_loop [3, 4] (fun v3 v4 => ∃ (i : Nat) (b : Bool), v3 = .bool b ∧ v4 = .int .i64 (i : Int) ∧ i ≤ s.size ∧ Hid (goodTo l i = b)) (fun _ v4 => s.size - (intOf v4).toNat)
    case atStart => exact ⟨0, _, rfl, rfl, Nat.zero_le _, HB⟩
    case round =>
      obtain ⟨i, b, rfl, rfl, hi, hB⟩ := hrel
      by_cases his : i < s.size
      · have hs1 := Lib.hid (HS.out i his)
        cases b with
        | false =>
          have HN : Hid (goodTo l (i + 1) = false) := by show _ = _; rw [hs1.out, hB.out]; rfl
          go_wp2_with fail
          exact ⟨⟨i + 1, false, rfl, by go_num, by omega, HN⟩, by simp [intOf]; omega⟩
        | true =>
          by_cases c1 : 48 ≤ bn l i
          · by_cases c2 : bn l i ≤ 57
            · have HN : Hid (goodTo l (i + 1) = true) := by show _ = _; rw [hs1.out, hB.out]; simp [c1, c2]
              have c3 : decide ((bn l i : Int) ≤ 57) = true := by simp; omega
              go_wp2_with fail
              exact ⟨⟨i + 1, true, rfl, by go_num, by omega, HN⟩, by simp [intOf]; omega⟩
            · have HN : Hid (goodTo l (i + 1) = false) := by show _ = _; rw [hs1.out, hB.out]; simp [c2]
              have c3 : decide ((bn l i : Int) ≤ 57) = false := by simp; omega
              go_wp2_with fail
              exact ⟨⟨i + 1, false, rfl, by go_num, by omega, HN⟩, by simp [intOf]; omega⟩
          · have HN : Hid (goodTo l (i + 1) = false) := by show _ = _; rw [hs1.out, hB.out]; simp [c1]
            go_wp2_with fail
            exact ⟨⟨i + 1, false, rfl, by go_num, by omega, HN⟩, by simp [intOf]; omega⟩
      · obtain rfl : i = s.size := by omega
        have hkb : (k == 0) = b := by rw [← HA.out]; exact hB.out
        have hz4 := HZ.out
        clear hget
        go_wp2_with fail
        refine (read_str s _ hSM.out k _ HK.out rfl).mono ?_
        rintro e w6 ⟨d, rfl, hd, x6⟩
        go_wp2_with fail
        go_ret
        exact ⟨rfl, x1.trans x6⟩
end Go.Proofs.YtocaimhmgpacmaaDoor
