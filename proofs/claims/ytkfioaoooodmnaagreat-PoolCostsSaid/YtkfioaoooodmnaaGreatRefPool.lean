/- The reference of chapter 13: May, risen, Row. -/
import Derived.Test.YtkfioaoooodmnaaGreatPartJ
namespace Go.Proofs.YtkfioaoooodmnaaGreat
open Go Go.RowKit

set_option maxRecDepth 100000 in
theorem rmay13_calls (w : World) (k n : Int) (b : Bool) (hb : decide (mayP k n) = b) :
    Calls Tryz.prog 23 #[.int .i64 k, .int .i64 n] w fun e w' => e = .returned (.bool b) ∧ Ext w w' := by
  have hn : n < 0 ∨ (0 ≤ n ∧ 64 < n) ∨ (0 ≤ n ∧ n ≤ 64 ∧ k < 0) ∨ (0 ≤ n ∧ n ≤ 64 ∧ 0 ≤ k ∧ n < k) ∨ (0 ≤ n ∧ n ≤ 64 ∧ 0 ≤ k ∧ k ≤ n) := by omega
  have HB := Lib.hid hb
  clear hb
  rcases hn with h | ⟨h, h'⟩ | ⟨h, h', h''⟩ | ⟨h, h', h'', h3⟩ | ⟨h, h', h'', h3⟩
  · have HE : Hid (b = false) := by show _ = _; rw [← HB.out, decide_eq_false_iff_not]; unfold mayP; omega
    clear HB
    go_enter Tryz.func23, Tryz.ntmps23
    go_wp2_with fail
    go_ret
    exact ⟨ret_eq (by rw [HE.out]; rfl), Ext.refl _⟩
  · have HE : Hid (b = false) := by show _ = _; rw [← HB.out, decide_eq_false_iff_not]; unfold mayP; omega
    clear HB
    go_enter Tryz.func23, Tryz.ntmps23
    go_wp2_with fail
    go_ret
    exact ⟨ret_eq (by rw [HE.out]; rfl), Ext.refl _⟩
  · have HE : Hid (b = false) := by show _ = _; rw [← HB.out, decide_eq_false_iff_not]; unfold mayP; omega
    clear HB
    go_enter Tryz.func23, Tryz.ntmps23
    go_wp2_with fail
    go_ret
    exact ⟨ret_eq (by rw [HE.out]; rfl), Ext.refl _⟩
  · have HE : Hid (b = false) := by show _ = _; rw [← HB.out, decide_eq_false_iff_not]; unfold mayP; omega
    clear HB
    go_enter Tryz.func23, Tryz.ntmps23
    go_wp2_with fail
    go_ret
    exact ⟨ret_eq (by rw [HE.out]; first | rfl | (simp; omega) | simp), Ext.refl _⟩
  · have HE : Hid (b = true) := by show _ = _; rw [← HB.out, decide_eq_true_eq]; unfold mayP; omega
    clear HB
    go_enter Tryz.func23, Tryz.ntmps23
    go_wp2_with fail
    go_ret
    exact ⟨ret_eq (by rw [HE.out]; first | rfl | (simp; omega) | simp), Ext.refl _⟩


theorem risen_step {L : List Int} {i m : Nat} (hm : m < L.length) (hn : L.Nodup) : (if (i : Int) ∈ L.take (m + 1) then [(i : Int)] else []) = (if (i : Int) ∈ L.take m then [(i : Int)] else []) ++ (if L.getD m 0 = (i : Int) then [(i : Int)] else []) := by
  rw [getD_in hm, List.take_succ_eq_append_getElem hm]
  simp only [List.mem_append, List.mem_singleton]
  by_cases e : L[m] = (i : Int)
  · have h1 : (i : Int) ∉ L.take m := by
      intro h
      obtain ⟨q, hq, e2⟩ := List.getElem_of_mem h
      rw [List.length_take] at hq
      rw [List.getElem_take] at e2
      have := List.pairwise_iff_getElem.1 hn q m (by omega) hm (by omega)
      exact this (by rw [e2, e])
    rw [if_pos (.inr e.symm), if_neg h1, if_pos e]; rfl
  · have h2 : ((i : Int) ∈ L.take m ∨ (i : Int) = L[m]) ↔ (i : Int) ∈ L.take m := ⟨fun h => h.elim id fun h => absurd h.symm e, .inl⟩
    rw [if_neg e, List.append_nil]
    simp only [h2]

set_option maxHeartbeats 2000000 in
set_option maxRecDepth 100000 in
theorem risen_calls {w : World} {v : Value} {L : List Int} (h : Ints w v L) (hn : L.Nodup) (hl : L.length ≤ 64) :
    Calls Tryz.prog 68 #[v] w fun e w' => ∃ r, e = .returned r ∧ OwnZ 3 w.heap.size w' r (risen L 64) ∧ Ext w w' := by
  obtain ⟨p1, c1, rfl, g1, g2, g3⟩ := h.open
  unfold maxLen at g2
  have G3 := Lib.hid g3
  have HN := Lib.hid hn
  obtain ⟨n, hm⟩ : ∃ n, L.length = n := ⟨_, rfl⟩
  have HM := Lib.hid hm
  rw [hm] at g1 hl ⊢
  have t1 : (n : Int) ≤ 64 := by omega
  have N64 := Lib.hid hl
  have RL : Hid (∀ i, i ≤ 64 → (risen L i).length ≤ 64) := fun i hi => by
    unfold risen
    exact Nat.le_trans (List.length_filter_le _ _) (by rw [things_length]; exact hi)
  clear h hm hn hl g3 g2
  go_enter Tryz.func68, Tryz.ntmps68
  go_wp2_with fail
  go_loopw [3, 4] (fun v3 v4 wr => ∃ i : Nat, v4 = .int .i64 (i : Int) ∧ i ≤ 64 ∧ RowMem 3 w.heap.size (risen L i) v3 w wr) (fun _ v4 _ => 64 - (intOf v4).toNat)
  case atStart => exact ⟨0, rfl, Nat.zero_le _, World.ownsRow_nil .., Ext.refl _, Nat.le_refl _⟩
  case round =>
    obtain ⟨i, rfl, hi, hR⟩ := hrel
    have R := Lib.hid hR
    obtain ⟨va, vc, rfl⟩ := row_sliceI hR.own
    clear hR
    by_cases hi64 : i < 64
    · have LT := Lib.hid hi64
      have ti : (i : Int) ≤ 63 := by omega
      clear hi hi64
      go_wp2_with fail
      go_loopw [3, 5] (fun v3 v5 wr => ∃ (m : Nat) (A : List Int), v5 = .int .i64 (m : Int) ∧ m ≤ n ∧ Hid (A = risen L i ++ (if (i : Int) ∈ L.take m then [(i : Int)] else [])) ∧ RowMem 3 w.heap.size A v3 w wr) (fun _ v5 _ => n - (intOf v5).toNat)
      case atStart => exact ⟨0, risen L i, rfl, Nat.zero_le _, by show _ = _; simp, R.out⟩
      case round =>
        clear R
        obtain ⟨m, A, rfl, hm, hA, hR⟩ := hrel
        have R := Lib.hid hR
        obtain ⟨va, vc, rfl⟩ := row_sliceI hR.own
        clear hR
        by_cases hmn : m < n
        · obtain ⟨b1, o1, rfl, q1, q2⟩ := G3.out m (by rw [HM.out]; exact hmn)
          obtain ⟨x, hx⟩ : ∃ x, L.getD m 0 = x := ⟨_, rfl⟩
          have cx : wr.cell? ⟨b1, o1 + m, none⟩ = some (.int .i64 x) := by rw [Below.cell R.out.ext (p := ⟨b1, o1 + m, none⟩) q1, q2 m (by rw [HM.out]; exact hmn), hx]
          have ST := Lib.hid (risen_step (i := i) (by rw [HM.out]; exact hmn : m < L.length) HN.out)
          rw [hx] at ST
          have LM := Lib.hid hmn
          have HLN : Hid (A.length + [(i : Int)].length ≤ 100000) := by
            show _ ≤ 100000
            have := RL.out i (Nat.le_of_lt LT.out)
            rw [hA.out, List.length_append]
            split <;> simp <;> omega
          clear q2 hx hmn hm
          by_cases hxi : x = (i : Int)
          · have HA2 : Hid (A ++ [(i : Int)] = risen L i ++ (if (i : Int) ∈ L.take (m + 1) then [(i : Int)] else [])) := by
              show _ = _
              rw [ST.out, if_pos hxi, ← List.append_assoc, ← hA.out]
            subst hxi
            have HEX := Lib.hid ((Ext.refl wr).alloc (.cells #[.int .i64 (i : Int)] 3))
            have HRW := Lib.hid (ownsRow_ext' R.out.own HEX.out)
            have HBS : Hid (w.heap.size ≤ (wr.alloc (.cells #[.int .i64 (i : Int)] 3)).heap.size) := Nat.le_trans R.out.ext.size HEX.out.size
            clear hA
            go_wp2_with (at_builtin; refine append_ints rfl _ _ 43 3 Tryz.underlying43 info_int rfl w.heap.size _ _ _ rfl HRW.out HBS.out _ [(i : Int)] rfl (ints_lit wr [(i : Int)] _ rfl 1 rfl (by simp)) HLN.out ?_; intro v' w' hown' hgrow; have R2 := Lib.hid (RowMem.grow (A := [(i : Int)]) R.out HEX.out hown' hgrow); clear hown' hgrow)
            exact ⟨⟨m + 1, by first | rfl | go_num | simp, LM.out, _, HA2.out, R2.out⟩, by simp [intOf]; have := LM.out; omega⟩
          · have HA2 : Hid (A = risen L i ++ (if (i : Int) ∈ L.take (m + 1) then [(i : Int)] else [])) := by
              show _ = _
              rw [ST.out, if_neg hxi, List.append_nil, ← hA.out]
            clear hA
            go_wp2_with fail
            exact ⟨⟨m + 1, A, by go_num, LM.out, HA2.out, R.out⟩, by simp [intOf]; have := LM.out; omega⟩
        · obtain rfl : n = m := by omega
          have HA2 : Hid (A = risen L (i + 1)) := by
            show _ = _
            rw [hA.out, risen_succ, ← HM.out, List.take_length]
          have R2 : Hid (RowMem 3 w.heap.size (risen L (i + 1)) (.slice va A.length vc) w wr) := by have := R.out; rw [HA2.out] at this ⊢; exact this
          clear hA hmn hm R
          go_wp2_with fail
          exact ⟨⟨i + 1, by go_num, LT.out, R2.out⟩, by simp [intOf]; have := LT.out; omega⟩
    · obtain rfl : i = 64 := by omega
      clear hi hi64
      go_wp2_with fail
      go_ret
      exact ⟨_, rfl, ⟨.inl R.out.own, by decide⟩, R.out.ext⟩

set_option maxHeartbeats 4000000 in
set_option maxRecDepth 100000 in
theorem rrow13_ok {w : World} {v : Value} {J : List Int} (hJ : Ints w v J) (k n : Nat) (hkn : k ≤ n) (hn : n ≤ 64) (hl : J.length = n - k) (ho : okJ k J) :
    Calls Tryz.prog 37 #[.int .i64 (k : Int), .int .i64 (n : Int), v] w fun e w' => ∃ r, e = .returned (.tuple #[r, .int .i64 0]) ∧ OwnZ 3 w.heap.size w' r (poolF k J) ∧ Ext w w' := by
  obtain ⟨a, cap, rfl, h1, h2, h3⟩ := hJ.open
  unfold maxLen at h2
  have H3 := Lib.hid h3
  obtain ⟨m, hm⟩ : ∃ m, J.length = m := ⟨_, rfl⟩
  have HM := Lib.hid hm
  have HO := Lib.hid ho
  have t1 : (k : Int) ≤ 64 := by omega
  have t2 : (n : Int) ≤ 64 := by omega
  have t3 : (m : Int) ≤ 64 := by omega
  have K64 : Hid (k ≤ 64) := by show k ≤ 64; omega
  have KM : Hid (k + m = n) := by show _ = _; omega
  have N64 := Lib.hid hn
  have MAY : Hid (decide (mayP (k : Int) (n : Int)) = true) := by show _ = _; rw [decide_eq_true_eq]; unfold mayP; omega
  have hwm : IntKind.i64.wrap ((n : Int) - k) = (m : Int) := by rw [IntWalk.i64_in _ (by omega)]; omega
  rw [hm] at h1 ⊢
  clear h3 hJ hm ho hl hkn hn
  go_enter Tryz.func37, Tryz.ntmps37
  go_wp2_with fail
  refine (rmay13_calls _ _ _ true MAY.out).mono ?_
  rintro e w1 ⟨rfl, x1⟩
  have X1 := Lib.hid x1
  clear x1
  go_wp2_with fail
  clear hwm
  go_loopw [8, 9] (fun v8 v9 wr => ∃ i : Nat, v9 = .int .i64 (i : Int) ∧ i ≤ k ∧ RowMem 3 w.heap.size (things i) v8 w wr) (fun _ v9 _ => k - (intOf v9).toNat)
  case atStart => exact ⟨0, rfl, Nat.zero_le _, World.ownsRow_nil .., X1.out, Nat.le_refl _⟩
  case round =>
    obtain ⟨i, rfl, hi, hR⟩ := hrel
    have R := Lib.hid hR
    obtain ⟨va, vc, e⟩ := row_sliceI hR.own
    rw [things_length] at e
    subst e
    clear hR
    by_cases hik : i < k
    · have LT := Lib.hid hik
      have HLN : Hid ((things i).length + [(i : Int)].length ≤ 100000) := by show _ ≤ 100000; rw [things_length]; simp; omega
      have HEX := Lib.hid ((Ext.refl wr).alloc (.cells #[.int .i64 (i : Int)] 3))
      have HRW := Lib.hid (ownsRow_ext' R.out.own HEX.out)
      have HBS : Hid (w.heap.size ≤ (wr.alloc (.cells #[.int .i64 (i : Int)] 3)).heap.size) := Nat.le_trans R.out.ext.size HEX.out.size
      clear hi hik
      go_wp2_with (at_builtin; refine append_ints rfl _ _ 43 3 Tryz.underlying43 info_int rfl w.heap.size _ _ _ rfl HRW.out HBS.out _ [(i : Int)] rfl (ints_lit wr [(i : Int)] _ rfl 1 rfl (by simp)) HLN.out ?_; intro v' w' hown' hgrow; have R2 : Hid (RowMem 3 w.heap.size (things (i + 1)) v' w w') := (by rw [things_succ]; exact RowMem.grow (A := [(i : Int)]) R.out HEX.out hown' hgrow); clear hown' hgrow)
      exact ⟨⟨i + 1, by go_num, LT.out, R2.out⟩, by simp [intOf]; have := LT.out; omega⟩
    · obtain rfl : k = i := by omega
      have O0 : Hid (OwnI 3 w.heap.size wr (.slice va k vc) (poolTo k J 0)) := R.out.ownI
      have X2 := Lib.hid R.out.ext
      clear R hik hi
      go_wp2_with fail
      go_loopw [10] (fun v10 wr => ∃ i : Nat, v10 = .int .i64 ((k + i : Nat) : Int) ∧ i ≤ m ∧ OwnI 3 w.heap.size wr (.slice va k vc) (poolTo k J i) ∧ Ext w wr) (fun v10 _ => n - (intOf v10).toNat)
      case atStart => exact ⟨0, rfl, Nat.zero_le _, O0.out, X2.out⟩
      case round =>
        clear O0 X2
        obtain ⟨i, rfl, hi, hr, hx⟩ := hrel
        have R := Lib.hid hr
        have X := Lib.hid hx
        clear hr hx
        obtain ⟨z, hz⟩ : ∃ z, k + i = z := ⟨_, rfl⟩
        have HZ := Lib.hid hz
        rw [hz]
        have hkm := KM.out
        have hn64 := N64.out
        by_cases him : i < m
        · obtain ⟨b, o, rfl, hb, hc⟩ := H3.out i (by rw [HM.out]; exact him)
          obtain ⟨hd1, hd2⟩ := HO.out.get (m := i) (by rw [HM.out]; exact him)
          obtain ⟨d, hd⟩ : ∃ d : Nat, J.getD i 0 = (d : Int) := ⟨(J.getD i 0).toNat, by omega⟩
          rw [hd, hz] at hd2
          have hcd : wr.cell? ⟨b, o + i, none⟩ = some (.int .i64 (d : Int)) := by rw [Below.cell X.out (p := ⟨b, o + i, none⟩) hb, hc i (by rw [HM.out]; exact him), hd]
          have hwz : IntKind.i64.wrap ((z : Int) - k) = (i : Int) := by rw [IntWalk.i64_in _ (by omega)]; omega
          have hwz2 : IntKind.i64.wrap ((z : Int) + 1) = ((k + (i + 1) : Nat) : Int) := by rw [IntWalk.i64_in _ (by omega)]; omega
          have hdz : d ≤ z := by omega
          have hzn : z < n := by omega
          have HD := Lib.hid hd
          have LT := Lib.hid him
          clear hc hd1 hd hz hd2 hb hkm hn64 hi
          by_cases hdk : d < k
          · rcases R.out with hown | ⟨_, -, h0, -⟩
            rotate_left
            · rw [poolTo_length] at h0; omega
            obtain ⟨g, cap2, e, hg, hrow⟩ := RowG.of hown (by rw [poolTo_length]; omega)
            rw [poolTo_length] at e
            obtain ⟨e1, e2⟩ : va = some ⟨g, 0, none⟩ ∧ vc = cap2 := by injection e with a b c; exact ⟨a, c⟩
            subst e1 e2
            have RW := Lib.hid hrow
            have HG := Lib.hid hg
            have hcc := RW.out.cell (j := d) (by rw [poolTo_length]; exact hdk)
            have hf := RW.out.free d
            have R6 : Hid (OwnI 3 w.heap.size (wr.setCell ⟨g, d, none⟩ (.int .i64 (z : Int))) (.slice (some ⟨g, 0, none⟩) k vc) (poolTo k J (i + 1))) := by
              have := ((RW.out.set d (z : Int)).ownI).mono HG.out
              rw [List.length_set, poolTo_length] at this
              show OwnI _ _ _ _ _
              rw [poolTo, HD.out, if_pos (by omega), Int.toNat_natCast, HZ.out]; exact this
            clear hown e hg hrow
            go_wp2_with fail
            exact ⟨⟨i + 1, by first | rfl | go_num, LT.out, R6.out, X.out.setCell HG.out _⟩, by simp [intOf]; have := HZ.out; omega⟩
          · have R6 : Hid (OwnI 3 w.heap.size wr (.slice va k vc) (poolTo k J (i + 1))) := by
              show OwnI _ _ _ _ _
              rw [poolTo, HD.out, if_neg (by omega)]; exact R.out
            go_wp2_with fail
            exact ⟨⟨i + 1, by first | rfl | go_num, LT.out, R6.out, X.out⟩, by simp [intOf]; have := HZ.out; omega⟩
        · obtain rfl : m = i := by omega
          have hzn : n = z := by omega
          subst hzn
          have IN : Hid (Ints wr (.slice va k vc) (poolTo k J m)) := R.out.ints
          have RS : Hid (risen (poolTo k J m) 64 = poolF k J) := by
            show _ = _
            unfold poolF
            rw [HM.out]
            refine risen_eq (poolTo_nodup _ _ _) fun x hx => ?_
            have := poolTo_mem hx
            have := KM.out
            omega
          clear him hi hkm hn64 hz
          go_wp2_with fail
          refine (risen_calls IN.out (poolTo_nodup _ _ _) (by rw [poolTo_length]; exact K64.out)).mono ?_
          rintro e w5 ⟨r, rfl, ho5, x5⟩
          rw [RS.out] at ho5
          have O5 : Hid (OwnZ 3 w.heap.size w5 r (poolF k J)) := ⟨ho5.1.mono X.out.size, ho5.2⟩
          have X5 := Lib.hid (X.out.trans x5)
          clear ho5 x5
          go_wp2_with fail
          go_ret2
          exact ⟨r, rfl, O5.out, X5.out⟩

set_option maxHeartbeats 4000000 in
set_option maxRecDepth 100000 in
theorem rrow13_no {w : World} {v : Value} {J : List Int} (hJ : Ints w v J) (k n : Int) (c : Nat) (h : errPool k n J = c) (h0 : c ≠ 0) :
    Calls Tryz.prog 37 #[.int .i64 k, .int .i64 n, v] w fun e w' => e = .returned (.tuple #[.slice none 0 0, .int .i64 (c : Int)]) ∧ Ext w w' := by
  obtain ⟨a, cap, rfl, h1, h2, h3⟩ := hJ.open
  unfold maxLen at h2
  have H3 := Lib.hid h3
  obtain ⟨j, hj⟩ : ∃ j, J.length = j := ⟨_, rfl⟩
  have HM := Lib.hid hj
  rw [hj] at h1 ⊢
  by_cases hm : mayP k n
  · obtain ⟨kk, rfl⟩ : ∃ kk : Nat, k = (kk : Int) := ⟨k.toNat, by unfold mayP at hm; omega⟩
    obtain ⟨nn, rfl⟩ : ∃ nn : Nat, n = (nn : Int) := ⟨n.toNat, by unfold mayP at hm; omega⟩
    have MAY : Hid (decide (mayP (kk : Int) (nn : Int)) = true) := by show _ = _; rw [decide_eq_true_eq]; exact hm
    have hmm := hm
    unfold mayP at hmm
    obtain ⟨m, hmn⟩ : ∃ m, nn - kk = m := ⟨_, rfl⟩
    have t1 : (kk : Int) ≤ 64 := by omega
    have t2 : (nn : Int) ≤ 64 := by omega
    have K64 : Hid (kk ≤ 64) := by show kk ≤ 64; omega
    have KL : Hid (kk ≤ 100000) := by show kk ≤ 100000; omega
    have hwm : IntKind.i64.wrap ((nn : Int) - kk) = (m : Int) := by rw [IntWalk.i64_in _ (by omega)]; omega
    have hmi : (nn : Int) - kk = m := by omega
    have M64 : Hid (kk + m ≤ 64) := by show kk + m ≤ 64; omega
    unfold errPool at h
    rw [if_pos hm, hmi, hj, Int.toNat_natCast] at h
    by_cases hs : (j : Int) < m
    · have HC : Hid (c = 4) := by rw [if_pos hs] at h; exact h.symm
      have t3 : (j : Int) + 1 ≤ m := by omega
      clear h3 hJ hm hj h hs h0 hmm hmn hmi h1 h2
      go_enter Tryz.func37, Tryz.ntmps37
      go_wp2_with fail
      refine (rmay13_calls _ _ _ true MAY.out).mono ?_
      rintro e w1 ⟨rfl, x1⟩
      have X1 := Lib.hid x1
      clear x1
      go_wp2_with fail
      go_ret2
      exact ⟨by rw [HC.out]; rfl, X1.out⟩
    rw [if_neg hs] at h
    by_cases hg : (m : Int) < j
    · have HC : Hid (c = 5) := by rw [if_pos hg] at h; exact h.symm
      have t3 : (m : Int) + 1 ≤ j := by omega
      have t4 : (j : Int) ≤ 9223372036854775807 := by omega
      clear h3 hJ hm hj h hs h0 hmm hmn hmi h1 h2 hg
      go_enter Tryz.func37, Tryz.ntmps37
      go_wp2_with fail
      refine (rmay13_calls _ _ _ true MAY.out).mono ?_
      rintro e w1 ⟨rfl, x1⟩
      have X1 := Lib.hid x1
      clear x1
      go_wp2_with fail
      go_ret2
      exact ⟨by rw [HC.out]; rfl, X1.out⟩
    rw [if_neg hg] at h
    obtain rfl : j = m := by omega
    have hno : ¬ okJ kk J := by
      intro hok; rw [if_pos hok] at h; exact h0 h.symm
    have HC : Hid (c = 1) := by rw [if_neg hno] at h; exact h.symm
    have KM : Hid (kk + j = nn) := by show _ = _; omega
    have HNO := Lib.hid hno
    have t3 : (j : Int) ≤ 64 := by omega
    clear h3 hJ hm hj h hs h0 hmm hmn hmi hg h2 hno
    go_enter Tryz.func37, Tryz.ntmps37
    go_wp2_with fail
    refine (rmay13_calls _ _ _ true MAY.out).mono ?_
    rintro e w1 ⟨rfl, x1⟩
    have X1 := Lib.hid x1
    clear x1
    go_wp2_with fail
    clear hwm
    go_loopw [8, 9] (fun v8 v9 wr => ∃ i : Nat, v9 = .int .i64 (i : Int) ∧ i ≤ kk ∧ RowMem 3 w.heap.size (things i) v8 w wr) (fun _ v9 _ => kk - (intOf v9).toNat)
    case atStart => exact ⟨0, rfl, Nat.zero_le _, World.ownsRow_nil .., X1.out, Nat.le_refl _⟩
    case round =>
      obtain ⟨i, rfl, hi, hR⟩ := hrel
      have R := Lib.hid hR
      obtain ⟨va, vc, e⟩ := row_sliceI hR.own
      rw [things_length] at e
      subst e
      clear hR
      by_cases hik : i < kk
      · have LT := Lib.hid hik
        have HLN : Hid ((things i).length + [(i : Int)].length ≤ 100000) := by show _ ≤ 100000; rw [things_length]; simp; omega
        have HEX := Lib.hid ((Ext.refl wr).alloc (.cells #[.int .i64 (i : Int)] 3))
        have HRW := Lib.hid (ownsRow_ext' R.out.own HEX.out)
        have HBS : Hid (w.heap.size ≤ (wr.alloc (.cells #[.int .i64 (i : Int)] 3)).heap.size) := Nat.le_trans R.out.ext.size HEX.out.size
        clear hi hik
        go_wp2_with (at_builtin; refine append_ints rfl _ _ 43 3 Tryz.underlying43 info_int rfl w.heap.size _ _ _ rfl HRW.out HBS.out _ [(i : Int)] rfl (ints_lit wr [(i : Int)] _ rfl 1 rfl (by simp)) HLN.out ?_; intro v' w' hown' hgrow; have R2 : Hid (RowMem 3 w.heap.size (things (i + 1)) v' w w') := (by rw [things_succ]; exact RowMem.grow (A := [(i : Int)]) R.out HEX.out hown' hgrow); clear hown' hgrow)
        exact ⟨⟨i + 1, by go_num, LT.out, R2.out⟩, by simp [intOf]; have := LT.out; omega⟩
      · obtain rfl : kk = i := by omega
        have O0 : Hid (OwnI 3 w.heap.size wr (.slice va kk vc) (things kk)) := R.out.ownI
        have X2 := Lib.hid R.out.ext
        clear R hik hi
        go_wp2_with fail
        go_loopw [10] (fun v10 wr => ∃ i : Nat, v10 = .int .i64 ((kk + i : Nat) : Int) ∧ i ≤ j ∧ Hid (∀ q, q < i → 0 ≤ J.getD q 0 ∧ J.getD q 0 ≤ ((kk + q : Nat) : Int)) ∧ (∃ L, L.length = kk ∧ OwnI 3 w.heap.size wr (.slice va kk vc) L) ∧ Ext w wr) (fun v10 _ => nn - (intOf v10).toNat)
        case atStart => exact ⟨0, rfl, Nat.zero_le _, fun q hq => by omega, ⟨_, things_length _, O0.out⟩, X2.out⟩
        case round =>
          clear O0 X2
          obtain ⟨i, rfl, hi, hok, ⟨L, hL, hr⟩, hx⟩ := hrel
          have R := Lib.hid hr
          have X := Lib.hid hx
          have LL := Lib.hid hL
          clear hr hx hL
          obtain ⟨z, hz⟩ : ∃ z, kk + i = z := ⟨_, rfl⟩
          have HZ := Lib.hid hz
          rw [hz]
          have hkm := KM.out
          have hn64 := M64.out
          by_cases him : i < j
          · obtain ⟨b, o, rfl, hb, hc⟩ := H3.out i (by rw [HM.out]; exact him)
            obtain ⟨x, hx⟩ : ∃ x, J.getD i 0 = x := ⟨_, rfl⟩
            have hcd : wr.cell? ⟨b, o + i, none⟩ = some (.int .i64 x) := by rw [Below.cell X.out (p := ⟨b, o + i, none⟩) hb, hc i (by rw [HM.out]; exact him), hx]
            have hwz : IntKind.i64.wrap ((z : Int) - kk) = (i : Int) := by rw [IntWalk.i64_in _ (by omega)]; omega
            have hwz2 : IntKind.i64.wrap ((z : Int) + 1) = ((kk + (i + 1) : Nat) : Int) := by rw [IntWalk.i64_in _ (by omega)]; omega
            have hzn : z < nn := by omega
            have HX := Lib.hid hx
            have LT := Lib.hid him
            clear hc hx hz hb hkm hn64 hi
            by_cases hx0 : x < 0
            · clear hok
              go_wp2_with fail
              go_ret2
              exact ⟨by rw [HC.out]; rfl, X.out⟩
            by_cases hxz : (z : Int) < x
            · clear hok
              go_wp2_with fail
              go_ret2
              exact ⟨by rw [HC.out]; rfl, X.out⟩
            have HOK : Hid (∀ q, q < i + 1 → 0 ≤ J.getD q 0 ∧ J.getD q 0 ≤ ((kk + q : Nat) : Int)) := fun q hq => by
              by_cases e : q < i
              · exact hok.out q e
              · obtain rfl : q = i := by omega
                rw [HX.out, HZ.out]; omega
            obtain ⟨d, rfl⟩ : ∃ d : Nat, x = (d : Int) := ⟨x.toNat, by omega⟩
            have hdz : d ≤ z := by omega
            clear hok hx0 hxz
            by_cases hdk : d < kk
            · rcases R.out with hown | ⟨_, -, h0, -⟩
              rotate_left
              · rw [LL.out] at h0; omega
              obtain ⟨g, cap2, e, hg, hrow⟩ := RowG.of hown (by rw [LL.out]; omega)
              rw [LL.out] at e
              obtain ⟨e1, e2⟩ : va = some ⟨g, 0, none⟩ ∧ vc = cap2 := by injection e with a b c; exact ⟨a, c⟩
              subst e1 e2
              have RW := Lib.hid hrow
              have HG := Lib.hid hg
              have hcc := RW.out.cell (j := d) (by rw [LL.out]; exact hdk)
              have hf := RW.out.free d
              have R6 : Hid (OwnI 3 w.heap.size (wr.setCell ⟨g, d, none⟩ (.int .i64 (z : Int))) (.slice (some ⟨g, 0, none⟩) kk vc) (L.set d (z : Int))) := by
                have := ((RW.out.set d (z : Int)).ownI).mono HG.out
                rw [List.length_set, LL.out] at this
                exact this
              have L6 : Hid ((L.set d (z : Int)).length = kk) := by show _ = _; rw [List.length_set, LL.out]
              clear hown e hg hrow
              go_wp2_with fail
              exact ⟨⟨i + 1, by first | rfl | go_num, LT.out, HOK, ⟨_, L6.out, R6.out⟩, X.out.setCell HG.out _⟩, by simp [intOf]; have := HZ.out; omega⟩
            · go_wp2_with fail
              exact ⟨⟨i + 1, by first | rfl | go_num, LT.out, HOK, ⟨_, LL.out, R.out⟩, X.out⟩, by simp [intOf]; have := HZ.out; omega⟩
          · obtain rfl : j = i := by omega
            exact absurd (okJ_of (J := J) (fun q hq => by rw [HM.out] at hq; exact hok.out q hq)) HNO.out
  · have MAY : Hid (decide (mayP k n) = false) := by show _ = _; rw [decide_eq_false_iff_not]; exact hm
    have HC : Hid (c = 1) := by unfold errPool at h; rw [if_neg hm] at h; exact h.symm
    clear h3 hJ hm hj h h0 h1 h2
    go_enter Tryz.func37, Tryz.ntmps37
    go_wp2_with fail
    refine (rmay13_calls _ _ _ false MAY.out).mono ?_
    rintro e w1 ⟨rfl, x1⟩
    have X1 := Lib.hid x1
    clear x1
    go_wp2_with fail
    go_ret2
    exact ⟨by rw [HC.out]; rfl, X1.out⟩

theorem rrow13_all {w : World} {v : Value} {J : List Int} (hJ : Ints w v J) (k n : Int) (c : Nat) (h : errPool k n J = c) (R : List Int) (hR : plR k n J = R) :
    Calls Tryz.prog 37 #[.int .i64 k, .int .i64 n, v] w fun e w' => ∃ r, e = .returned (.tuple #[r, .int .i64 (c : Int)]) ∧ OwnZ 3 w.heap.size w' r R ∧ Ext w w' := by
  subst hR
  by_cases h0 : c = 0
  · subst h0
    obtain ⟨h1, h2, h3⟩ := errPool_ok h
    rw [plR_ok h]
    unfold mayP at h1
    obtain ⟨kk, rfl⟩ : ∃ kk : Nat, k = (kk : Int) := ⟨k.toNat, by omega⟩
    obtain ⟨nn, rfl⟩ : ∃ nn : Nat, n = (nn : Int) := ⟨n.toNat, by omega⟩
    rw [Int.toNat_natCast] at h3 ⊢
    exact rrow13_ok hJ kk nn (by omega) (by omega) (by omega) h3
  · rw [plR_no (by rw [h]; exact h0)]
    refine (rrow13_no hJ k n c h h0).mono ?_
    rintro e w' ⟨rfl, hx⟩
    exact ⟨_, rfl, ⟨OwnI.nil _ _ _, by decide⟩, hx⟩
end Go.Proofs.YtkfioaoooodmnaaGreat
