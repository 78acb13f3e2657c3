/- The contract of tombolaref05.Div. -/
import Derived.Test.YtefeglkbikcjeaaGreatDoorRef05b
import Derived.Test.YtefeglkbikcjeaaGreatDoorPartC
namespace Go.Proofs.YtefeglkbikcjeaaGreatDoor
open Go Go.RowKit

theorem refdiv_no {w : World} {v u : Value} {A B : List Nat} (hA : Limbs w v A) (hB : Limbs w u B) (hlA : A.length ≤ 65535) (hlB : B.length ≤ 65535) (h : val B = 0) :
    Calls Tryz.prog 65 #[v, u] w fun e w' => ∃ x y, e = .returned (.tuple #[x, y, .int .i64 7]) ∧ Ext w w' :=
  (refdiv_calls hA hB hlA hlB).mono fun _ _ ⟨x, y, h1, _, _, h4⟩ => ⟨x, y, by rw [h1, if_pos h], h4⟩
theorem refdiv_ok {w : World} {v u : Value} {A B : List Nat} (hA : Limbs w v A) (hB : Limbs w u B) (hlA : A.length ≤ 65535) (hlB : B.length ≤ 65535) (h : ¬ val B = 0) :
    Calls Tryz.prog 65 #[v, u] w fun e w' => ∃ x y, e = .returned (.tuple #[x, y, .int .i64 0]) ∧ OwnL w.heap.size w' x (dig (val A / val B)) ∧ OwnL w.heap.size w' y (dig (val A % val B)) ∧ Ext w w' :=
  (refdiv_calls hA hB hlA hlB).mono fun _ _ ⟨x, y, h1, h2, h3, h4⟩ => ⟨x, y, by rw [h1, if_neg h], by simpa only [if_neg h] using h2, by simpa only [if_neg h] using h3, h4⟩
theorem refadd1_ok {w : World} {v u : Value} {q : Nat} (hA : Limbs w v (dig q)) (hB : Limbs w u (dig 1)) (hl : (dig q).length ≤ 65535) :
    Calls Tryz.prog 66 #[v, u] w (RetNat w (q + 1)) :=
  refadd_nat hA hB (by omega) (by rw [dig_one one_lt_Bs (by decide)]; decide) rfl
theorem refsubr_ok {w : World} {v u : Value} {B : List Nat} {r : Nat} (hA : Limbs w v B) (hB : Limbs w u (dig r)) (hl : B.length ≤ 65535) (hr : r < val B) :
    Calls Tryz.prog 68 #[v, u] w fun e w' => ∃ r', e = .returned (.tuple #[r', .int .i64 0]) ∧ OwnL w.heap.size w' r' (dig (val B - r)) ∧ Ext w w' := by
  refine (refsub_calls hA hB (by omega) (Nat.le_trans (dig_len_le (Nat.lt_trans hr (val_lt hA.2))) (by omega))).mono ?_
  rintro e w' ⟨x, h1, h2, h3⟩
  rw [val_dig] at h1 h2
  rw [if_neg (by omega)] at h1
  exact ⟨x, h1, h2, h3⟩

set_option maxHeartbeats 2000000 in
set_option maxRecDepth 100000 in
theorem refidiv_calls {w : World} {v u : Value} {A B : List Nat} (hA : Limbs w v A) (hB : Limbs w u B) (hl : A.length ≤ 65535) (hl2 : B.length ≤ 65535) (n1 n2 : Bool) :
    Calls Tryz.prog 11 #[.agg #[.bool n1, v], .agg #[.bool n2, u]] w (RetID w (iv n1 A) (iv n2 B)) := by
  obtain ⟨pa, pc, rfl, -, -, -⟩ := hA.open
  obtain ⟨qa, qc, rfl, -, -, -⟩ := hB.open
  have L1 := Lib.hid hl
  have L2 := Lib.hid hl2
  have y1 := (((Ext.refl w).alloc (.cells #[.bool n1, .slice pa A.length pc] 25)).alloc (.cells #[.bool n2, .slice qa B.length qc] 25))
  have y2 := y1.alloc (.cells #[.bool false, .slice none 0 0] 25)
  have y0 := y2.alloc (.cells #[.bool false, .slice none 0 0] 25)
  have m0 := (argsAt_mk w n1 n2 (.slice pa A.length pc) (.slice qa B.length qc) 25 25).ext (((Ext.refl _).alloc (.cells #[.bool false, .slice none 0 0] 25)).alloc (.cells #[.bool false, .slice none 0 0] 25))
  have e0 := (nilAt_mk ((w.alloc (.cells #[.bool n1, .slice pa A.length pc] 25)).alloc (.cells #[.bool n2, .slice qa B.length qc] 25)) 25).ext ((Ext.refl _).alloc (.cells #[.bool false, .slice none 0 0] 25))
  rw [show ((w.alloc (.cells #[.bool n1, .slice pa A.length pc] 25)).alloc (.cells #[.bool n2, .slice qa B.length qc] 25)).heap.size = w.heap.size + 1 + 1 by simp] at e0
  have f0 := nilAt_mk (((w.alloc (.cells #[.bool n1, .slice pa A.length pc] 25)).alloc (.cells #[.bool n2, .slice qa B.length qc] 25)).alloc (.cells #[.bool false, .slice none 0 0] 25)) 25
  rw [show (((w.alloc (.cells #[.bool n1, .slice pa A.length pc] 25)).alloc (.cells #[.bool n2, .slice qa B.length qc] 25)).alloc (.cells #[.bool false, .slice none 0 0] 25)).heap.size = w.heap.size + 1 + 1 + 1 by simp] at f0
  obtain ⟨W0, hW0⟩ : ∃ W0, W0 = ((((w.alloc (.cells #[.bool n1, .slice pa A.length pc] 25)).alloc (.cells #[.bool n2, .slice qa B.length qc] 25)).alloc (.cells #[.bool false, .slice none 0 0] 25)).alloc (.cells #[.bool false, .slice none 0 0] 25)) := ⟨_, rfl⟩
  have hl1 := hl
  have hl3 := hl2
  clear hl hl2 y1 y2
  have hne : ¬ w.heap.size = w.heap.size + 1 + 1 := by omega
  have hne' : ¬ w.heap.size + 1 + 1 = w.heap.size := by omega
  have hnf : ¬ w.heap.size = w.heap.size + 1 + 1 + 1 := by omega
  have hnf' : ¬ w.heap.size + 1 + 1 + 1 = w.heap.size := by omega
  have hng : ¬ w.heap.size + 1 = w.heap.size + 1 + 1 + 1 := by omega
  have hng' : ¬ w.heap.size + 1 + 1 + 1 = w.heap.size + 1 := by omega
  by_cases hz : val B = 0
  · have hy : iv n2 B = 0 := by unfold iv; rw [hz]; simp
    rw [hy]
    have HZ := Lib.hid hz
    clear hz hy hl1 hl3
    go_enter Tryz.func11, Tryz.ntmps11
    go_wp2_with fail
    rw [← hW0] at y0 m0 e0 f0 ⊢
    obtain ⟨⟨a1, a2⟩, ⟨b1, b2⟩, -⟩ := m0
    clear hW0
    refine (refdiv_no (hA.ext y0) (hB.ext y0) (by have := L1.out; omega) (by have := L2.out; omega) HZ.out).mono ?_
    rintro e w1 ⟨r, q, rfl, x1⟩
    obtain ⟨⟨c1, c2⟩, ⟨d1, d2⟩, s1⟩ := e0.ext x1
    obtain ⟨⟨c3, c4⟩, ⟨d3, d4⟩, s2⟩ := f0.ext x1
    go_wp2_with fail
    refine bodyPost_ret (v := .tuple #[.agg #[.bool false, .slice none 0 0], .agg #[.bool false, .slice none 0 0], .int .i64 7]) (by simp [results, Tryz.results11, go_sem, c1, c2, c3, c4]) rfl (RetID.no _ (ext_box2 (ext_box2 (y0.trans x1) (by omega) _ _) (by omega) _ _))
  · have hdv := div_iv n1 n2 A B hz
    have hy : ¬ iv n2 B = 0 := by unfold iv; cases n2 <;> simp <;> omega
    obtain ⟨z, hzz⟩ : ∃ z, decide (val A % val B = 0) = z := ⟨_, rfl⟩
    rw [hzz] at hdv
    have hq1 : (dig (val A / val B)).length ≤ 65535 := Nat.le_trans (dig_len_le (Nat.lt_of_le_of_lt (Nat.div_le_self _ _) (val_lt hA.2))) hl1
    have hq2 : (dig (val A / val B + 1)).length ≤ 65536 := by
      have h := len_add (A := dig (val A / val B)) (B := dig 1) (dig_lt _) (dig_lt _) hq1 (Nat.le_trans (dig_len_le (n := 1) (k := 1) (by rw [Nat.pow_one, Bs_def]; omega)) (by omega))
      rwa [val_dig, val_dig] at h
    have hr0 : val A % val B < val B := Nat.mod_lt _ (by omega)
    have hr1 : (dig (val A % val B)).length ≤ 65535 := Nat.le_trans (dig_len_le (Nat.lt_trans hr0 (val_lt hB.2))) hl3
    have hr2 : (dig (val B - val A % val B)).length ≤ 65536 := len_sub hB.2 hl3 _
    generalize hQ : val A / val B = Q at *
    generalize hR : val A % val B = R at *
    have HZ := Lib.hid hz
    have HY := Lib.hid hy
    have HZZ := Lib.hid hzz
    have HQ := Lib.hid hQ
    have HR := Lib.hid hR
    have Q1 := Lib.hid hq1
    have Q2 := Lib.hid hq2
    have R0 := Lib.hid hr0
    have R1 := Lib.hid hr1
    have R2 := Lib.hid hr2
    clear hz hy hzz hQ hR hq1 hq2 hr0 hr1 hr2 hl1 hl3
    cases n1 with
    | false =>
      cases n2 with
      | false =>
        have HD : Hid (iv false A / iv false B = iv false (dig Q) ∧ iv false A % iv false B = ((R : Nat) : Int)) := by show _ ∧ _; simpa using hdv
        obtain ⟨b8, hb8⟩ : ∃ b, decide (iv false (dig Q) < 0) = b := ⟨_, rfl⟩
        obtain ⟨m8, hm8⟩ : ∃ m, (iv false (dig Q)).natAbs = m := ⟨_, rfl⟩
        have H8 := Lib.hid hb8
        have K8 := Lib.hid hm8
        clear hdv hb8 hm8
        go_enter Tryz.func11, Tryz.ntmps11
        go_wp2_with fail
        rw [← hW0] at y0 m0 e0 f0 ⊢
        clear hW0
        have M0 := Lib.hid m0
        have E0 := Lib.hid e0
        have F0 := Lib.hid f0
        obtain ⟨⟨a1, a2⟩, ⟨b1, b2⟩, hs0⟩ := m0
        clear e0 f0
        refine (refdiv_ok (hA.ext y0) (hB.ext y0) (by have := L1.out; omega) (by have := L2.out; omega) HZ.out).mono ?_
        rintro e w1 ⟨q, r, rfl, hq, hr, x1⟩
        rw [HQ.out] at hq
        rw [HR.out] at hr
        obtain ⟨⟨g1, g2⟩, ⟨g3, g4⟩, -⟩ := M0.out.ext x1
        go_wp2_with fail
        refine (refmake_ok hq.limbs (Nat.le_succ_of_le Q1.out) false H8.out K8.out).mono ?_
        rintro e w6 ⟨v8, rfl, hv8, x6⟩
        go_wp2_with fail
        refine (refmaker_ok (hr.limbs.ext x6) (Nat.le_succ_of_le R1.out)).mono ?_
        rintro e w7 ⟨v9, rfl, hv9, x7⟩
        obtain ⟨⟨c1, c2⟩, ⟨d1, d2⟩, s1⟩ := E0.out.ext (x1.trans (x6.trans x7))
        obtain ⟨⟨c3, c4⟩, ⟨d3, d4⟩, s2⟩ := F0.out.ext (x1.trans (x6.trans x7))
        have hv8' := hv8.ext x7
        obtain ⟨sa, sc, rfl, -, -, -⟩ := hv8.limbs.open
        obtain ⟨ta, tc, rfl, -, -, -⟩ := hv9.limbs.open
        have hz0 := F0.out.2.2
        go_wp2_with fail
        refine bodyPost_ret (v := .tuple #[.agg #[.bool b8, .slice sa (dig m8).length sc], .agg #[.bool false, .slice ta (dig R).length tc], .int .i64 0]) (by simp [results, Tryz.results11, go_sem, c1, c2, c3, c4]) rfl (RetID.of HY.out HD.out.1 HD.out.2 H8.out K8.out ?_ ?_ (ext_box2 (ext_box2 (y0.trans (x1.trans (x6.trans x7))) (by omega) _ _) (by omega) _ _))
        · have z1 := x1.size; have z6 := x6.size; exact ((hv8'.set2 (by omega) _ _).set2 (by omega) _ _).mono (by omega)
        · have z1 := x1.size; have z6 := x6.size; exact ((hv9.set2 (by omega) _ _).set2 (by omega) _ _).mono (by omega)
      | true =>
        have HD : Hid (iv false A / iv true B = iv true (dig Q) ∧ iv false A % iv true B = ((R : Nat) : Int)) := by show _ ∧ _; simpa using hdv
        obtain ⟨b8, hb8⟩ : ∃ b, decide (iv true (dig Q) < 0) = b := ⟨_, rfl⟩
        obtain ⟨m8, hm8⟩ : ∃ m, (iv true (dig Q)).natAbs = m := ⟨_, rfl⟩
        have H8 := Lib.hid hb8
        have K8 := Lib.hid hm8
        clear hdv hb8 hm8
        go_enter Tryz.func11, Tryz.ntmps11
        go_wp2_with fail
        rw [← hW0] at y0 m0 e0 f0 ⊢
        clear hW0
        have M0 := Lib.hid m0
        have E0 := Lib.hid e0
        have F0 := Lib.hid f0
        obtain ⟨⟨a1, a2⟩, ⟨b1, b2⟩, hs0⟩ := m0
        clear e0 f0
        refine (refdiv_ok (hA.ext y0) (hB.ext y0) (by have := L1.out; omega) (by have := L2.out; omega) HZ.out).mono ?_
        rintro e w1 ⟨q, r, rfl, hq, hr, x1⟩
        rw [HQ.out] at hq
        rw [HR.out] at hr
        obtain ⟨⟨g1, g2⟩, ⟨g3, g4⟩, -⟩ := M0.out.ext x1
        go_wp2_with fail
        refine (refmake_ok hq.limbs (Nat.le_succ_of_le Q1.out) true H8.out K8.out).mono ?_
        rintro e w6 ⟨v8, rfl, hv8, x6⟩
        go_wp2_with fail
        refine (refmaker_ok (hr.limbs.ext x6) (Nat.le_succ_of_le R1.out)).mono ?_
        rintro e w7 ⟨v9, rfl, hv9, x7⟩
        obtain ⟨⟨c1, c2⟩, ⟨d1, d2⟩, s1⟩ := E0.out.ext (x1.trans (x6.trans x7))
        obtain ⟨⟨c3, c4⟩, ⟨d3, d4⟩, s2⟩ := F0.out.ext (x1.trans (x6.trans x7))
        have hv8' := hv8.ext x7
        obtain ⟨sa, sc, rfl, -, -, -⟩ := hv8.limbs.open
        obtain ⟨ta, tc, rfl, -, -, -⟩ := hv9.limbs.open
        have hz0 := F0.out.2.2
        go_wp2_with fail
        refine bodyPost_ret (v := .tuple #[.agg #[.bool b8, .slice sa (dig m8).length sc], .agg #[.bool false, .slice ta (dig R).length tc], .int .i64 0]) (by simp [results, Tryz.results11, go_sem, c1, c2, c3, c4]) rfl (RetID.of HY.out HD.out.1 HD.out.2 H8.out K8.out ?_ ?_ (ext_box2 (ext_box2 (y0.trans (x1.trans (x6.trans x7))) (by omega) _ _) (by omega) _ _))
        · have z1 := x1.size; have z6 := x6.size; exact ((hv8'.set2 (by omega) _ _).set2 (by omega) _ _).mono (by omega)
        · have z1 := x1.size; have z6 := x6.size; exact ((hv9.set2 (by omega) _ _).set2 (by omega) _ _).mono (by omega)
    | true =>
      cases n2 with
      | false =>
        cases z with
        | false =>
          have HRL : Hid ((1 : Int) ≤ ((dig R).length : Nat)) := len_pos (by simpa using HZZ.out)
          have HD : Hid (iv true A / iv false B = iv true (dig (Q + 1)) ∧ iv true A % iv false B = (((val B - R) : Nat) : Int)) := by show _ ∧ _; simpa using hdv
          obtain ⟨b8, hb8⟩ : ∃ b, decide (iv true (dig (Q + 1)) < 0) = b := ⟨_, rfl⟩
          obtain ⟨m8, hm8⟩ : ∃ m, (iv true (dig (Q + 1))).natAbs = m := ⟨_, rfl⟩
          have H8 := Lib.hid hb8
          have K8 := Lib.hid hm8
          clear hdv hb8 hm8
          go_enter Tryz.func11, Tryz.ntmps11
          go_wp2_with fail
          rw [← hW0] at y0 m0 e0 f0 ⊢
          clear hW0
          have M0 := Lib.hid m0
          have E0 := Lib.hid e0
          have F0 := Lib.hid f0
          obtain ⟨⟨a1, a2⟩, ⟨b1, b2⟩, hs0⟩ := m0
          clear e0 f0
          refine (refdiv_ok (hA.ext y0) (hB.ext y0) (by have := L1.out; omega) (by have := L2.out; omega) HZ.out).mono ?_
          rintro e w1 ⟨q, r, rfl, hq, hr, x1⟩
          rw [HQ.out] at hq
          rw [HR.out] at hr
          obtain ⟨⟨g1, g2⟩, ⟨g3, g4⟩, -⟩ := M0.out.ext x1
          obtain ⟨ra_, rc_, rfl, -, -, -⟩ := hr.limbs.open
          have hrl := HRL.out
          go_wp2_with fail
          refine (refof_int _ 1 one_lt_Bs rfl).mono ?_
          rintro e w3 ⟨o, rfl, ho, x3⟩
          go_wp2_with fail
          refine (refadd1_ok (hq.limbs.ext x3) ho.limbs Q1.out).mono ?_
          rintro e w4 ⟨qp, rfl, hqp, x4⟩
          obtain ⟨⟨g1, g2⟩, ⟨g3, g4⟩, -⟩ := M0.out.ext (x1.trans (x3.trans x4))
          go_wp2_with fail
          refine (refsubr_ok (hB.ext (y0.trans (x1.trans (x3.trans x4)))) (hr.limbs.ext (x3.trans x4)) L2.out R0.out).mono ?_
          rintro e w5 ⟨rp, rfl, hrp, x5⟩
          obtain ⟨⟨g1, g2⟩, ⟨g3, g4⟩, -⟩ := M0.out.ext (x1.trans (x3.trans (x4.trans x5)))
          go_wp2_with fail
          refine (refmake_ok (hqp.limbs.ext x5) Q2.out true H8.out K8.out).mono ?_
          rintro e w6 ⟨v8, rfl, hv8, x6⟩
          go_wp2_with fail
          refine (refmaker_ok (hrp.limbs.ext x6) R2.out).mono ?_
          rintro e w7 ⟨v9, rfl, hv9, x7⟩
          obtain ⟨⟨c1, c2⟩, ⟨d1, d2⟩, s1⟩ := E0.out.ext (x1.trans (x3.trans (x4.trans (x5.trans (x6.trans x7)))))
          obtain ⟨⟨c3, c4⟩, ⟨d3, d4⟩, s2⟩ := F0.out.ext (x1.trans (x3.trans (x4.trans (x5.trans (x6.trans x7)))))
          have hv8' := hv8.ext x7
          obtain ⟨sa, sc, rfl, -, -, -⟩ := hv8.limbs.open
          obtain ⟨ta, tc, rfl, -, -, -⟩ := hv9.limbs.open
          have hz0 := F0.out.2.2
          go_wp2_with fail
          refine bodyPost_ret (v := .tuple #[.agg #[.bool b8, .slice sa (dig m8).length sc], .agg #[.bool false, .slice ta (dig (val B - R)).length tc], .int .i64 0]) (by simp [results, Tryz.results11, go_sem, c1, c2, c3, c4]) rfl (RetID.of HY.out HD.out.1 HD.out.2 H8.out K8.out ?_ ?_ (ext_box2 (ext_box2 (y0.trans (x1.trans (x3.trans (x4.trans (x5.trans (x6.trans x7)))))) (by omega) _ _) (by omega) _ _))
          · have z1 := x1.size; have z3 := x3.size; have z4 := x4.size; have z5 := x5.size; have z6 := x6.size; exact ((hv8'.set2 (by omega) _ _).set2 (by omega) _ _).mono (by omega)
          · have z1 := x1.size; have z3 := x3.size; have z4 := x4.size; have z5 := x5.size; have z6 := x6.size; exact ((hv9.set2 (by omega) _ _).set2 (by omega) _ _).mono (by omega)
        | true =>
          have HRL : Hid (((dig R).length : Int) ≤ 0) := by show _ ≤ _; rw [show R = 0 by simpa using HZZ.out, dig_zero]; simp
          have HD : Hid (iv true A / iv false B = iv true (dig Q) ∧ iv true A % iv false B = ((R : Nat) : Int)) := by show _ ∧ _; simpa using hdv
          obtain ⟨b8, hb8⟩ : ∃ b, decide (iv true (dig Q) < 0) = b := ⟨_, rfl⟩
          obtain ⟨m8, hm8⟩ : ∃ m, (iv true (dig Q)).natAbs = m := ⟨_, rfl⟩
          have H8 := Lib.hid hb8
          have K8 := Lib.hid hm8
          clear hdv hb8 hm8
          go_enter Tryz.func11, Tryz.ntmps11
          go_wp2_with fail
          rw [← hW0] at y0 m0 e0 f0 ⊢
          clear hW0
          have M0 := Lib.hid m0
          have E0 := Lib.hid e0
          have F0 := Lib.hid f0
          obtain ⟨⟨a1, a2⟩, ⟨b1, b2⟩, hs0⟩ := m0
          clear e0 f0
          refine (refdiv_ok (hA.ext y0) (hB.ext y0) (by have := L1.out; omega) (by have := L2.out; omega) HZ.out).mono ?_
          rintro e w1 ⟨q, r, rfl, hq, hr, x1⟩
          rw [HQ.out] at hq
          rw [HR.out] at hr
          obtain ⟨⟨g1, g2⟩, ⟨g3, g4⟩, -⟩ := M0.out.ext x1
          obtain ⟨ra_, rc_, rfl, -, -, -⟩ := hr.limbs.open
          have hrl := HRL.out
          go_wp2_with fail
          refine (refmake_ok hq.limbs (Nat.le_succ_of_le Q1.out) true H8.out K8.out).mono ?_
          rintro e w6 ⟨v8, rfl, hv8, x6⟩
          go_wp2_with fail
          refine (refmaker_ok (hr.limbs.ext x6) (Nat.le_succ_of_le R1.out)).mono ?_
          rintro e w7 ⟨v9, rfl, hv9, x7⟩
          obtain ⟨⟨c1, c2⟩, ⟨d1, d2⟩, s1⟩ := E0.out.ext (x1.trans (x6.trans x7))
          obtain ⟨⟨c3, c4⟩, ⟨d3, d4⟩, s2⟩ := F0.out.ext (x1.trans (x6.trans x7))
          have hv8' := hv8.ext x7
          obtain ⟨sa, sc, rfl, -, -, -⟩ := hv8.limbs.open
          obtain ⟨ta, tc, rfl, -, -, -⟩ := hv9.limbs.open
          have hz0 := F0.out.2.2
          go_wp2_with fail
          refine bodyPost_ret (v := .tuple #[.agg #[.bool b8, .slice sa (dig m8).length sc], .agg #[.bool false, .slice ta (dig R).length tc], .int .i64 0]) (by simp [results, Tryz.results11, go_sem, c1, c2, c3, c4]) rfl (RetID.of HY.out HD.out.1 HD.out.2 H8.out K8.out ?_ ?_ (ext_box2 (ext_box2 (y0.trans (x1.trans (x6.trans x7))) (by omega) _ _) (by omega) _ _))
          · have z1 := x1.size; have z6 := x6.size; exact ((hv8'.set2 (by omega) _ _).set2 (by omega) _ _).mono (by omega)
          · have z1 := x1.size; have z6 := x6.size; exact ((hv9.set2 (by omega) _ _).set2 (by omega) _ _).mono (by omega)
      | true =>
        cases z with
        | false =>
          have HRL : Hid ((1 : Int) ≤ ((dig R).length : Nat)) := len_pos (by simpa using HZZ.out)
          have HD : Hid (iv true A / iv true B = iv false (dig (Q + 1)) ∧ iv true A % iv true B = (((val B - R) : Nat) : Int)) := by show _ ∧ _; simpa using hdv
          obtain ⟨b8, hb8⟩ : ∃ b, decide (iv false (dig (Q + 1)) < 0) = b := ⟨_, rfl⟩
          obtain ⟨m8, hm8⟩ : ∃ m, (iv false (dig (Q + 1))).natAbs = m := ⟨_, rfl⟩
          have H8 := Lib.hid hb8
          have K8 := Lib.hid hm8
          clear hdv hb8 hm8
          go_enter Tryz.func11, Tryz.ntmps11
          go_wp2_with fail
          rw [← hW0] at y0 m0 e0 f0 ⊢
          clear hW0
          have M0 := Lib.hid m0
          have E0 := Lib.hid e0
          have F0 := Lib.hid f0
          obtain ⟨⟨a1, a2⟩, ⟨b1, b2⟩, hs0⟩ := m0
          clear e0 f0
          refine (refdiv_ok (hA.ext y0) (hB.ext y0) (by have := L1.out; omega) (by have := L2.out; omega) HZ.out).mono ?_
          rintro e w1 ⟨q, r, rfl, hq, hr, x1⟩
          rw [HQ.out] at hq
          rw [HR.out] at hr
          obtain ⟨⟨g1, g2⟩, ⟨g3, g4⟩, -⟩ := M0.out.ext x1
          obtain ⟨ra_, rc_, rfl, -, -, -⟩ := hr.limbs.open
          have hrl := HRL.out
          go_wp2_with fail
          refine (refof_int _ 1 one_lt_Bs rfl).mono ?_
          rintro e w3 ⟨o, rfl, ho, x3⟩
          go_wp2_with fail
          refine (refadd1_ok (hq.limbs.ext x3) ho.limbs Q1.out).mono ?_
          rintro e w4 ⟨qp, rfl, hqp, x4⟩
          obtain ⟨⟨g1, g2⟩, ⟨g3, g4⟩, -⟩ := M0.out.ext (x1.trans (x3.trans x4))
          go_wp2_with fail
          refine (refsubr_ok (hB.ext (y0.trans (x1.trans (x3.trans x4)))) (hr.limbs.ext (x3.trans x4)) L2.out R0.out).mono ?_
          rintro e w5 ⟨rp, rfl, hrp, x5⟩
          obtain ⟨⟨g1, g2⟩, ⟨g3, g4⟩, -⟩ := M0.out.ext (x1.trans (x3.trans (x4.trans x5)))
          go_wp2_with fail
          refine (refmake_ok (hqp.limbs.ext x5) Q2.out false H8.out K8.out).mono ?_
          rintro e w6 ⟨v8, rfl, hv8, x6⟩
          go_wp2_with fail
          refine (refmaker_ok (hrp.limbs.ext x6) R2.out).mono ?_
          rintro e w7 ⟨v9, rfl, hv9, x7⟩
          obtain ⟨⟨c1, c2⟩, ⟨d1, d2⟩, s1⟩ := E0.out.ext (x1.trans (x3.trans (x4.trans (x5.trans (x6.trans x7)))))
          obtain ⟨⟨c3, c4⟩, ⟨d3, d4⟩, s2⟩ := F0.out.ext (x1.trans (x3.trans (x4.trans (x5.trans (x6.trans x7)))))
          have hv8' := hv8.ext x7
          obtain ⟨sa, sc, rfl, -, -, -⟩ := hv8.limbs.open
          obtain ⟨ta, tc, rfl, -, -, -⟩ := hv9.limbs.open
          have hz0 := F0.out.2.2
          go_wp2_with fail
          refine bodyPost_ret (v := .tuple #[.agg #[.bool b8, .slice sa (dig m8).length sc], .agg #[.bool false, .slice ta (dig (val B - R)).length tc], .int .i64 0]) (by simp [results, Tryz.results11, go_sem, c1, c2, c3, c4]) rfl (RetID.of HY.out HD.out.1 HD.out.2 H8.out K8.out ?_ ?_ (ext_box2 (ext_box2 (y0.trans (x1.trans (x3.trans (x4.trans (x5.trans (x6.trans x7)))))) (by omega) _ _) (by omega) _ _))
          · have z1 := x1.size; have z3 := x3.size; have z4 := x4.size; have z5 := x5.size; have z6 := x6.size; exact ((hv8'.set2 (by omega) _ _).set2 (by omega) _ _).mono (by omega)
          · have z1 := x1.size; have z3 := x3.size; have z4 := x4.size; have z5 := x5.size; have z6 := x6.size; exact ((hv9.set2 (by omega) _ _).set2 (by omega) _ _).mono (by omega)
        | true =>
          have HRL : Hid (((dig R).length : Int) ≤ 0) := by show _ ≤ _; rw [show R = 0 by simpa using HZZ.out, dig_zero]; simp
          have HD : Hid (iv true A / iv true B = iv false (dig Q) ∧ iv true A % iv true B = ((R : Nat) : Int)) := by show _ ∧ _; simpa using hdv
          obtain ⟨b8, hb8⟩ : ∃ b, decide (iv false (dig Q) < 0) = b := ⟨_, rfl⟩
          obtain ⟨m8, hm8⟩ : ∃ m, (iv false (dig Q)).natAbs = m := ⟨_, rfl⟩
          have H8 := Lib.hid hb8
          have K8 := Lib.hid hm8
          clear hdv hb8 hm8
          go_enter Tryz.func11, Tryz.ntmps11
          go_wp2_with fail
          rw [← hW0] at y0 m0 e0 f0 ⊢
          clear hW0
          have M0 := Lib.hid m0
          have E0 := Lib.hid e0
          have F0 := Lib.hid f0
          obtain ⟨⟨a1, a2⟩, ⟨b1, b2⟩, hs0⟩ := m0
          clear e0 f0
          refine (refdiv_ok (hA.ext y0) (hB.ext y0) (by have := L1.out; omega) (by have := L2.out; omega) HZ.out).mono ?_
          rintro e w1 ⟨q, r, rfl, hq, hr, x1⟩
          rw [HQ.out] at hq
          rw [HR.out] at hr
          obtain ⟨⟨g1, g2⟩, ⟨g3, g4⟩, -⟩ := M0.out.ext x1
          obtain ⟨ra_, rc_, rfl, -, -, -⟩ := hr.limbs.open
          have hrl := HRL.out
          go_wp2_with fail
          refine (refmake_ok hq.limbs (Nat.le_succ_of_le Q1.out) false H8.out K8.out).mono ?_
          rintro e w6 ⟨v8, rfl, hv8, x6⟩
          go_wp2_with fail
          refine (refmaker_ok (hr.limbs.ext x6) (Nat.le_succ_of_le R1.out)).mono ?_
          rintro e w7 ⟨v9, rfl, hv9, x7⟩
          obtain ⟨⟨c1, c2⟩, ⟨d1, d2⟩, s1⟩ := E0.out.ext (x1.trans (x6.trans x7))
          obtain ⟨⟨c3, c4⟩, ⟨d3, d4⟩, s2⟩ := F0.out.ext (x1.trans (x6.trans x7))
          have hv8' := hv8.ext x7
          obtain ⟨sa, sc, rfl, -, -, -⟩ := hv8.limbs.open
          obtain ⟨ta, tc, rfl, -, -, -⟩ := hv9.limbs.open
          have hz0 := F0.out.2.2
          go_wp2_with fail
          refine bodyPost_ret (v := .tuple #[.agg #[.bool b8, .slice sa (dig m8).length sc], .agg #[.bool false, .slice ta (dig R).length tc], .int .i64 0]) (by simp [results, Tryz.results11, go_sem, c1, c2, c3, c4]) rfl (RetID.of HY.out HD.out.1 HD.out.2 H8.out K8.out ?_ ?_ (ext_box2 (ext_box2 (y0.trans (x1.trans (x6.trans x7))) (by omega) _ _) (by omega) _ _))
          · have z1 := x1.size; have z6 := x6.size; exact ((hv8'.set2 (by omega) _ _).set2 (by omega) _ _).mono (by omega)
          · have z1 := x1.size; have z6 := x6.size; exact ((hv9.set2 (by omega) _ _).set2 (by omega) _ _).mono (by omega)
end Go.Proofs.YtefeglkbikcjeaaGreatDoor
