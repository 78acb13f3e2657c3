/- Contracts of package tombolaref02: Sub, Small, Len, Bit. -/
import Derived.Test.YtefeglkbikcjeaaGreatDoorRef02b
import Derived.Test.YtefeglkbikcjeaaGreatDoorPartB
import Derived.Test.YtefeglkbikcjeaaGreatDoorPartA
import Derived.IntWalk
namespace Go.Proofs.YtefeglkbikcjeaaGreatDoor
open Go Go.RowKit

theorem dig16_mono {x y : Nat} (h : y ≤ x) : (dig16 y).length ≤ (dig16 x).length := by
  refine dig16_len_le (Nat.lt_of_le_of_lt h ?_)
  have := v16_lt (dig16_lt x)
  rwa [v16_dig16] at this

theorem refcmp_int {w : World} {v u : Value} {A B : List Nat} (hA : Limbs w v A) (hB : Limbs w u B) (hlA : A.length ≤ 65536) (hlB : B.length ≤ 65536) (k : Int) (hk : cmpN (val A) (val B) = k) :
    Calls Tryz.prog 116 #[v, u] w fun e w' => e = .returned (.int .i64 k) ∧ Ext w w' := by
  rw [← hk]; exact refcmp_calls hA hB hlA hlB

set_option maxHeartbeats 2000000 in
set_option maxRecDepth 100000 in
theorem refsub_calls {w : World} {v u : Value} {A B : List Nat} (hA : Limbs w v A) (hB : Limbs w u B) (hlA : A.length ≤ 65536) (hlB : B.length ≤ 65536) :
    Calls Tryz.prog 68 #[v, u] w (RetSub w (val A) (val B)) := by
  have HLA := Lib.hid hlA
  have HLB := Lib.hid hlB
  by_cases h : val A < val B
  · have HC : Hid (cmpN (val A) (val B) = -1) := cmpN_lt h
    have H := Lib.hid h
    clear hlA hlB h
    go_enter Tryz.func68, Tryz.ntmps68
    go_wp2_with fail
    refine (refcmp_int hA hB HLA.out HLB.out (-1) HC.out).mono ?_
    rintro e w1 ⟨rfl, x1⟩
    go_wp2_with fail
    go_ret2
    exact ⟨_, by rw [if_pos H.out]; rfl, by rw [show val A - val B = 0 by have := H.out; omega, dig_zero]; exact OwnL.nil _ _, x1⟩
  · obtain ⟨c, hc⟩ : ∃ c, cmpN (val A) (val B) = c := ⟨_, rfl⟩
    have hc0 : 0 ≤ c := by rw [← hc]; unfold cmpN; rw [if_neg h]; split <;> decide
    obtain ⟨X, hX⟩ : ∃ X, X = dig16 (val A) := ⟨_, rfl⟩
    obtain ⟨Y, hY⟩ : ∃ Y, Y = dig16 (val B) := ⟨_, rfl⟩
    have HX16 : Hid (∀ x ∈ X, x < 65536) := by rw [hX]; exact dig16_lt _
    have HY16 : Hid (∀ x ∈ Y, x < 65536) := by rw [hY]; exact dig16_lt _
    have HXV : Hid (v16 X = val A) := by show _ = _; rw [hX, v16_dig16]
    have HYV : Hid (v16 Y = val B) := by show _ = _; rw [hY, v16_dig16]
    have lX : X.length ≤ 262144 := by rw [hX]; exact Nat.le_trans (dig16_len hA.2) (by omega)
    have lYX : Y.length ≤ X.length := by rw [hX, hY]; exact dig16_mono (by omega)
    have HX := Lib.hid hX
    have HY := Lib.hid hY
    have H := Lib.hid h
    have HC := Lib.hid hc
    have HYX := Lib.hid lYX
    clear hX hY h hc
    go_enter Tryz.func68, Tryz.ntmps68
    go_wp2_with fail
    refine (refcmp_int hA hB HLA.out HLB.out c HC.out).mono ?_
    rintro e w0 ⟨rfl, x0⟩
    go_wp2_with fail
    refine (refdigits_calls (hA.ext x0) (digits_room hlA)).mono ?_
    rintro e w1 ⟨x, rfl, hx, x1⟩
    rw [← HX.out] at hx
    go_wp2_with fail
    refine (refdigits_calls (hB.ext (x0.trans x1)) (digits_room hlB)).mono ?_
    rintro e w2 ⟨y, rfl, hy, x2⟩
    rw [← HY.out] at hy
    obtain ⟨xa, xc, rfl, -, -, -⟩ := hx.open
    obtain ⟨ya, yc, rfl, -, -, -⟩ := hy.open
    have lXi : (X.length : Int) ≤ 262144 := by omega
    have lYi : (Y.length : Int) ≤ 262144 := by omega
    have LX := Lib.hid lX
    clear lX hlA hlB hc0 lYX
    go_wp2_with fail
    go_loopw [8, 9, 10, 11, 12] (fun v8 v9 v10 _ _ wr => ∃ (i b : Nat) (C : List Nat), v10 = .int .i64 (i : Int) ∧ v9 = .int .u64 (b : Int) ∧ i ≤ X.length ∧ Hid (DifInv X Y i b C) ∧ OutMem w2 C v8 wr) (fun _ _ v10 _ _ _ => X.length - (intOf v10).toNat)
    case atStart => exact ⟨0, 0, [], rfl, rfl, Nat.zero_le _, DifInv.start X Y, OutMem.nil w2⟩
    case round =>
      obtain ⟨i, b, C, rfl, rfl, hi, hS, hI⟩ := hrel
      by_cases c1 : i < X.length
      · have hb := hS.out.b_le
        have hbi : (b : Int) ≤ 1 := by omega
        obtain ⟨p, hp⟩ : ∃ p, el X i = p := ⟨_, rfl⟩
        obtain ⟨q, hq⟩ : ∃ q, el Y i = q := ⟨_, rfl⟩
        have hp16 := el_16 HX16.out i
        have hq16 := el_16 HY16.out i
        rw [hp] at hp16
        rw [hq] at hq16
        have hpi : (p : Int) ≤ 65535 := by omega
        have hqi : (q : Int) ≤ 65535 := by omega
        have HCL : Hid (C.length + 1 ≤ Lmax) := by show _ ≤ Lmax; rw [hS.out.len, Lmax_def]; have := LX.out; omega
        have HI := Lib.hid hI
        obtain ⟨xb, xo, rfl, hcx⟩ := hx.at rfl (x2.trans HI.out.ext) c1
        rw [hp] at hcx
        have HP := Lib.hid hp
        have HQ := Lib.hid hq
        by_cases c2 : i < Y.length
        · obtain ⟨yb, yo, rfl, hcy⟩ := hy.at rfl HI.out.ext c2
          rw [hq] at hcy
          by_cases c3 : p < b + q
          · have HN : Hid (DifInv X Y (i + 1) 1 (C ++ [p + 65536 - (b + q)])) := hS.out.next (by rw [HP.out, HQ.out]; omega) (by omega) (by omega)
            have HSL : Hid (∀ x ∈ [p + 65536 - (b + q)], x < Bs) := lt_bs_16 (by simp; omega)
            have c3i : (p : Int) < (b : Int) + (q : Int) := by omega
            have hd : (p : Int) + 65536 - ((b : Int) + (q : Int)) = ((p + 65536 - (b + q) : Nat) : Int) := by omega
            clear hp hq hp16 hq16 hI hb c3
            go_wp2_with (at_builtin; refine append_limbs rfl _ _ 22 Tryz.underlying22 rfl w2.heap.size _ C.length (C.map lv) rfl (ownsRow_ext' HI.out.own ((Ext.refl wr).alloc _)) (Nat.le_trans HI.out.ext.size (by simp)) _ [p + 65536 - (b + q)] rfl (limbs_lit wr [p + 65536 - (b + q)] HSL.out _ rfl 1 rfl (by rw [Lmax_def]; simp)) HCL.out ?_; intro v' w' hown' hgrow; have HO := Lib.hid (HI.out.grow1 hown' hgrow); clear hown')
            exact ⟨⟨i + 1, 1, _, by go_num, rfl, by omega, HN, HO.out⟩, by simp [intOf]; omega⟩
          · have HN : Hid (DifInv X Y (i + 1) 0 (C ++ [p - (b + q)])) := hS.out.next (by rw [HP.out, HQ.out]; omega) (by omega) (by omega)
            have HSL : Hid (∀ x ∈ [p - (b + q)], x < Bs) := lt_bs_16 (by simp; omega)
            have c3i : ¬ (p : Int) < (b : Int) + (q : Int) := by omega
            have hd : (p : Int) - ((b : Int) + (q : Int)) = ((p - (b + q) : Nat) : Int) := by omega
            clear hp hq hp16 hq16 hI hb c3
            go_wp2_with (at_builtin; refine append_limbs rfl _ _ 22 Tryz.underlying22 rfl w2.heap.size _ C.length (C.map lv) rfl (ownsRow_ext' HI.out.own ((Ext.refl wr).alloc _)) (Nat.le_trans HI.out.ext.size (by simp)) _ [p - (b + q)] rfl (limbs_lit wr [p - (b + q)] HSL.out _ rfl 1 rfl (by rw [Lmax_def]; simp)) HCL.out ?_; intro v' w' hown' hgrow; have HO := Lib.hid (HI.out.grow1 hown' hgrow); clear hown')
            exact ⟨⟨i + 1, 0, _, by go_num, rfl, by omega, HN, HO.out⟩, by simp [intOf]; omega⟩
        · have hq0 : q = 0 := by rw [← hq]; exact el_of_ge (Nat.not_lt.1 c2)
          subst hq0
          by_cases c3 : p < b
          · have HN : Hid (DifInv X Y (i + 1) 1 (C ++ [p + 65536 - b])) := hS.out.next (by rw [HP.out, HQ.out]; omega) (by omega) (by omega)
            have HSL : Hid (∀ x ∈ [p + 65536 - b], x < Bs) := lt_bs_16 (by simp; omega)
            have c3i : (p : Int) < (b : Int) := by omega
            have hd : (p : Int) + 65536 - (b : Int) = ((p + 65536 - b : Nat) : Int) := by omega
            clear hp hq hp16 hq16 hI hb c3
            go_wp2_with (at_builtin; refine append_limbs rfl _ _ 22 Tryz.underlying22 rfl w2.heap.size _ C.length (C.map lv) rfl (ownsRow_ext' HI.out.own ((Ext.refl wr).alloc _)) (Nat.le_trans HI.out.ext.size (by simp)) _ [p + 65536 - b] rfl (limbs_lit wr [p + 65536 - b] HSL.out _ rfl 1 rfl (by rw [Lmax_def]; simp)) HCL.out ?_; intro v' w' hown' hgrow; have HO := Lib.hid (HI.out.grow1 hown' hgrow); clear hown')
            exact ⟨⟨i + 1, 1, _, by go_num, rfl, by omega, HN, HO.out⟩, by simp [intOf]; omega⟩
          · have HN : Hid (DifInv X Y (i + 1) 0 (C ++ [p - b])) := hS.out.next (by rw [HP.out, HQ.out]; omega) (by omega) (by omega)
            have HSL : Hid (∀ x ∈ [p - b], x < Bs) := lt_bs_16 (by simp; omega)
            have c3i : ¬ (p : Int) < (b : Int) := by omega
            have hd : (p : Int) - (b : Int) = ((p - b : Nat) : Int) := by omega
            clear hp hq hp16 hq16 hI hb c3
            go_wp2_with (at_builtin; refine append_limbs rfl _ _ 22 Tryz.underlying22 rfl w2.heap.size _ C.length (C.map lv) rfl (ownsRow_ext' HI.out.own ((Ext.refl wr).alloc _)) (Nat.le_trans HI.out.ext.size (by simp)) _ [p - b] rfl (limbs_lit wr [p - b] HSL.out _ rfl 1 rfl (by rw [Lmax_def]; simp)) HCL.out ?_; intro v' w' hown' hgrow; have HO := Lib.hid (HI.out.grow1 hown' hgrow); clear hown')
            exact ⟨⟨i + 1, 0, _, by go_num, rfl, by omega, HN, HO.out⟩, by simp [intOf]; omega⟩
      · obtain rfl : i = X.length := by omega
        have HV : Hid (v16 C = val A - val B) := by
          show _ = _
          rw [hS.out.fin HX16.out HYX.out (by rw [HXV.out, HYV.out]; exact Nat.not_lt.1 H.out), HXV.out, HYV.out]
        have HC16 := Lib.hid hS.out.lt
        have HCN : Hid (C.length + 4 ≤ Lmax) := by show _ ≤ Lmax; rw [hS.out.len, Lmax_def]; have := LX.out; omega
        have HLM := Lib.hid (hI.ownL (fun x hx => lt_bs_16 HC16.out x hx)).limbs
        have hxt := hI.ext
        go_wp2_with fail
        refine (join_calls HLM.out HC16.out HCN.out).mono ?_
        rintro e w3 ⟨r, rfl, hr, x3⟩
        rw [HV.out] at hr
        have X0 := x0.trans (x1.trans (x2.trans hxt))
        go_wp2_with fail
        go_ret2
        exact ⟨r, by rw [if_neg H.out]; rfl, hr.mono X0.size, X0.trans x3⟩

theorem pow16 (k : Nat) : (65536 : Nat) ^ k = 2 ^ (16 * k) := by rw [show (65536 : Nat) = 2 ^ 16 by decide, ← Nat.pow_mul]
theorem el16_eq {X : List Nat} (h : ∀ x ∈ X, x < 65536) (k : Nat) : el X k = v16 X / 65536 ^ k % 65536 := by
  rw [← v16_drop h k]
  by_cases hk : k < X.length
  · rw [List.drop_eq_getElem_cons hk, v16_cons, Nat.add_mul_mod_self_left, el_of_lt hk, Nat.mod_eq_of_lt (h _ (List.getElem_mem hk))]
  · rw [el_of_ge (Nat.not_lt.1 hk), List.drop_eq_nil_of_le (Nat.not_lt.1 hk), v16_nil]
theorem dig16_top {m : Nat} {k : Nat} (h : (dig16 m).length = k + 1) : el (dig16 m) k = m / 65536 ^ k ∧ m / 65536 ^ k ≠ 0 := by
  have hm : m ≠ 0 := by intro e; rw [e, dig16_zero] at h; simp at h
  have h1 := dig16_ge hm
  rw [h, Nat.add_sub_cancel] at h1
  have h2 : m < 65536 ^ (k + 1) := by have := v16_lt (dig16_lt m); rwa [v16_dig16, h] at this
  refine ⟨?_, ?_⟩
  · rw [el16_eq (dig16_lt m), v16_dig16]
    refine Nat.mod_eq_of_lt ?_
    rw [Nat.div_lt_iff_lt_mul (Nat.pow_pos (by decide)), Nat.mul_comm, ← Nat.pow_succ]
    exact h2
  · have := Nat.div_pos h1 (Nat.pow_pos (by decide))
    omega
theorem bl_dig16 {m k : Nat} (h : (dig16 m).length = k + 1) : bl m = 16 * k + bl (el (dig16 m) k) := by
  obtain ⟨h1, h2⟩ := dig16_top h
  rw [h1, pow16]
  rw [pow16] at h2
  exact bl_shift h2

set_option maxHeartbeats 1000000 in
set_option maxRecDepth 100000 in
theorem reflen_calls {w : World} {v : Value} {A : List Nat} (hA : Limbs w v A) (hl : A.length ≤ 65536) :
    Calls Tryz.prog 113 #[v] w fun e w' => e = .returned (.int .i64 ((bl (val A) : Nat) : Int)) ∧ Ext w w' := by
  obtain ⟨X, hX⟩ : ∃ X, X = dig16 (val A) := ⟨_, rfl⟩
  have lX : X.length ≤ 262144 := by rw [hX]; exact Nat.le_trans (dig16_len hA.2) (by omega)
  have HX16 : Hid (∀ x ∈ X, x < 65536) := by rw [hX]; exact dig16_lt _
  by_cases h0 : X.length = 0
  · have HB : Hid (bl (val A) = 0) := by
      show _ = _
      have : val A = 0 := by rw [← v16_dig16 (val A), ← hX, List.length_eq_zero_iff.1 h0, v16_nil]
      rw [this]; exact bl_zero
    have hXn : X = [] := List.length_eq_zero_iff.1 h0
    subst hXn
    have HX := Lib.hid hX
    clear hX h0
    go_enter Tryz.func113, Tryz.ntmps113
    go_wp2_with fail
    refine (refdigits_calls hA (digits_room hl)).mono ?_
    rintro e w1 ⟨x, rfl, hx, x1⟩
    rw [← HX.out] at hx
    obtain ⟨xa, xc, rfl, -, -, -⟩ := hx.open
    go_wp2_with fail
    go_ret
    exact ⟨ret_eq (int_eq (by rw [HB.out]; rfl)), x1⟩
  · obtain ⟨k, hk⟩ : ∃ k, X.length = k + 1 := ⟨X.length - 1, by omega⟩
    obtain ⟨t, ht⟩ : ∃ t, el X k = t := ⟨_, rfl⟩
    have HB : Hid (bl (val A) = 16 * k + bl t) := by show _ = _; rw [bl_dig16 (k := k) (by rw [← hX]; exact hk), ← hX, ht]
    have HT := Lib.hid ht
    have t16 := el_16 HX16.out k
    rw [ht] at t16
    have HX := Lib.hid hX
    have HKX := Lib.hid hk
    have hki : (k : Int) ≤ 262143 := by omega
    have hlen : ((X.length : Nat) : Int) = (k : Int) + 1 := by omega
    clear hX h0 ht hk
    go_enter Tryz.func113, Tryz.ntmps113
    go_wp2_with fail
    refine (refdigits_calls hA (digits_room hl)).mono ?_
    rintro e w1 ⟨x, rfl, hx, x1⟩
    rw [← HX.out] at hx
    obtain ⟨xa, xc, rfl, -, -, -⟩ := hx.open
    obtain ⟨xb, xo, rfl, hcx⟩ := hx.at rfl (Ext.refl _) (i := k) (by rw [HKX.out]; omega)
    rw [HT.out] at hcx
    have hkl : (k : Int) < (X.length : Int) := by omega
    clear hx
    go_wp2_with fail
    go_loop [4, 5] (fun v4 v5 => ∃ (n x : Nat), v4 = .int .i64 (n : Int) ∧ v5 = .int .u64 (x : Int) ∧ Hid (n + bl x = 16 * k + bl t) ∧ Hid (x < 65536)) (fun _ v5 => (intOf v5).toNat)
    case atStart => exact ⟨16 * k, t, by go_num, rfl, rfl, t16⟩
    case round =>
      obtain ⟨n, x, rfl, rfl, hI, hx16⟩ := hrel
      by_cases hx0 : x = 0
      · subst hx0
        have HR : Hid (bl (val A) = n) := by show _ = _; have := hI.out; rw [bl_zero] at this; rw [HB.out]; omega
        go_wp2_with fail
        go_ret
        exact ⟨ret_eq (int_eq (by rw [HR.out])), x1⟩
      · have HH := Lib.hid (bl_half hx0)
        have hxi : (x : Int) ≤ 65535 := by have := hx16.out; omega
        have hx1 : (0 : Int) < (x : Int) := by omega
        have hni : (n : Int) ≤ 9000000 := by
          have h1 := hI.out
          have h2 := (bl_le_iff t 16).2 t16
          omega
        have HN : Hid (n + 1 + bl (x / 2) = 16 * k + bl t) := by show _ = _; have h1 := hI.out; have h2 := HH.out; omega
        have HM : Hid (x / 2 < 65536) := by show _ < _; omega
        clear hx0
        go_wp2_with fail
        exact ⟨⟨n + 1, x / 2, by go_num, int_eq (by simp), HN, HM⟩, by simp [intOf]; omega⟩

theorem bit_16 (m q r : Nat) (hr : r < 16) : m / 65536 ^ q % 65536 / 2 ^ r % 2 = m / 2 ^ (16 * q + r) % 2 := by
  rw [pow16, Nat.pow_add, ← Nat.div_div_eq_div_mul]
  generalize m / 2 ^ (16 * q) = y
  obtain ⟨s, hs⟩ : ∃ s, 65536 = 2 ^ r * (2 * 2 ^ s) := ⟨15 - r, by rw [← Nat.pow_succ', ← Nat.pow_add, show r + (15 - r + 1) = 16 by omega]⟩
  rw [hs, Nat.mod_mul_right_div_self, Nat.mod_mul_right_mod]

set_option maxHeartbeats 1000000 in
set_option maxRecDepth 100000 in
theorem refbit_calls {w : World} {v : Value} {A : List Nat} (hA : Limbs w v A) (hl : A.length ≤ 65536) (n : Nat) (hn : n ≤ 1099511627776) (z : Int) (hz : z = (n : Int)) (b : Bool) (hb : decide (val A / 2 ^ n % 2 = 1) = b) :
    Calls Tryz.prog 114 #[v, .int .i64 z] w fun e w' => e = .returned (.bool b) ∧ Ext w w' := by
  subst hz
  obtain ⟨X, hX⟩ : ∃ X, X = dig16 (val A) := ⟨_, rfl⟩
  have lX : X.length ≤ 262144 := by rw [hX]; exact Nat.le_trans (dig16_len hA.2) (by omega)
  have HX16 : Hid (∀ x ∈ X, x < 65536) := by rw [hX]; exact dig16_lt _
  have HV : Hid (v16 X = val A) := by show _ = _; rw [hX, v16_dig16]
  obtain ⟨q, hq⟩ : ∃ q, n / 16 = q := ⟨_, rfl⟩
  obtain ⟨r, hr⟩ : ∃ r, n % 16 = r := ⟨_, rfl⟩
  have hqi : (n : Int) / 16 = (q : Int) := by omega
  have hri : (n : Int) % 16 = (r : Int) := by omega
  have hr16 : (r : Int) ≤ 15 := by omega
  have hnn : ¬ (n : Int) < 0 := by omega
  have hnm : (n : Int) ≤ 1099511627776 := by omega
  have HNQ : Hid (n = 16 * q + r) := by show _ = _; omega
  have HX := Lib.hid hX
  by_cases hql : X.length ≤ q
  · have HF : Hid (b = false) := by
      show _ = _
      rw [← hb, decide_eq_false_iff_not]
      have : val A / 2 ^ n = 0 := by
        refine Nat.div_eq_of_lt ?_
        rw [← HV.out]
        refine Nat.lt_of_lt_of_le (v16_lt HX16.out) ?_
        rw [pow16]
        exact Nat.pow_le_pow_right (by decide) (by have := HNQ.out; omega)
      rw [this]; decide
    have hqli : (X.length : Int) ≤ (q : Int) := by omega
    have hqli2 : ¬ (q : Int) < (X.length : Int) := by omega
    clear hX hb hq hr hn
    go_enter Tryz.func114, Tryz.ntmps114
    go_wp2_with fail
    refine (refdigits_calls hA (digits_room hl)).mono ?_
    rintro e w1 ⟨x, rfl, hx, x1⟩
    rw [← HX.out] at hx
    obtain ⟨xa, xc, rfl, -, -, -⟩ := hx.open
    go_wp2_with fail
    go_ret
    exact ⟨ret_eq (by rw [HF.out]; rfl), x1⟩
  · obtain ⟨t, ht⟩ : ∃ t, el X q = t := ⟨_, rfl⟩
    have HB : Hid (decide (t / 2 ^ r % 2 = 1) = b) := by
      show _ = _
      rw [← hb, ← ht, el16_eq HX16.out, HV.out, bit_16 _ _ _ (by omega), ← HNQ.out]
    have t16 := el_16 HX16.out q
    rw [ht] at t16
    have HT := Lib.hid ht
    have HQL : Hid (q < X.length) := Nat.not_le.1 hql
    have hqli : (q : Int) < (X.length : Int) := by omega
    have HT16 := Lib.hid t16
    clear hX hb hq hr hn ht hql t16
    go_enter Tryz.func114, Tryz.ntmps114
    go_wp2_with fail
    refine (refdigits_calls hA (digits_room hl)).mono ?_
    rintro e w1 ⟨x, rfl, hx, x1⟩
    rw [← HX.out] at hx
    obtain ⟨xa, xc, rfl, -, -, -⟩ := hx.open
    obtain ⟨xb, xo, rfl, hcx⟩ := hx.at rfl (Ext.refl _) (i := q) HQL.out
    rw [HT.out] at hcx
    clear hx
    go_wp2_with fail
    go_loop [6, 7] (fun v6 v7 => ∃ (k x : Nat), v7 = .int .i64 (k : Int) ∧ v6 = .int .u64 (x : Int) ∧ k ≤ r ∧ Hid (x = t / 2 ^ k) ∧ (x : Int) ≤ 65535) (fun _ v7 => r - (intOf v7).toNat)
    case atStart => exact ⟨0, t, rfl, rfl, Nat.zero_le _, by show t = _; rw [Nat.pow_zero, Nat.div_one], by have := HT16.out; omega⟩
    case round =>
      obtain ⟨k, x, rfl, rfl, hk, hI, hxi⟩ := hrel
      by_cases hkr : k < r
      · have hkri : (k : Int) < (r : Int) := by omega
        have HN : Hid (x / 2 = t / 2 ^ (k + 1)) := by show _ = _; rw [hI.out, Nat.div_div_eq_div_mul, Nat.pow_succ]
        go_wp2_with fail
        exact ⟨⟨k + 1, x / 2, by go_num, int_eq (by simp), by omega, HN, by omega⟩, by simp [intOf]; omega⟩
      · obtain rfl : k = r := by omega
        obtain ⟨y, hy⟩ : ∃ y : Int, (x : Int) % 2 = y := ⟨_, rfl⟩
        have hyb : (y == 1) = b := by
          rw [← HB.out, ← hI.out, Bool.eq_iff_iff, beq_iff_eq, decide_eq_true_eq]; omega
        have hkr2 : ¬ (k : Int) < (k : Int) := by omega
        clear hk
        go_wp2_with fail
        go_ret
        exact ⟨rfl, x1⟩
end Go.Proofs.YtefeglkbikcjeaaGreatDoor
