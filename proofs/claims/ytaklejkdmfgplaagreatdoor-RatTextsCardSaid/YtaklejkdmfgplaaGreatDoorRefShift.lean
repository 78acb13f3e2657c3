/- The reference's Power, Shl, Shr. -/
import Derived.Test.YtaklejkdmfgplaaGreatDoorRef02d
namespace Go.Proofs.YtaklejkdmfgplaaGreatDoor
open Go Go.RowKit

/-- a bit more in a row of digits -/
theorem bit_add {O : List Nat} (h : ∀ x ∈ O, x < 65536) {i : Nat} (hi : i / 16 < O.length) (hb : v16 O / 2 ^ i % 2 = 0) :
    el O (i / 16) + 2 ^ (i % 16) < 65536 ∧ v16 (O.set (i / 16) (el O (i / 16) + 2 ^ (i % 16))) = v16 O + 2 ^ i := by
  obtain ⟨q, hq⟩ : ∃ q, i / 16 = q := ⟨_, rfl⟩
  obtain ⟨r, hr⟩ : ∃ r, i % 16 = r := ⟨_, rfl⟩
  have hir : i = 16 * q + r := by omega
  have hr16 : r < 16 := by omega
  rw [hq] at hi
  rw [hq, hr]
  have hD := el16_eq h q
  obtain ⟨D, hDD⟩ : ∃ D, el O q = D := ⟨_, rfl⟩
  have hD16 : D < 65536 := by rw [← hDD]; exact el_16 h q
  have hbit : D / 2 ^ r % 2 = 0 := by
    rw [← hDD, hD, bit_16 _ _ _ hr16, ← hir]; exact hb
  rw [hDD]
  refine ⟨?_, ?_⟩
  · have h1 : D / 2 ^ r = 2 * (D / 2 ^ r / 2) := by omega
    obtain ⟨t, ht⟩ : ∃ t, D / 2 ^ r / 2 = t := ⟨_, rfl⟩
    rw [ht] at h1
    have h2 : D < 2 ^ r * (2 * t + 1) := by
      have h3 := Nat.lt_mul_div_succ D (Nat.two_pow_pos r)
      rw [h1] at h3
      exact h3
    have h4 : 2 ^ r * 2 * t ≤ D := by
      have h5 := Nat.mul_div_le D (2 ^ r)
      rw [h1] at h5
      rw [Nat.mul_assoc]; exact h5
    -- 65536 is a multiple of 2 ^ (r + 1)
    have h6 : 65536 = 2 ^ r * 2 * 2 ^ (15 - r) := by
      rw [← Nat.pow_succ, ← Nat.pow_add, show r + 1 + (15 - r) = 16 by omega]
    have h7 : t < 2 ^ (15 - r) := by
      have h8 : 2 ^ r * 2 * t < 2 ^ r * 2 * 2 ^ (15 - r) := by omega
      exact Nat.lt_of_mul_lt_mul_left h8
    have h9 : 2 ^ r * 2 * (t + 1) ≤ 2 ^ r * 2 * 2 ^ (15 - r) := Nat.mul_le_mul_left _ h7
    have h10 : 2 ^ r * 2 * (t + 1) = 2 ^ r * (2 * t + 1) + 2 ^ r := by
      rw [Nat.mul_assoc, show 2 * (t + 1) = 2 * t + 1 + 1 by omega, Nat.mul_add (2 ^ r) (2 * t + 1) 1, Nat.mul_one]
    omega
  · have h1 := v16_set hi (D + 2 ^ r)
    rw [hDD, Nat.mul_add] at h1
    have h2 : 65536 ^ q * 2 ^ r = 2 ^ i := by rw [pow16, ← Nat.pow_add, hir]
    omega

set_option maxHeartbeats 1000000 in
set_option maxRecDepth 100000 in
theorem refpower_calls (w : World) (n : Nat) (hn : n ≤ 65536) :
    Calls Tryz.prog 119 #[.int .i64 (n : Int)] w (RetNat w (2 ^ n)) := by
  obtain ⟨q, hq⟩ : ∃ q, n / 16 = q := ⟨_, rfl⟩
  obtain ⟨r, hr⟩ : ∃ r, n % 16 = r := ⟨_, rfl⟩
  have hqi : (n : Int) / 16 = (q : Int) := by omega
  have hri : (n : Int) % 16 = (r : Int) := by omega
  have n1 : (n : Int) ≤ 65536 := by omega
  have q1 : (q : Int) ≤ 4096 := by omega
  have r1 : (r : Int) ≤ 15 := by omega
  obtain ⟨m, hm⟩ : ∃ m, q + 1 = m := ⟨_, rfl⟩
  have hwm : IntKind.i64.wrap ((q : Int) + 1) = (m : Int) := by rw [IntWalk.i64_in _ (by omega)]; omega
  have hqm : q < m := by omega
  have HM : Hid (m ≤ Lmax) := by show m ≤ Lmax; rw [Lmax_def]; omega
  have HMJ : Hid (m + 4 ≤ Lmax) := by show m + 4 ≤ Lmax; rw [Lmax_def]; omega
  have R16 : Hid (r < 16) := by show r < 16; omega
  have HF := bit_add (O := List.replicate m 0) (fun x hx => by rw [List.eq_of_mem_replicate hx]; decide) (i := n) (by rw [List.length_replicate, hq]; exact hqm) (by rw [v16_zeros]; simp)
  rw [hq, hr, v16_zeros] at HF
  have e0 : el (List.replicate m 0) q = 0 := by
    rw [el16_eq (fun x hx => by rw [List.eq_of_mem_replicate hx]; decide), v16_zeros]; simp
  rw [e0, Nat.zero_add, Nat.zero_add] at HF
  have HF1 := Lib.hid HF.1
  have HF2 := Lib.hid HF.2
  clear hn hq hr hm HF e0
  go_enter Tryz.func119, Tryz.ntmps119
  go_wp2_with (at_make; refine make_limbs rfl _ _ 22 Tryz.underlying22 rfl m _ rfl rfl rfl HM.out ?_; intro w3 hown1 hg1; have O1 := Lib.hid hown1; have X1 : Hid (Ext w w3) := (Ext.refl w).grown hg1 (fun k hk => by cases hk); clear hown1 hg1)
  have hI0 : Hid (MulMem w w.heap.size m (List.replicate m 0) w3) := ⟨O1.out, X1.out⟩
  clear hwm O1 X1
  go_loopw [4, 5] (fun v4 v5 wr => ∃ k : Nat, v5 = .int .i64 (k : Int) ∧ k ≤ r ∧ v4 = .int .u64 ((2 ^ k : Nat) : Int) ∧ wr = w3) (fun _ v5 _ => r - (intOf v5).toNat)
  case atStart => exact ⟨0, rfl, Nat.zero_le _, rfl, rfl⟩
  case round =>
    obtain ⟨k, rfl, hk, rfl, rfl⟩ := hrel
    obtain ⟨x, hx⟩ : ∃ x, 2 ^ k = x := ⟨_, rfl⟩
    have HX := Lib.hid hx
    rw [hx]
    by_cases hkr : k < r
    · have hx16 : x ≤ 32768 := by rw [← hx]; exact Nat.le_trans (Nat.pow_le_pow_right (by decide) (show k ≤ 15 by omega)) (by decide)
      have hx2 : 2 ^ (k + 1) = 2 * x := by rw [Nat.pow_succ, hx]; omega
      have hwx : IntKind.u64.wrap (2 * (x : Int)) = ((2 ^ (k + 1) : Nat) : Int) := by rw [hx2, IntWalk.u64_in _ (by omega)]; omega
      have x1 : (x : Int) ≤ 32768 := by omega
      have LT := Lib.hid hkr
      clear hx hx16 hx2 hk hkr
      go_wp2_with fail
      exact ⟨⟨k + 1, by first | rfl | go_num, LT.out, rfl, by first | trivial | rfl⟩, by simp [intOf]; have := LT.out; omega⟩
    · have ek : k = r := by omega
      subst ek
      have hc := hI0.out.cell hqm (by simp)
      have hf := hI0.out.froz q
      have I4 := Lib.hid (hI0.out.set (Nat.le_refl _) q x)
      have HV : Hid (v16 ((List.replicate m 0).set q x) = 2 ^ n) := by show _ = _; rw [← HX.out]; exact HF2.out
      have H16 : Hid (∀ y ∈ (List.replicate m 0).set q x, y < 65536) := set_16 (fun y hy => by rw [List.eq_of_mem_replicate hy]; decide) (by rw [← HX.out]; exact HF1.out)
      have LL : Hid (((List.replicate m 0).set q x).length = m) := by show _ = _; simp
      have HLN : Hid (((List.replicate m 0).set q x).length + 4 ≤ Lmax) := by show _ ≤ Lmax; rw [LL.out]; exact HMJ.out
      have HL : Hid (Limbs (wr.setCell ⟨w.heap.size, q, none⟩ (.int .u64 (x : Int))) (.slice (some ⟨w.heap.size, 0, none⟩) m m) ((List.replicate m 0).set q x)) := ⟨by have := Own.sl (B := w.heap.size) (e := 54) (.inl I4.out.own); show Sl 1 _ _ (((List.replicate m 0).set q x).length) _; rw [LL.out]; exact this, lt_bs_16 H16.out⟩
      have X4 := Lib.hid I4.out.ext
      clear hx hk hkr
      go_wp2_with fail
      refine (join_calls HL.out H16.out HLN.out).mono ?_
      rintro e w5 ⟨r5, rfl, hr5, x5⟩
      rw [HV.out] at hr5
      have R5 := Lib.hid hr5
      have X5 := Lib.hid x5
      clear hr5 x5
      go_wp2_with fail
      go_ret
      exact RetNat.of_ext ⟨r5, rfl, R5.out, X5.out⟩ X4.out

theorem pow_dig_len {n : Nat} (hn : n ≤ 65536) : (dig (2 ^ n)).length ≤ 65536 := by
  have h := shl_fits (A := [1]) (fun x hx => by simp at hx; subst hx; rw [Bs_def]; decide) n
  rw [show val [1] = 1 by simp [val], Nat.one_mul] at h
  exact Nat.le_trans (dig_len_le h) (by simp; omega)

set_option maxHeartbeats 1000000 in
set_option maxRecDepth 100000 in
theorem refshl_ok {w : World} {v : Value} {A : List Nat} (hA : Limbs w v A) (hl : A.length ≤ 65536) (n : Nat) (hn : n ≤ 65536) :
    Calls Tryz.prog 73 #[v, .int .i64 (n : Int)] w fun e w' => ∃ r, e = .returned (.tuple #[r, .int .i64 0]) ∧ OwnL w.heap.size w' r (dig (val A * 2 ^ n)) ∧ Ext w w' := by
  have HA := Lib.hid hA
  have HL := Lib.hid hl
  have HN := Lib.hid hn
  have n1 : (n : Int) ≤ 65536 := by omega
  have HD : Hid ((dig (2 ^ n)).length ≤ 65536) := pow_dig_len hn
  clear hA hl hn
  go_enter Tryz.func73, Tryz.ntmps73
  go_wp2_with fail
  refine (refpower_calls _ n HN.out).mono ?_
  rintro e w1 ⟨r1, rfl, h1, x1⟩
  have H1 := Lib.hid h1
  have X1 := Lib.hid x1
  clear h1 x1
  go_wp2_with fail
  refine (refmul_calls (HA.out.ext X1.out) H1.out.limbs HL.out HD.out).mono ?_
  rintro e w2 ⟨r2, rfl, h2, x2⟩
  rw [val_dig] at h2
  have H2 := Lib.hid (h2.mono X1.out.size)
  have X2 := Lib.hid (X1.out.trans x2)
  clear h2 x2
  go_wp2_with fail
  go_ret2
  exact ⟨_, rfl, H2.out, X2.out⟩

theorem MulMem.ext' {w : World} {g n : Nat} {O : List Nat} {wr w' : World} (h : MulMem w g n O wr) (k : Ext wr w') : MulMem w g n O w' := ⟨ownsRow_ext' h.own k, h.ext.trans k⟩
/-- so many bits are told -/
structure ShrIn (a n D k : Nat) (O : List Nat) : Prop where
  len : O.length = D
  lt : ∀ x ∈ O, x < 65536
  val_eq : v16 O = a / 2 ^ n % 2 ^ k
theorem mod_pow_succ (x k : Nat) : x % 2 ^ (k + 1) = x % 2 ^ k + 2 ^ k * (x / 2 ^ k % 2) := by
  rw [Nat.pow_succ, Nat.mod_mul]
theorem ShrIn.skip {a n D k : Nat} {O : List Nat} (h : ShrIn a n D k O) (hb : a / 2 ^ (n + k) % 2 = 0) : ShrIn a n D (k + 1) O :=
  ⟨h.len, h.lt, by rw [h.val_eq, mod_pow_succ, Nat.div_div_eq_div_mul, ← Nat.pow_add, hb]; simp⟩
theorem ShrIn.bit {a n D k : Nat} {O : List Nat} (h : ShrIn a n D k O) (hb : a / 2 ^ (n + k) % 2 = 1) (hk : k / 16 < D) :
    el O (k / 16) + 2 ^ (k % 16) < 65536 ∧ ShrIn a n D (k + 1) (O.set (k / 16) (el O (k / 16) + 2 ^ (k % 16))) := by
  have h1 := bit_add h.lt (i := k) (by rw [h.len]; exact hk) (by rw [h.val_eq, Nat.div_eq_of_lt (Nat.mod_lt _ (Nat.two_pow_pos k))])
  refine ⟨h1.1, by rw [List.length_set]; exact h.len, set_16 h.lt h1.1, ?_⟩
  rw [h1.2, h.val_eq, mod_pow_succ, Nat.div_div_eq_div_mul, ← Nat.pow_add, hb, Nat.mul_one]

set_option maxHeartbeats 2000000 in
set_option maxRecDepth 100000 in
theorem refshr_ok {w : World} {v : Value} {A : List Nat} (hA : Limbs w v A) (hl : A.length ≤ 65536) (n : Nat) (hn : n ≤ 65536) :
    Calls Tryz.prog 117 #[v, .int .i64 (n : Int)] w fun e w' => ∃ r, e = .returned (.tuple #[r, .int .i64 0]) ∧ OwnL w.heap.size w' r (dig (val A / 2 ^ n)) ∧ Ext w w' := by
  obtain ⟨X, hX⟩ : ∃ X, X = dig16 (val A) := ⟨_, rfl⟩
  have lX : X.length ≤ 262144 := by rw [hX]; exact Nat.le_trans (dig16_len hA.2) (by omega)
  have hbl : bl (val A) ≤ 16 * X.length := by
    rw [bl_le_iff, ← pow16]
    have := v16_lt (A := X) (by rw [hX]; exact dig16_lt _)
    rwa [hX, v16_dig16, ← hX] at this
  obtain ⟨D, hD⟩ : ∃ D, X.length + 1 = D := ⟨_, rfl⟩
  obtain ⟨L, hL⟩ : ∃ L, bl (val A) = L := ⟨_, rfl⟩
  have HX := Lib.hid hX
  have HLL := Lib.hid hL
  have HLD : Hid (L < 16 * D) := by show L < _; omega
  have l1 : (L : Int) ≤ 4194304 := by omega
  have x1' : (X.length : Int) ≤ 262144 := by omega
  have n1 : (n : Int) ≤ 65536 := by omega
  have hwD : IntKind.i64.wrap ((X.length : Int) + 1) = (D : Int) := by rw [IntWalk.i64_in _ (by omega)]; omega
  have HDL : Hid (D ≤ Lmax) := by show D ≤ Lmax; rw [Lmax_def]; omega
  have HDJ : Hid (D + 4 ≤ Lmax) := by show D + 4 ≤ Lmax; rw [Lmax_def]; omega
  have HA := Lib.hid hA
  have HL := Lib.hid hl
  have D1 : (D : Int) ≤ 262145 := by omega
  clear hA hl hn hX hbl hL lX
  go_enter Tryz.func117, Tryz.ntmps117
  go_wp2_with fail
  refine (refdigits_calls HA.out (digits_room HL.out)).mono ?_
  rintro e w2 ⟨x, rfl, hx, x2⟩
  rw [← HX.out] at hx
  obtain ⟨xa, xc, rfl, -, -, -⟩ := hx.open
  have X2 := Lib.hid x2
  clear hx x2
  go_wp2_with (at_make; refine make_limbs rfl _ _ 22 Tryz.underlying22 rfl D _ rfl rfl rfl HDL.out ?_; intro w3 hown1 hg1; have I3 : Hid (MulMem w2 w2.heap.size D (List.replicate D 0) w3) := ⟨hown1, (Ext.refl w2).grown hg1 (by intro k hk; cases hk)⟩; clear hown1 hg1)
  clear hwD hD
  obtain ⟨g, hg⟩ : ∃ g, w2.heap.size = g := ⟨_, rfl⟩
  have HG : Hid (w2.heap.size ≤ g) := by show _ ≤ g; omega
  rw [hg] at I3 ⊢
  clear hg
  have S0 : Hid (ShrIn (val A) n D 0 (List.replicate D 0)) := ⟨by simp, fun x hx => by rw [List.eq_of_mem_replicate hx]; decide, by rw [v16_zeros, Nat.pow_zero, Nat.mod_one]⟩
  go_loopw [7] (fun v7 wr => ∃ (k : Nat) (O : List Nat), v7 = .int .i64 ((n + k : Nat) : Int) ∧ Hid (ShrIn (val A) n D k O) ∧ Hid (k = 0 ∨ n + k ≤ L) ∧ MulMem w2 g D O wr) (fun v7 _ => L - (intOf v7).toNat)
  case atStart => exact ⟨0, _, rfl, S0, .inl rfl, I3.out⟩
  case round =>
    clear I3 S0
    obtain ⟨k, O, rfl, hS, hk, hI⟩ := hrel
    have I := Lib.hid hI
    have AX : Hid (Limbs wr v A) := HA.out.ext (X2.out.trans hI.ext)
    clear hI
    obtain ⟨i, hi⟩ : ∃ i, n + k = i := ⟨_, rfl⟩
    have HI := Lib.hid hi
    rw [hi]
    go_wp2_with fail
    refine (reflen_calls AX.out HL.out).mono ?_
    rintro e w4 ⟨rfl, x4⟩
    rw [HLL.out]
    have I4 := Lib.hid (I.out.ext' x4)
    have AX4 := Lib.hid (AX.out.ext x4)
    clear x4 I AX
    by_cases hiL : i < L
    · have ii : (i : Int) ≤ 4194304 := by omega
      have LT := Lib.hid hiL
      have IB : Hid (i ≤ 1099511627776) := by show i ≤ 1099511627776; omega
      clear hi hk
      by_cases hb : val A / 2 ^ i % 2 = 1
      · have HB := Lib.hid hb
        obtain ⟨q, hq⟩ : ∃ q, k / 16 = q := ⟨_, rfl⟩
        obtain ⟨r, hr⟩ : ∃ r, k % 16 = r := ⟨_, rfl⟩
        have hqi : (k : Int) / 16 = (q : Int) := by omega
        have hri : (k : Int) % 16 = (r : Int) := by omega
        have hni := HI.out
        have hwk : IntKind.i64.wrap ((i : Int) - n) = (k : Int) := by rw [IntWalk.i64_in _ (by omega)]; omega
        have kk : (k : Int) ≤ 4194304 := by omega
        have r1 : (r : Int) ≤ 15 := by omega
        have q1 : (q : Int) ≤ 262144 := by omega
        have hqD : q < D := by have := HLD.out; omega
        have hbit := hS.out.bit (by rw [hni]; exact hb) (by rw [hq]; exact hqD)
        rw [hq, hr] at hbit
        obtain ⟨d, hd⟩ : ∃ d, el O q = d := ⟨_, rfl⟩
        rw [hd] at hbit
        have HS1 := Lib.hid hbit.1
        have HS2 := Lib.hid hbit.2
        have HD := Lib.hid hd
        have HOL := Lib.hid hS.out.len
        clear hb hq hr hni hbit hd hS hiL
        go_wp2_with fail
        refine (refbit_calls AX4.out HL.out i IB.out _ rfl true (by rw [decide_eq_true_eq]; exact HB.out)).mono ?_
        rintro e w5 ⟨rfl, x5⟩
        have I5 := Lib.hid (I4.out.ext' x5)
        clear x5 I4 AX4
        go_wp2_with fail
        clear hwk
        go_loopw [9, 10] (fun v9 v10 wr => ∃ m : Nat, v10 = .int .i64 (m : Int) ∧ m ≤ r ∧ v9 = .int .u64 ((2 ^ m : Nat) : Int) ∧ wr = w5) (fun _ v10 _ => r - (intOf v10).toNat)
        case atStart => exact ⟨0, rfl, Nat.zero_le _, rfl, rfl⟩
        case round =>
          obtain ⟨m, rfl, hm, rfl, rfl⟩ := hrel
          obtain ⟨x, hx⟩ : ∃ x, 2 ^ m = x := ⟨_, rfl⟩
          have HX := Lib.hid hx
          rw [hx]
          by_cases hmr : m < r
          · have hx16 : x ≤ 32768 := by rw [← hx]; exact Nat.le_trans (Nat.pow_le_pow_right (by decide) (show m ≤ 15 by omega)) (by decide)
            have hx2 : 2 ^ (m + 1) = 2 * x := by rw [Nat.pow_succ, hx]; omega
            have hwx : IntKind.u64.wrap (2 * (x : Int)) = ((2 ^ (m + 1) : Nat) : Int) := by rw [hx2, IntWalk.u64_in _ (by omega)]; omega
            have xx : (x : Int) ≤ 32768 := by omega
            have LM := Lib.hid hmr
            clear hx hx16 hx2 hm hmr
            go_wp2_with fail
            exact ⟨⟨m + 1, by first | rfl | go_num, LM.out, rfl, by first | trivial | rfl⟩, by simp [intOf]; have := LM.out; omega⟩
          · have em : m = r := by omega
            subst em
            have HS1x : d + x < 65536 := by have := HS1.out; rwa [hx] at this
            have hws : IntKind.u64.wrap ((d : Int) + (x : Int)) = ((d + x : Nat) : Int) := by rw [IntWalk.u64_in _ (by omega)]; omega
            have hc := I5.out.cell hqD HOL.out
            rw [HD.out] at hc
            have hf := I5.out.froz q
            have I6 := Lib.hid (I5.out.set HG.out q (d + x))
            have HS3 : Hid (ShrIn (val A) n D (k + 1) (O.set q (d + x))) := by have := HS2.out; rwa [hx] at this
            have hdx : ((d + x : Nat) : Int) ≤ 65535 := by omega
            have hwi : IntKind.i64.wrap ((i : Int) + 1) = ((n + (k + 1) : Nat) : Int) := by have := HI.out; rw [IntWalk.i64_in _ (by omega)]; omega
            have HK2 : Hid (k + 1 = 0 ∨ n + (k + 1) ≤ L) := .inr (by have := HI.out; have := LT.out; omega)
            clear hx hm hmr HS1x
            go_wp2_with fail
            exact ⟨⟨k + 1, _, by first | rfl | go_num, HS3, HK2, I6.out⟩, by simp [intOf]; have := LT.out; have := HI.out; omega⟩
      · have HB0 : Hid (val A / 2 ^ i % 2 = 0) := by show _ = _; omega
        have HBF : Hid (decide (val A / 2 ^ i % 2 = 1) = false) := by show _ = _; rw [decide_eq_false_iff_not]; exact hb
        have HS3 : Hid (ShrIn (val A) n D (k + 1) O) := hS.out.skip (by rw [HI.out]; exact HB0.out)
        have hwi : IntKind.i64.wrap ((i : Int) + 1) = ((n + (k + 1) : Nat) : Int) := by have := HI.out; rw [IntWalk.i64_in _ (by omega)]; omega
        have HK2 : Hid (k + 1 = 0 ∨ n + (k + 1) ≤ L) := .inr (by have := HI.out; have := LT.out; omega)
        clear hb hS hiL
        go_wp2_with fail
        refine (refbit_calls AX4.out HL.out i IB.out _ rfl false HBF.out).mono ?_
        rintro e w5 ⟨rfl, x5⟩
        have I5 := Lib.hid (I4.out.ext' x5)
        clear x5 I4 AX4
        go_wp2_with fail
        exact ⟨⟨k + 1, _, by first | rfl | go_num, HS3, HK2, I5.out⟩, by simp [intOf]; have := LT.out; have := HI.out; omega⟩
    · have t2 : (L : Int) ≤ i := by omega
      have HV : Hid (v16 O = val A / 2 ^ n) := by
        show _ = _
        rw [hS.out.val_eq]
        refine Nat.mod_eq_of_lt ?_
        have h1 := lt_bl (val A)
        rw [HLL.out] at h1
        rw [Nat.div_lt_iff_lt_mul (Nat.two_pow_pos n), ← Nat.pow_add]
        exact Nat.lt_of_lt_of_le h1 (Nat.pow_le_pow_right (by decide) (by have := HI.out; omega))
      have H16 := Lib.hid hS.out.lt
      have HOL := Lib.hid hS.out.len
      have HLN : Hid (O.length + 4 ≤ Lmax) := by show _ ≤ Lmax; rw [HOL.out]; exact HDJ.out
      have HLm : Hid (Limbs w4 (.slice (some ⟨g, 0, none⟩) D D) O) := ⟨by have := Own.sl (B := g) (e := 54) (.inl I4.out.own); show Sl 1 _ _ O.length _; rw [HOL.out]; exact this, lt_bs_16 H16.out⟩
      have X4 : Hid (Ext w w4) := X2.out.trans I4.out.ext
      clear hS hk hi hiL AX4 I4
      go_wp2_with fail
      refine (join_calls HLm.out H16.out HLN.out).mono ?_
      rintro e w5 ⟨r5, rfl, hr5, x5⟩
      rw [HV.out] at hr5
      have R5 := Lib.hid (hr5.mono X4.out.size)
      have X5 := Lib.hid (X4.out.trans x5)
      clear hr5 x5
      go_wp2_with fail
      go_ret2
      exact ⟨r5, rfl, R5.out, X5.out⟩
end Go.Proofs.YtaklejkdmfgplaaGreatDoor
