/- The contract of tombolaref06.Div, where one of both is not below 2 to the power of 64. -/
import Derived.Test.YtaklejkdmfgplaaGreatDoorRefShift
import Derived.Test.YtaklejkdmfgplaaGreatDoorRef03
namespace Go.Proofs.YtaklejkdmfgplaaGreatDoor
open Go Go.RowKit

theorem OwnL.storeB {B g o : Nat} {w : World} {v u : Value} {A : List Nat} (h : OwnL B w v A) (hg : g < B) : OwnL B (w.setCell ⟨g, o, none⟩ u) v A := by
  refine ⟨?_, h.2⟩
  have hsz : (w.setCell ⟨g, o, none⟩ u).heap.size = w.heap.size := by simp [World.setCell]
  rcases h.1 with ⟨h1, h2⟩ | ⟨a, e1, e2, e3, h4⟩
  · refine .inl ⟨h1, ?_⟩
    rcases h2 with h2 | ⟨g', cap, c', e, hg', hh, rest⟩
    · exact .inl h2
    · exact .inr ⟨g', cap, c', e, hg', by rw [Below.heap_setCell _ _ _ _ (by show g' ≠ g; omega)]; exact hh, rest⟩
  · exact .inr ⟨a, e1, e2, e3, fun p hp => ⟨(h4 p hp).1, by rw [hsz]; exact (h4 p hp).2⟩⟩
/-- the quotient's bits from the place j on -/
structure QIn (a b j D : Nat) (O : List Nat) : Prop where
  len : O.length = D
  lt : ∀ x ∈ O, x < 65536
  val_eq : v16 O = a / 2 ^ j / b * 2 ^ j
theorem QIn.no {a b i D : Nat} {O : List Nat} (h : QIn a b (i + 1) D O) (e : a / 2 ^ i / b = 2 * (a / 2 ^ (i + 1) / b)) : QIn a b i D O :=
  ⟨h.len, h.lt, by rw [h.val_eq, e, Nat.pow_succ]; ac_rfl⟩
theorem QIn.yes {a b i D : Nat} {O : List Nat} (h : QIn a b (i + 1) D O) (e : a / 2 ^ i / b = 2 * (a / 2 ^ (i + 1) / b) + 1) (hi : i / 16 < D) :
    el O (i / 16) + 2 ^ (i % 16) < 65536 ∧ QIn a b i D (O.set (i / 16) (el O (i / 16) + 2 ^ (i % 16))) := by
  have hz : v16 O / 2 ^ i % 2 = 0 := by
    rw [h.val_eq, Nat.pow_succ, Nat.mul_comm (2 ^ i) 2, ← Nat.mul_assoc, Nat.mul_div_cancel _ (Nat.two_pow_pos i), Nat.mul_mod_left]
  have h1 := bit_add h.lt (i := i) (by rw [h.len]; exact hi) hz
  refine ⟨h1.1, by rw [List.length_set]; exact h.len, set_16 h.lt h1.1, ?_⟩
  rw [h1.2, h.val_eq, e, Nat.pow_succ, Nat.add_mul, Nat.one_mul]
  congr 1
  ac_rfl
def RetDiv06 (w : World) (a b : Nat) (e : Ending) (w' : World) : Prop :=
  ∃ v u, e = .returned (.tuple #[v, u]) ∧ OwnL w.heap.size w' v (dig (a / b)) ∧ OwnL w.heap.size w' u (dig (a % b)) ∧ Ext w w'
theorem MulMem.lt {w : World} {g n : Nat} {O : List Nat} {wr : World} (h : MulMem w g n O wr) : g < wr.heap.size := by
  rcases h.own.2 with ⟨h1, -⟩ | ⟨g', cap', cur, h1, hg, hh, -⟩
  · cases h1
  · injection h1 with h1 h2 h3
    injection h1 with h1
    injection h1 with h1
    subst h1
    exact (Array.getElem?_eq_some_iff.1 hh).1

set_option maxHeartbeats 8000000 in
set_option maxRecDepth 100000 in
theorem refdiv06_b1 {w : World} {v u : Value} {A B : List Nat} (hA : Limbs w v A) (hB : Limbs w u B) (hlA : A.length ≤ 65000) (hlB : B.length ≤ 65000) (h0 : val B ≠ 0) (hsa : decide (val A < Bs) = false) (sb : Bool) (hsb : decide (val B < Bs) = sb) :
    Calls Tryz.prog 70 #[v, u] w (RetDiv06 w (val A) (val B)) := by
  obtain ⟨a, ha⟩ : ∃ a, val A = a := ⟨_, rfl⟩
  obtain ⟨b, hb⟩ : ∃ b, val B = b := ⟨_, rfl⟩
  have HA := Lib.hid ha
  have HB := Lib.hid hb
  have HLA := Lib.hid hlA
  have HLB := Lib.hid hlB
  have HSA := Lib.hid hsa
  have HSB := Lib.hid hsb
  rw [ha, hb]
  rw [hb] at h0
  have HB0 : Hid (b ≠ 0) := h0
  obtain ⟨X, hX⟩ : ∃ X, X = dig16 (val A) := ⟨_, rfl⟩
  have lX : X.length ≤ 262144 := by rw [hX]; exact Nat.le_trans (dig16_len hA.2) (by omega)
  obtain ⟨la, hla⟩ : ∃ l, bl (val A) = l := ⟨_, rfl⟩
  have hbl : la ≤ 16 * X.length := by
    rw [← hla, bl_le_iff, ← pow16]
    have := v16_lt (A := X) (by rw [hX]; exact dig16_lt _)
    rwa [hX, v16_dig16, ← hX] at this
  have hla2 : (la : Int) ≤ 4194304 := by omega
  obtain ⟨D, hD⟩ : ∃ D, X.length + 1 = D := ⟨_, rfl⟩
  have HX := Lib.hid hX
  have HLA2 := Lib.hid hla
  have HLD : Hid (la < 16 * D) := by show la < _; omega
  have x1' : (X.length : Int) ≤ 262144 := by omega
  have hwD : IntKind.i64.wrap ((X.length : Int) + 1) = (D : Int) := by rw [IntWalk.i64_in _ (by omega)]; omega
  have hwl : IntKind.i64.wrap ((la : Int) - 1) = (la : Int) - 1 := by rw [IntWalk.i64_in _ (by omega)]
  have HDL : Hid (D ≤ Lmax) := by show D ≤ Lmax; rw [Lmax_def]; omega
  have HDJ : Hid (D + 4 ≤ Lmax) := by show D + 4 ≤ Lmax; rw [Lmax_def]; omega
  have D1 : (D : Int) ≤ 262145 := by omega
  have HTOP : Hid (a / 2 ^ la = 0) := by
    refine Nat.div_eq_of_lt ?_
    rw [← ha]; exact (bl_le_iff _ _).1 (by omega)
  obtain ⟨na, hna⟩ : ∃ n : Int, ((smallN (val A) : Nat) : Int) = n := ⟨_, rfl⟩
  obtain ⟨nb, hnb⟩ : ∃ n : Int, ((smallN (val B) : Nat) : Int) = n := ⟨_, rfl⟩
  have HNA := Lib.hid hna
  have HNB := Lib.hid hnb
  clear ha hb h0 hlA hlB hla hX lX hbl hsa hsb hna hnb
  go_enter Tryz.func70, Tryz.ntmps70
  go_wp2_with fail
  refine (refsmall_calls hA (by have := HLA.out; omega) na HNA.out false HSA.out).mono ?_
  rintro e w1 ⟨rfl, x1⟩
  have X1 := Lib.hid x1
  clear x1
  go_wp2_with fail
  refine (refsmall_calls (hB.ext X1.out) (by have := HLB.out; omega) nb HNB.out sb HSB.out).mono ?_
  rintro e w2 ⟨rfl, x2⟩
  have X2 := Lib.hid (X1.out.trans x2)
  clear x2 X1
  go_wp2_with fail
  refine (refdigits_calls (hA.ext X2.out) (digits_room (by have := HLA.out; omega))).mono ?_
  rintro e w3 ⟨x, rfl, hx, x3⟩
  rw [← HX.out] at hx
  obtain ⟨xa, xc, rfl, -, -, -⟩ := hx.open
  have X3 := Lib.hid (X2.out.trans x3)
  clear hx x3 X2
  go_wp2_with (at_make; refine make_limbs rfl _ _ 22 Tryz.underlying22 rfl D _ rfl rfl rfl HDL.out ?_; intro w4 hown1 hg1; have I4 : Hid (MulMem w3 w3.heap.size D (List.replicate D 0) w4) := ⟨hown1, (Ext.refl w3).grown hg1 (by intro k hk; cases hk)⟩; clear hown1 hg1)
  clear hwD hD
  obtain ⟨g, hg⟩ : ∃ g, w3.heap.size = g := ⟨_, rfl⟩
  have HG : Hid (w3.heap.size ≤ g) := by show _ ≤ g; omega
  rw [hg] at I4 ⊢
  clear hg
  go_wp2_with fail
  refine (reflen_calls (hA.ext (X3.out.trans I4.out.ext)) (by have := HLA.out; omega)).mono ?_
  rintro e w5 ⟨rfl, x5⟩
  rw [HLA2.out]
  have I5 := Lib.hid (I4.out.ext' x5)
  clear x5 I4
  go_wp2_with fail
  clear hwl
  go_loopw [11, 12] (fun v11 v12 wr => ∃ (j : Nat) (z : Int) (O : List Nat), v12 = .int .i64 z ∧ Hid (z = (j : Int) - 1 ∧ j ≤ la) ∧ Hid (OwnL (g + 1) wr v11 (dig (a / 2 ^ j % b))) ∧ Hid (QIn a b j D O) ∧ MulMem w3 g D O wr) (fun _ v12 _ => (intOf v12 + 1).toNat)
  case atStart =>
    refine ⟨la, _, _, rfl, ⟨rfl, Nat.le_refl _⟩, ?_, ⟨by simp, fun x hx => by rw [List.eq_of_mem_replicate hx]; decide, by rw [v16_zeros, HTOP.out]; simp⟩, I5.out⟩
    show OwnL _ _ _ _; rw [HTOP.out, Nat.zero_mod, dig_zero]; exact OwnL.nil _ _
  case round =>
    clear I5
    obtain ⟨j, z, O, rfl, hz, hr, hO, hI⟩ := hrel
    have I := Lib.hid hI
    have XW : Hid (Ext w wr) := X3.out.trans hI.ext
    clear hI
    by_cases hj0 : j = 0
    · subst hj0
      obtain rfl : z = -1 := by have := hz.out.1; omega
      have HV : Hid (v16 O = a / b) := by show _ = _; rw [hO.out.val_eq, Nat.pow_zero, Nat.div_one, Nat.mul_one]
      have H16 := Lib.hid hO.out.lt
      have HOL := Lib.hid hO.out.len
      have HLN : Hid (O.length + 4 ≤ Lmax) := by show _ ≤ Lmax; rw [HOL.out]; exact HDJ.out
      have HLm : Hid (Limbs wr (.slice (some ⟨g, 0, none⟩) D D) O) := ⟨by have := Own.sl (B := g) (e := 54) (.inl I.out.own); show Sl 1 _ _ O.length _; rw [HOL.out]; exact this, lt_bs_16 H16.out⟩
      have GW : Hid (w.heap.size ≤ g + 1) := by have := X3.out.size; have := HG.out; show _ ≤ _; omega
      have HR := Lib.hid (by have := hr.out; rwa [Nat.pow_zero, Nat.div_one] at this : OwnL (g + 1) wr _ (dig (a % b)))
      clear hz hO I hr
      go_wp2_with fail
      refine (join_calls HLm.out H16.out HLN.out).mono ?_
      rintro e w6 ⟨r6, rfl, hr6, x6⟩
      rw [HV.out] at hr6
      have R6 := Lib.hid (hr6.mono XW.out.size)
      have RR := Lib.hid ((HR.out.ext x6).mono GW.out)
      have X6 := Lib.hid (XW.out.trans x6)
      clear hr6 x6
      go_wp2_with fail
      go_ret2
      exact ⟨_, _, rfl, R6.out, RR.out, X6.out⟩
    · obtain ⟨i, rfl⟩ : ∃ i, j = i + 1 := ⟨j - 1, by omega⟩
      obtain rfl : z = (i : Int) := by have := hz.out.1; omega
      have hil : (i : Int) ≤ 4194304 := by have := hz.out.2; omega
      obtain ⟨V, hV⟩ : ∃ V, a / 2 ^ (i + 1) = V := ⟨_, rfl⟩
      obtain ⟨t, ht⟩ : ∃ t : Bool, decide (a / 2 ^ i % 2 = 1) = t := ⟨_, rfl⟩
      obtain ⟨n, hn⟩ : ∃ n : Nat, (if t then 1 else 0) = n := ⟨_, rfl⟩
      have hstep : a / 2 ^ i = 2 * V + n := by
        rw [bit_step, hV, ← hn, ← ht]; simp
      have hn1 : n ≤ 1 := by rw [← hn]; split <;> decide
      have hds := div_step (V := V) (b := b) (t := n) (Nat.pos_of_ne_zero HB0.out) rfl rfl hn1
      rw [hV] at hr
      have HVV := Lib.hid hV
      have HZ2 : Hid (i ≤ la) := by show _ ≤ _; have := hz.out.2; omega
      have IB : Hid (i ≤ 1099511627776) := by show i ≤ 1099511627776; omega
      have HT : Hid (decide (val A / 2 ^ i % 2 = 1) = t) := by show _ = _; rw [HA.out]; exact ht
      have HST := Lib.hid hstep
      have HDS := Lib.hid hds
      have HN1 := Lib.hid hn1
      have HNT := Lib.hid hn
      have HRB : Hid (V % b < b) := Nat.mod_lt _ (Nat.pos_of_ne_zero HB0.out)
      have LR : Hid ((dig (V % b)).length ≤ 65535) := dig_le_len hB.2 (by rw [HB.out]; have := HRB.out; omega) (by have := HLB.out; omega)
      have L2 : ∀ c, c < 2 * b → (dig c).length ≤ 65536 := fun c hc => by
        have h1 : b < Bs ^ B.length := by rw [← HB.out]; exact val_lt hB.2
        have h2 : 2 * Bs ^ B.length ≤ Bs ^ (B.length + 1) := by rw [Nat.pow_succ, Nat.mul_comm (Bs ^ B.length)]; exact Nat.mul_le_mul_right _ two_le_Bs
        exact Nat.le_trans (dig_len_le (k := B.length + 1) (Nat.lt_of_lt_of_le hc (Nat.le_trans (Nat.mul_le_mul_left 2 (Nat.le_of_lt h1)) h2))) (by have := HLB.out; omega)
      have LC := Lib.hid L2
      clear hV ht hn hstep hds hn1 L2 hz hj0
      go_wp2_with fail
      refine (refadd_nat hr.out.limbs hr.out.limbs (by have := LR.out; omega) (by have := LR.out; omega) (show V % b + V % b = 2 * (V % b) + 0 by omega)).mono ?_
      rintro e w3b ⟨r3, rfl, h3, x3⟩
      have R3 : Hid (OwnL (g + 1) w3b r3 (dig (2 * (V % b) + 0))) := h3.mono (by have := I.out.lt; omega)
      have I3 := Lib.hid (I.out.ext' x3)
      have X3b := Lib.hid (XW.out.trans x3)
      clear h3 x3 I XW hr
      go_wp2_with fail
      refine (refbit_calls (hA.ext X3b.out) (by have := HLA.out; omega) i IB.out _ rfl t HT.out).mono ?_
      rintro e w4b ⟨rfl, x4⟩
      have R4 := Lib.hid (R3.out.ext x4)
      have I4 := Lib.hid (I3.out.ext' x4)
      have X4 := Lib.hid (X3b.out.trans x4)
      clear x4 R3 I3 X3b
      cases t with
      | true =>
        obtain rfl : n = 1 := HNT.out.symm
        have EX := Lib.hid ((Ext.refl w4b).alloc (.cells #[.int .u64 1] 54))
        have LIT : Hid (Limbs (w4b.alloc (.cells #[.int .u64 1] 54)) (.slice (some ⟨w4b.heap.size, 0, none⟩) 1 1) (dig 1)) := by
          show Limbs _ _ _
          rw [dig_one one_lt_Bs (by decide)]
          exact limbs_lit w4b [1] (by simp [one_lt_Bs]) _ rfl 1 rfl (by rw [Lmax_def]; simp)
        go_wp2_with fail
        refine (refadd_nat (R4.out.limbs.ext EX.out) LIT.out (LC.out _ (by have := HRB.out; omega)) (by rw [dig_one one_lt_Bs (by decide)]; decide) (show 2 * (V % b) + 0 + 1 = 2 * (V % b) + 1 by omega)).mono ?_
        rintro e w5b ⟨r5, rfl, h5, x5⟩
        have I5 := Lib.hid (I4.out.ext' (EX.out.trans x5))
        have R5 : Hid (OwnL (g + 1) w5b r5 (dig (2 * (V % b) + 1))) := h5.mono (by have := I4.out.lt; have := EX.out.size; omega)
        have X5 := Lib.hid (X4.out.trans (EX.out.trans x5))
        clear h5 x5 R4 I4 X4 LIT
        by_cases hle : b ≤ 2 * (V % b) + 1
        · obtain ⟨c, hc⟩ : ∃ c, cmpN (val (dig (2 * (V % b) + 1))) (val B) = c := ⟨_, rfl⟩
          have hc0 : 0 ≤ c := by rw [← hc, val_dig, HB.out]; unfold cmpN; rw [if_neg (by omega)]; split <;> decide
          have HC := Lib.hid hc
          obtain ⟨h1, h2⟩ := HDS.out.2 hle
          have H1 := Lib.hid h1
          have H2 := Lib.hid h2
          have HLE := Lib.hid hle
          obtain ⟨qq, hqq⟩ : ∃ qq, i / 16 = qq := ⟨_, rfl⟩
          obtain ⟨rr, hrr⟩ : ∃ rr, i % 16 = rr := ⟨_, rfl⟩
          have hqi : (i : Int) / 16 = (qq : Int) := by omega
          have hri : (i : Int) % 16 = (rr : Int) := by omega
          have r1 : (rr : Int) ≤ 15 := by omega
          have q1 : (qq : Int) ≤ 262144 := by omega
          have hqD : qq < D := by have := HLD.out; have := HZ2.out; omega
          have hbit := hO.out.yes (by rw [HVV.out, HST.out]; exact h1) (by rw [hqq]; exact hqD)
          rw [hqq, hrr] at hbit
          obtain ⟨d, hd⟩ : ∃ d, el O qq = d := ⟨_, rfl⟩
          rw [hd] at hbit
          have HS1 := Lib.hid hbit.1
          have HS2 := Lib.hid hbit.2
          have HD := Lib.hid hd
          have HOL := Lib.hid hO.out.len
          clear hc h1 h2 hle hqq hrr hbit hd hO
          go_wp2_with fail
          refine (refcmp_int R5.out.limbs (hB.ext X5.out) (LC.out _ (by have := HRB.out; have := HN1.out; omega)) (by have := HLB.out; omega) c HC.out).mono ?_
          rintro e w6 ⟨rfl, x6⟩
          have R6 := Lib.hid (R5.out.ext x6)
          have I6 := Lib.hid (I5.out.ext' x6)
          have X6 := Lib.hid (X5.out.trans x6)
          clear x6 R5 I5 X5
          go_wp2_with fail
          refine (refsub_nat R6.out.limbs (hB.ext X6.out) (LC.out _ (by have := HRB.out; have := HN1.out; omega)) (by have := HLB.out; omega) (by rw [HB.out]; exact HLE.out) rfl).mono ?_
          rintro e w7 ⟨r7, rfl, h7, x7⟩
          have R7 : Hid (OwnL (g + 1) w7 r7 (dig (a / 2 ^ i % b))) := by
            show OwnL _ _ _ _
            rw [HST.out, H2.out]
            rw [HB.out] at h7
            exact h7.mono (by have := I6.out.lt; omega)
          have I7 := Lib.hid (I6.out.ext' x7)
          clear h7 x7 R6 I6
          go_wp2_with fail
          go_loopw [13, 14] (fun v13 v14 wr => ∃ m : Nat, v14 = .int .i64 (m : Int) ∧ m ≤ rr ∧ v13 = .int .u64 ((2 ^ m : Nat) : Int) ∧ wr = w7) (fun _ v14 _ => rr - (intOf v14).toNat)
          case atStart => exact ⟨0, rfl, Nat.zero_le _, rfl, rfl⟩
          case round =>
            obtain ⟨m, rfl, hm, rfl, rfl⟩ := hrel
            obtain ⟨x, hx⟩ : ∃ x, 2 ^ m = x := ⟨_, rfl⟩
            have HX := Lib.hid hx
            rw [hx]
            by_cases hmr : m < rr
            · have hx16 : x ≤ 32768 := by rw [← hx]; exact Nat.le_trans (Nat.pow_le_pow_right (by decide) (show m ≤ 15 by omega)) (by decide)
              have hx2 : 2 ^ (m + 1) = 2 * x := by rw [Nat.pow_succ, hx]; omega
              have hwx : IntKind.u64.wrap (2 * (x : Int)) = ((2 ^ (m + 1) : Nat) : Int) := by rw [hx2, IntWalk.u64_in _ (by omega)]; omega
              have xx : (x : Int) ≤ 32768 := by omega
              have LM := Lib.hid hmr
              clear hx hx16 hx2 hm hmr
              go_wp2_with fail
              exact ⟨⟨m + 1, by first | rfl | go_num, LM.out, rfl, by first | trivial | rfl⟩, by simp [intOf]; have := LM.out; omega⟩
            · have em : m = rr := by omega
              subst em
              have HS1x : d + x < 65536 := by have := HS1.out; rwa [hx] at this
              have hws : IntKind.u64.wrap ((d : Int) + (x : Int)) = ((d + x : Nat) : Int) := by rw [IntWalk.u64_in _ (by omega)]; omega
              have hc := I7.out.cell hqD HOL.out
              rw [HD.out] at hc
              have hf := I7.out.froz qq
              have I8 := Lib.hid (I7.out.set HG.out qq (d + x))
              have R8 : Hid (OwnL (g + 1) (wr.setCell ⟨g, qq, none⟩ (.int .u64 ((d + x : Nat) : Int))) r7 (dig (a / 2 ^ i % b))) := R7.out.storeB (Nat.lt_succ_self g)
              have HS3 : Hid (QIn a b i D (O.set qq (d + x))) := by have := HS2.out; rwa [hx] at this
              have hdx : ((d + x : Nat) : Int) ≤ 65535 := by omega
              have hwi : IntKind.i64.wrap ((i : Int) - 1) = (i : Int) - 1 := by rw [IntWalk.i64_in _ (by omega)]
              clear hx hm hmr HS1x
              go_wp2_with fail
              exact ⟨⟨i, _, _, rfl, ⟨rfl, HZ2.out⟩, R8.out, HS3, I8.out⟩, by simp [intOf]⟩
        · have hc : cmpN (val (dig (2 * (V % b) + 1))) (val B) = -1 := cmpN_lt (by rw [val_dig, HB.out]; omega)
          have HC := Lib.hid hc
          obtain ⟨h1, h2⟩ := HDS.out.1 (by omega)
          have H2 := Lib.hid h2
          have HS3 : Hid (QIn a b i D O) := hO.out.no (by rw [HVV.out, HST.out]; exact h1)
          have hwi : IntKind.i64.wrap ((i : Int) - 1) = (i : Int) - 1 := by rw [IntWalk.i64_in _ (by omega)]
          clear hc h1 h2 hle hO
          go_wp2_with fail
          refine (refcmp_int R5.out.limbs (hB.ext X5.out) (LC.out _ (by have := HRB.out; have := HN1.out; omega)) (by have := HLB.out; omega) (-1) HC.out).mono ?_
          rintro e w6 ⟨rfl, x6⟩
          have R6 : Hid (OwnL (g + 1) w6 r5 (dig (a / 2 ^ i % b))) := by show OwnL _ _ _ _; rw [HST.out, H2.out]; exact R5.out.ext x6
          have I6 := Lib.hid (I5.out.ext' x6)
          clear x6 R5 I5
          go_wp2_with fail
          exact ⟨⟨i, _, _, rfl, ⟨rfl, HZ2.out⟩, R6.out, HS3, I6.out⟩, by simp [intOf]⟩

      | false =>
        obtain rfl : n = 0 := HNT.out.symm
        have R5 := R4
        have I5 := I4
        have X5 := X4
        clear R4 I4 X4
        by_cases hle : b ≤ 2 * (V % b) + 0
        · obtain ⟨c, hc⟩ : ∃ c, cmpN (val (dig (2 * (V % b) + 0))) (val B) = c := ⟨_, rfl⟩
          have hc0 : 0 ≤ c := by rw [← hc, val_dig, HB.out]; unfold cmpN; rw [if_neg (by omega)]; split <;> decide
          have HC := Lib.hid hc
          obtain ⟨h1, h2⟩ := HDS.out.2 hle
          have H1 := Lib.hid h1
          have H2 := Lib.hid h2
          have HLE := Lib.hid hle
          obtain ⟨qq, hqq⟩ : ∃ qq, i / 16 = qq := ⟨_, rfl⟩
          obtain ⟨rr, hrr⟩ : ∃ rr, i % 16 = rr := ⟨_, rfl⟩
          have hqi : (i : Int) / 16 = (qq : Int) := by omega
          have hri : (i : Int) % 16 = (rr : Int) := by omega
          have r1 : (rr : Int) ≤ 15 := by omega
          have q1 : (qq : Int) ≤ 262144 := by omega
          have hqD : qq < D := by have := HLD.out; have := HZ2.out; omega
          have hbit := hO.out.yes (by rw [HVV.out, HST.out]; exact h1) (by rw [hqq]; exact hqD)
          rw [hqq, hrr] at hbit
          obtain ⟨d, hd⟩ : ∃ d, el O qq = d := ⟨_, rfl⟩
          rw [hd] at hbit
          have HS1 := Lib.hid hbit.1
          have HS2 := Lib.hid hbit.2
          have HD := Lib.hid hd
          have HOL := Lib.hid hO.out.len
          clear hc h1 h2 hle hqq hrr hbit hd hO
          go_wp2_with fail
          refine (refcmp_int R5.out.limbs (hB.ext X5.out) (LC.out _ (by have := HRB.out; have := HN1.out; omega)) (by have := HLB.out; omega) c HC.out).mono ?_
          rintro e w6 ⟨rfl, x6⟩
          have R6 := Lib.hid (R5.out.ext x6)
          have I6 := Lib.hid (I5.out.ext' x6)
          have X6 := Lib.hid (X5.out.trans x6)
          clear x6 R5 I5 X5
          go_wp2_with fail
          refine (refsub_nat R6.out.limbs (hB.ext X6.out) (LC.out _ (by have := HRB.out; have := HN1.out; omega)) (by have := HLB.out; omega) (by rw [HB.out]; exact HLE.out) rfl).mono ?_
          rintro e w7 ⟨r7, rfl, h7, x7⟩
          have R7 : Hid (OwnL (g + 1) w7 r7 (dig (a / 2 ^ i % b))) := by
            show OwnL _ _ _ _
            rw [HST.out, H2.out]
            rw [HB.out] at h7
            exact h7.mono (by have := I6.out.lt; omega)
          have I7 := Lib.hid (I6.out.ext' x7)
          clear h7 x7 R6 I6
          go_wp2_with fail
          go_loopw [13, 14] (fun v13 v14 wr => ∃ m : Nat, v14 = .int .i64 (m : Int) ∧ m ≤ rr ∧ v13 = .int .u64 ((2 ^ m : Nat) : Int) ∧ wr = w7) (fun _ v14 _ => rr - (intOf v14).toNat)
          case atStart => exact ⟨0, rfl, Nat.zero_le _, rfl, rfl⟩
          case round =>
            obtain ⟨m, rfl, hm, rfl, rfl⟩ := hrel
            obtain ⟨x, hx⟩ : ∃ x, 2 ^ m = x := ⟨_, rfl⟩
            have HX := Lib.hid hx
            rw [hx]
            by_cases hmr : m < rr
            · have hx16 : x ≤ 32768 := by rw [← hx]; exact Nat.le_trans (Nat.pow_le_pow_right (by decide) (show m ≤ 15 by omega)) (by decide)
              have hx2 : 2 ^ (m + 1) = 2 * x := by rw [Nat.pow_succ, hx]; omega
              have hwx : IntKind.u64.wrap (2 * (x : Int)) = ((2 ^ (m + 1) : Nat) : Int) := by rw [hx2, IntWalk.u64_in _ (by omega)]; omega
              have xx : (x : Int) ≤ 32768 := by omega
              have LM := Lib.hid hmr
              clear hx hx16 hx2 hm hmr
              go_wp2_with fail
              exact ⟨⟨m + 1, by first | rfl | go_num, LM.out, rfl, by first | trivial | rfl⟩, by simp [intOf]; have := LM.out; omega⟩
            · have em : m = rr := by omega
              subst em
              have HS1x : d + x < 65536 := by have := HS1.out; rwa [hx] at this
              have hws : IntKind.u64.wrap ((d : Int) + (x : Int)) = ((d + x : Nat) : Int) := by rw [IntWalk.u64_in _ (by omega)]; omega
              have hc := I7.out.cell hqD HOL.out
              rw [HD.out] at hc
              have hf := I7.out.froz qq
              have I8 := Lib.hid (I7.out.set HG.out qq (d + x))
              have R8 : Hid (OwnL (g + 1) (wr.setCell ⟨g, qq, none⟩ (.int .u64 ((d + x : Nat) : Int))) r7 (dig (a / 2 ^ i % b))) := R7.out.storeB (Nat.lt_succ_self g)
              have HS3 : Hid (QIn a b i D (O.set qq (d + x))) := by have := HS2.out; rwa [hx] at this
              have hdx : ((d + x : Nat) : Int) ≤ 65535 := by omega
              have hwi : IntKind.i64.wrap ((i : Int) - 1) = (i : Int) - 1 := by rw [IntWalk.i64_in _ (by omega)]
              clear hx hm hmr HS1x
              go_wp2_with fail
              exact ⟨⟨i, _, _, rfl, ⟨rfl, HZ2.out⟩, R8.out, HS3, I8.out⟩, by simp [intOf]⟩
        · have hc : cmpN (val (dig (2 * (V % b) + 0))) (val B) = -1 := cmpN_lt (by rw [val_dig, HB.out]; omega)
          have HC := Lib.hid hc
          obtain ⟨h1, h2⟩ := HDS.out.1 (by omega)
          have H2 := Lib.hid h2
          have HS3 : Hid (QIn a b i D O) := hO.out.no (by rw [HVV.out, HST.out]; exact h1)
          have hwi : IntKind.i64.wrap ((i : Int) - 1) = (i : Int) - 1 := by rw [IntWalk.i64_in _ (by omega)]
          clear hc h1 h2 hle hO
          go_wp2_with fail
          refine (refcmp_int R5.out.limbs (hB.ext X5.out) (LC.out _ (by have := HRB.out; have := HN1.out; omega)) (by have := HLB.out; omega) (-1) HC.out).mono ?_
          rintro e w6 ⟨rfl, x6⟩
          have R6 : Hid (OwnL (g + 1) w6 r3 (dig (a / 2 ^ i % b))) := by show OwnL _ _ _ _; rw [HST.out, H2.out]; exact R5.out.ext x6
          have I6 := Lib.hid (I5.out.ext' x6)
          clear x6 R5 I5
          go_wp2_with fail
          exact ⟨⟨i, _, _, rfl, ⟨rfl, HZ2.out⟩, R6.out, HS3, I6.out⟩, by simp [intOf]⟩


set_option maxHeartbeats 8000000 in
set_option maxRecDepth 100000 in
theorem refdiv06_b2 {w : World} {v u : Value} {A B : List Nat} (hA : Limbs w v A) (hB : Limbs w u B) (hlA : A.length ≤ 65000) (hlB : B.length ≤ 65000) (h0 : val B ≠ 0) (hsa : decide (val A < Bs) = true) (hsb : decide (val B < Bs) = false) :
    Calls Tryz.prog 70 #[v, u] w (RetDiv06 w (val A) (val B)) := by
  obtain ⟨a, ha⟩ : ∃ a, val A = a := ⟨_, rfl⟩
  obtain ⟨b, hb⟩ : ∃ b, val B = b := ⟨_, rfl⟩
  have HA := Lib.hid ha
  have HB := Lib.hid hb
  have HLA := Lib.hid hlA
  have HLB := Lib.hid hlB
  have HSA := Lib.hid hsa
  have HSB := Lib.hid hsb
  rw [ha, hb]
  rw [hb] at h0
  have HB0 : Hid (b ≠ 0) := h0
  obtain ⟨X, hX⟩ : ∃ X, X = dig16 (val A) := ⟨_, rfl⟩
  have lX : X.length ≤ 262144 := by rw [hX]; exact Nat.le_trans (dig16_len hA.2) (by omega)
  obtain ⟨la, hla⟩ : ∃ l, bl (val A) = l := ⟨_, rfl⟩
  have hbl : la ≤ 16 * X.length := by
    rw [← hla, bl_le_iff, ← pow16]
    have := v16_lt (A := X) (by rw [hX]; exact dig16_lt _)
    rwa [hX, v16_dig16, ← hX] at this
  have hla2 : (la : Int) ≤ 4194304 := by omega
  obtain ⟨D, hD⟩ : ∃ D, X.length + 1 = D := ⟨_, rfl⟩
  have HX := Lib.hid hX
  have HLA2 := Lib.hid hla
  have HLD : Hid (la < 16 * D) := by show la < _; omega
  have x1' : (X.length : Int) ≤ 262144 := by omega
  have hwD : IntKind.i64.wrap ((X.length : Int) + 1) = (D : Int) := by rw [IntWalk.i64_in _ (by omega)]; omega
  have hwl : IntKind.i64.wrap ((la : Int) - 1) = (la : Int) - 1 := by rw [IntWalk.i64_in _ (by omega)]
  have HDL : Hid (D ≤ Lmax) := by show D ≤ Lmax; rw [Lmax_def]; omega
  have HDJ : Hid (D + 4 ≤ Lmax) := by show D + 4 ≤ Lmax; rw [Lmax_def]; omega
  have D1 : (D : Int) ≤ 262145 := by omega
  have HTOP : Hid (a / 2 ^ la = 0) := by
    refine Nat.div_eq_of_lt ?_
    rw [← ha]; exact (bl_le_iff _ _).1 (by omega)
  obtain ⟨na, hna⟩ : ∃ n : Int, ((smallN (val A) : Nat) : Int) = n := ⟨_, rfl⟩
  obtain ⟨nb, hnb⟩ : ∃ n : Int, ((smallN (val B) : Nat) : Int) = n := ⟨_, rfl⟩
  have HNA := Lib.hid hna
  have HNB := Lib.hid hnb
  clear ha hb h0 hlA hlB hla hX lX hbl hsa hsb hna hnb
  go_enter Tryz.func70, Tryz.ntmps70
  go_wp2_with fail
  refine (refsmall_calls hA (by have := HLA.out; omega) na HNA.out true HSA.out).mono ?_
  rintro e w1 ⟨rfl, x1⟩
  have X1 := Lib.hid x1
  clear x1
  go_wp2_with fail
  refine (refsmall_calls (hB.ext X1.out) (by have := HLB.out; omega) nb HNB.out false HSB.out).mono ?_
  rintro e w2 ⟨rfl, x2⟩
  have X2 := Lib.hid (X1.out.trans x2)
  clear x2 X1
  go_wp2_with fail
  refine (refdigits_calls (hA.ext X2.out) (digits_room (by have := HLA.out; omega))).mono ?_
  rintro e w3 ⟨x, rfl, hx, x3⟩
  rw [← HX.out] at hx
  obtain ⟨xa, xc, rfl, -, -, -⟩ := hx.open
  have X3 := Lib.hid (X2.out.trans x3)
  clear hx x3 X2
  go_wp2_with (at_make; refine make_limbs rfl _ _ 22 Tryz.underlying22 rfl D _ rfl rfl rfl HDL.out ?_; intro w4 hown1 hg1; have I4 : Hid (MulMem w3 w3.heap.size D (List.replicate D 0) w4) := ⟨hown1, (Ext.refl w3).grown hg1 (by intro k hk; cases hk)⟩; clear hown1 hg1)
  clear hwD hD
  obtain ⟨g, hg⟩ : ∃ g, w3.heap.size = g := ⟨_, rfl⟩
  have HG : Hid (w3.heap.size ≤ g) := by show _ ≤ g; omega
  rw [hg] at I4 ⊢
  clear hg
  go_wp2_with fail
  refine (reflen_calls (hA.ext (X3.out.trans I4.out.ext)) (by have := HLA.out; omega)).mono ?_
  rintro e w5 ⟨rfl, x5⟩
  rw [HLA2.out]
  have I5 := Lib.hid (I4.out.ext' x5)
  clear x5 I4
  go_wp2_with fail
  clear hwl
  go_loopw [11, 12] (fun v11 v12 wr => ∃ (j : Nat) (z : Int) (O : List Nat), v12 = .int .i64 z ∧ Hid (z = (j : Int) - 1 ∧ j ≤ la) ∧ Hid (OwnL (g + 1) wr v11 (dig (a / 2 ^ j % b))) ∧ Hid (QIn a b j D O) ∧ MulMem w3 g D O wr) (fun _ v12 _ => (intOf v12 + 1).toNat)
  case atStart =>
    refine ⟨la, _, _, rfl, ⟨rfl, Nat.le_refl _⟩, ?_, ⟨by simp, fun x hx => by rw [List.eq_of_mem_replicate hx]; decide, by rw [v16_zeros, HTOP.out]; simp⟩, I5.out⟩
    show OwnL _ _ _ _; rw [HTOP.out, Nat.zero_mod, dig_zero]; exact OwnL.nil _ _
  case round =>
    clear I5
    obtain ⟨j, z, O, rfl, hz, hr, hO, hI⟩ := hrel
    have I := Lib.hid hI
    have XW : Hid (Ext w wr) := X3.out.trans hI.ext
    clear hI
    by_cases hj0 : j = 0
    · subst hj0
      obtain rfl : z = -1 := by have := hz.out.1; omega
      have HV : Hid (v16 O = a / b) := by show _ = _; rw [hO.out.val_eq, Nat.pow_zero, Nat.div_one, Nat.mul_one]
      have H16 := Lib.hid hO.out.lt
      have HOL := Lib.hid hO.out.len
      have HLN : Hid (O.length + 4 ≤ Lmax) := by show _ ≤ Lmax; rw [HOL.out]; exact HDJ.out
      have HLm : Hid (Limbs wr (.slice (some ⟨g, 0, none⟩) D D) O) := ⟨by have := Own.sl (B := g) (e := 54) (.inl I.out.own); show Sl 1 _ _ O.length _; rw [HOL.out]; exact this, lt_bs_16 H16.out⟩
      have GW : Hid (w.heap.size ≤ g + 1) := by have := X3.out.size; have := HG.out; show _ ≤ _; omega
      have HR := Lib.hid (by have := hr.out; rwa [Nat.pow_zero, Nat.div_one] at this : OwnL (g + 1) wr _ (dig (a % b)))
      clear hz hO I hr
      go_wp2_with fail
      refine (join_calls HLm.out H16.out HLN.out).mono ?_
      rintro e w6 ⟨r6, rfl, hr6, x6⟩
      rw [HV.out] at hr6
      have R6 := Lib.hid (hr6.mono XW.out.size)
      have RR := Lib.hid ((HR.out.ext x6).mono GW.out)
      have X6 := Lib.hid (XW.out.trans x6)
      clear hr6 x6
      go_wp2_with fail
      go_ret2
      exact ⟨_, _, rfl, R6.out, RR.out, X6.out⟩
    · obtain ⟨i, rfl⟩ : ∃ i, j = i + 1 := ⟨j - 1, by omega⟩
      obtain rfl : z = (i : Int) := by have := hz.out.1; omega
      have hil : (i : Int) ≤ 4194304 := by have := hz.out.2; omega
      obtain ⟨V, hV⟩ : ∃ V, a / 2 ^ (i + 1) = V := ⟨_, rfl⟩
      obtain ⟨t, ht⟩ : ∃ t : Bool, decide (a / 2 ^ i % 2 = 1) = t := ⟨_, rfl⟩
      obtain ⟨n, hn⟩ : ∃ n : Nat, (if t then 1 else 0) = n := ⟨_, rfl⟩
      have hstep : a / 2 ^ i = 2 * V + n := by
        rw [bit_step, hV, ← hn, ← ht]; simp
      have hn1 : n ≤ 1 := by rw [← hn]; split <;> decide
      have hds := div_step (V := V) (b := b) (t := n) (Nat.pos_of_ne_zero HB0.out) rfl rfl hn1
      rw [hV] at hr
      have HVV := Lib.hid hV
      have HZ2 : Hid (i ≤ la) := by show _ ≤ _; have := hz.out.2; omega
      have IB : Hid (i ≤ 1099511627776) := by show i ≤ 1099511627776; omega
      have HT : Hid (decide (val A / 2 ^ i % 2 = 1) = t) := by show _ = _; rw [HA.out]; exact ht
      have HST := Lib.hid hstep
      have HDS := Lib.hid hds
      have HN1 := Lib.hid hn1
      have HNT := Lib.hid hn
      have HRB : Hid (V % b < b) := Nat.mod_lt _ (Nat.pos_of_ne_zero HB0.out)
      have LR : Hid ((dig (V % b)).length ≤ 65535) := dig_le_len hB.2 (by rw [HB.out]; have := HRB.out; omega) (by have := HLB.out; omega)
      have L2 : ∀ c, c < 2 * b → (dig c).length ≤ 65536 := fun c hc => by
        have h1 : b < Bs ^ B.length := by rw [← HB.out]; exact val_lt hB.2
        have h2 : 2 * Bs ^ B.length ≤ Bs ^ (B.length + 1) := by rw [Nat.pow_succ, Nat.mul_comm (Bs ^ B.length)]; exact Nat.mul_le_mul_right _ two_le_Bs
        exact Nat.le_trans (dig_len_le (k := B.length + 1) (Nat.lt_of_lt_of_le hc (Nat.le_trans (Nat.mul_le_mul_left 2 (Nat.le_of_lt h1)) h2))) (by have := HLB.out; omega)
      have LC := Lib.hid L2
      clear hV ht hn hstep hds hn1 L2 hz hj0
      go_wp2_with fail
      refine (refadd_nat hr.out.limbs hr.out.limbs (by have := LR.out; omega) (by have := LR.out; omega) (show V % b + V % b = 2 * (V % b) + 0 by omega)).mono ?_
      rintro e w3b ⟨r3, rfl, h3, x3⟩
      have R3 : Hid (OwnL (g + 1) w3b r3 (dig (2 * (V % b) + 0))) := h3.mono (by have := I.out.lt; omega)
      have I3 := Lib.hid (I.out.ext' x3)
      have X3b := Lib.hid (XW.out.trans x3)
      clear h3 x3 I XW hr
      go_wp2_with fail
      refine (refbit_calls (hA.ext X3b.out) (by have := HLA.out; omega) i IB.out _ rfl t HT.out).mono ?_
      rintro e w4b ⟨rfl, x4⟩
      have R4 := Lib.hid (R3.out.ext x4)
      have I4 := Lib.hid (I3.out.ext' x4)
      have X4 := Lib.hid (X3b.out.trans x4)
      clear x4 R3 I3 X3b
      cases t with
      | true =>
        obtain rfl : n = 1 := HNT.out.symm
        have EX := Lib.hid ((Ext.refl w4b).alloc (.cells #[.int .u64 1] 54))
        have LIT : Hid (Limbs (w4b.alloc (.cells #[.int .u64 1] 54)) (.slice (some ⟨w4b.heap.size, 0, none⟩) 1 1) (dig 1)) := by
          show Limbs _ _ _
          rw [dig_one one_lt_Bs (by decide)]
          exact limbs_lit w4b [1] (by simp [one_lt_Bs]) _ rfl 1 rfl (by rw [Lmax_def]; simp)
        go_wp2_with fail
        refine (refadd_nat (R4.out.limbs.ext EX.out) LIT.out (LC.out _ (by have := HRB.out; omega)) (by rw [dig_one one_lt_Bs (by decide)]; decide) (show 2 * (V % b) + 0 + 1 = 2 * (V % b) + 1 by omega)).mono ?_
        rintro e w5b ⟨r5, rfl, h5, x5⟩
        have I5 := Lib.hid (I4.out.ext' (EX.out.trans x5))
        have R5 : Hid (OwnL (g + 1) w5b r5 (dig (2 * (V % b) + 1))) := h5.mono (by have := I4.out.lt; have := EX.out.size; omega)
        have X5 := Lib.hid (X4.out.trans (EX.out.trans x5))
        clear h5 x5 R4 I4 X4 LIT
        by_cases hle : b ≤ 2 * (V % b) + 1
        · obtain ⟨c, hc⟩ : ∃ c, cmpN (val (dig (2 * (V % b) + 1))) (val B) = c := ⟨_, rfl⟩
          have hc0 : 0 ≤ c := by rw [← hc, val_dig, HB.out]; unfold cmpN; rw [if_neg (by omega)]; split <;> decide
          have HC := Lib.hid hc
          obtain ⟨h1, h2⟩ := HDS.out.2 hle
          have H1 := Lib.hid h1
          have H2 := Lib.hid h2
          have HLE := Lib.hid hle
          obtain ⟨qq, hqq⟩ : ∃ qq, i / 16 = qq := ⟨_, rfl⟩
          obtain ⟨rr, hrr⟩ : ∃ rr, i % 16 = rr := ⟨_, rfl⟩
          have hqi : (i : Int) / 16 = (qq : Int) := by omega
          have hri : (i : Int) % 16 = (rr : Int) := by omega
          have r1 : (rr : Int) ≤ 15 := by omega
          have q1 : (qq : Int) ≤ 262144 := by omega
          have hqD : qq < D := by have := HLD.out; have := HZ2.out; omega
          have hbit := hO.out.yes (by rw [HVV.out, HST.out]; exact h1) (by rw [hqq]; exact hqD)
          rw [hqq, hrr] at hbit
          obtain ⟨d, hd⟩ : ∃ d, el O qq = d := ⟨_, rfl⟩
          rw [hd] at hbit
          have HS1 := Lib.hid hbit.1
          have HS2 := Lib.hid hbit.2
          have HD := Lib.hid hd
          have HOL := Lib.hid hO.out.len
          clear hc h1 h2 hle hqq hrr hbit hd hO
          go_wp2_with fail
          refine (refcmp_int R5.out.limbs (hB.ext X5.out) (LC.out _ (by have := HRB.out; have := HN1.out; omega)) (by have := HLB.out; omega) c HC.out).mono ?_
          rintro e w6 ⟨rfl, x6⟩
          have R6 := Lib.hid (R5.out.ext x6)
          have I6 := Lib.hid (I5.out.ext' x6)
          have X6 := Lib.hid (X5.out.trans x6)
          clear x6 R5 I5 X5
          go_wp2_with fail
          refine (refsub_nat R6.out.limbs (hB.ext X6.out) (LC.out _ (by have := HRB.out; have := HN1.out; omega)) (by have := HLB.out; omega) (by rw [HB.out]; exact HLE.out) rfl).mono ?_
          rintro e w7 ⟨r7, rfl, h7, x7⟩
          have R7 : Hid (OwnL (g + 1) w7 r7 (dig (a / 2 ^ i % b))) := by
            show OwnL _ _ _ _
            rw [HST.out, H2.out]
            rw [HB.out] at h7
            exact h7.mono (by have := I6.out.lt; omega)
          have I7 := Lib.hid (I6.out.ext' x7)
          clear h7 x7 R6 I6
          go_wp2_with fail
          go_loopw [13, 14] (fun v13 v14 wr => ∃ m : Nat, v14 = .int .i64 (m : Int) ∧ m ≤ rr ∧ v13 = .int .u64 ((2 ^ m : Nat) : Int) ∧ wr = w7) (fun _ v14 _ => rr - (intOf v14).toNat)
          case atStart => exact ⟨0, rfl, Nat.zero_le _, rfl, rfl⟩
          case round =>
            obtain ⟨m, rfl, hm, rfl, rfl⟩ := hrel
            obtain ⟨x, hx⟩ : ∃ x, 2 ^ m = x := ⟨_, rfl⟩
            have HX := Lib.hid hx
            rw [hx]
            by_cases hmr : m < rr
            · have hx16 : x ≤ 32768 := by rw [← hx]; exact Nat.le_trans (Nat.pow_le_pow_right (by decide) (show m ≤ 15 by omega)) (by decide)
              have hx2 : 2 ^ (m + 1) = 2 * x := by rw [Nat.pow_succ, hx]; omega
              have hwx : IntKind.u64.wrap (2 * (x : Int)) = ((2 ^ (m + 1) : Nat) : Int) := by rw [hx2, IntWalk.u64_in _ (by omega)]; omega
              have xx : (x : Int) ≤ 32768 := by omega
              have LM := Lib.hid hmr
              clear hx hx16 hx2 hm hmr
              go_wp2_with fail
              exact ⟨⟨m + 1, by first | rfl | go_num, LM.out, rfl, by first | trivial | rfl⟩, by simp [intOf]; have := LM.out; omega⟩
            · have em : m = rr := by omega
              subst em
              have HS1x : d + x < 65536 := by have := HS1.out; rwa [hx] at this
              have hws : IntKind.u64.wrap ((d : Int) + (x : Int)) = ((d + x : Nat) : Int) := by rw [IntWalk.u64_in _ (by omega)]; omega
              have hc := I7.out.cell hqD HOL.out
              rw [HD.out] at hc
              have hf := I7.out.froz qq
              have I8 := Lib.hid (I7.out.set HG.out qq (d + x))
              have R8 : Hid (OwnL (g + 1) (wr.setCell ⟨g, qq, none⟩ (.int .u64 ((d + x : Nat) : Int))) r7 (dig (a / 2 ^ i % b))) := R7.out.storeB (Nat.lt_succ_self g)
              have HS3 : Hid (QIn a b i D (O.set qq (d + x))) := by have := HS2.out; rwa [hx] at this
              have hdx : ((d + x : Nat) : Int) ≤ 65535 := by omega
              have hwi : IntKind.i64.wrap ((i : Int) - 1) = (i : Int) - 1 := by rw [IntWalk.i64_in _ (by omega)]
              clear hx hm hmr HS1x
              go_wp2_with fail
              exact ⟨⟨i, _, _, rfl, ⟨rfl, HZ2.out⟩, R8.out, HS3, I8.out⟩, by simp [intOf]⟩
        · have hc : cmpN (val (dig (2 * (V % b) + 1))) (val B) = -1 := cmpN_lt (by rw [val_dig, HB.out]; omega)
          have HC := Lib.hid hc
          obtain ⟨h1, h2⟩ := HDS.out.1 (by omega)
          have H2 := Lib.hid h2
          have HS3 : Hid (QIn a b i D O) := hO.out.no (by rw [HVV.out, HST.out]; exact h1)
          have hwi : IntKind.i64.wrap ((i : Int) - 1) = (i : Int) - 1 := by rw [IntWalk.i64_in _ (by omega)]
          clear hc h1 h2 hle hO
          go_wp2_with fail
          refine (refcmp_int R5.out.limbs (hB.ext X5.out) (LC.out _ (by have := HRB.out; have := HN1.out; omega)) (by have := HLB.out; omega) (-1) HC.out).mono ?_
          rintro e w6 ⟨rfl, x6⟩
          have R6 : Hid (OwnL (g + 1) w6 r5 (dig (a / 2 ^ i % b))) := by show OwnL _ _ _ _; rw [HST.out, H2.out]; exact R5.out.ext x6
          have I6 := Lib.hid (I5.out.ext' x6)
          clear x6 R5 I5
          go_wp2_with fail
          exact ⟨⟨i, _, _, rfl, ⟨rfl, HZ2.out⟩, R6.out, HS3, I6.out⟩, by simp [intOf]⟩

      | false =>
        obtain rfl : n = 0 := HNT.out.symm
        have R5 := R4
        have I5 := I4
        have X5 := X4
        clear R4 I4 X4
        by_cases hle : b ≤ 2 * (V % b) + 0
        · obtain ⟨c, hc⟩ : ∃ c, cmpN (val (dig (2 * (V % b) + 0))) (val B) = c := ⟨_, rfl⟩
          have hc0 : 0 ≤ c := by rw [← hc, val_dig, HB.out]; unfold cmpN; rw [if_neg (by omega)]; split <;> decide
          have HC := Lib.hid hc
          obtain ⟨h1, h2⟩ := HDS.out.2 hle
          have H1 := Lib.hid h1
          have H2 := Lib.hid h2
          have HLE := Lib.hid hle
          obtain ⟨qq, hqq⟩ : ∃ qq, i / 16 = qq := ⟨_, rfl⟩
          obtain ⟨rr, hrr⟩ : ∃ rr, i % 16 = rr := ⟨_, rfl⟩
          have hqi : (i : Int) / 16 = (qq : Int) := by omega
          have hri : (i : Int) % 16 = (rr : Int) := by omega
          have r1 : (rr : Int) ≤ 15 := by omega
          have q1 : (qq : Int) ≤ 262144 := by omega
          have hqD : qq < D := by have := HLD.out; have := HZ2.out; omega
          have hbit := hO.out.yes (by rw [HVV.out, HST.out]; exact h1) (by rw [hqq]; exact hqD)
          rw [hqq, hrr] at hbit
          obtain ⟨d, hd⟩ : ∃ d, el O qq = d := ⟨_, rfl⟩
          rw [hd] at hbit
          have HS1 := Lib.hid hbit.1
          have HS2 := Lib.hid hbit.2
          have HD := Lib.hid hd
          have HOL := Lib.hid hO.out.len
          clear hc h1 h2 hle hqq hrr hbit hd hO
          go_wp2_with fail
          refine (refcmp_int R5.out.limbs (hB.ext X5.out) (LC.out _ (by have := HRB.out; have := HN1.out; omega)) (by have := HLB.out; omega) c HC.out).mono ?_
          rintro e w6 ⟨rfl, x6⟩
          have R6 := Lib.hid (R5.out.ext x6)
          have I6 := Lib.hid (I5.out.ext' x6)
          have X6 := Lib.hid (X5.out.trans x6)
          clear x6 R5 I5 X5
          go_wp2_with fail
          refine (refsub_nat R6.out.limbs (hB.ext X6.out) (LC.out _ (by have := HRB.out; have := HN1.out; omega)) (by have := HLB.out; omega) (by rw [HB.out]; exact HLE.out) rfl).mono ?_
          rintro e w7 ⟨r7, rfl, h7, x7⟩
          have R7 : Hid (OwnL (g + 1) w7 r7 (dig (a / 2 ^ i % b))) := by
            show OwnL _ _ _ _
            rw [HST.out, H2.out]
            rw [HB.out] at h7
            exact h7.mono (by have := I6.out.lt; omega)
          have I7 := Lib.hid (I6.out.ext' x7)
          clear h7 x7 R6 I6
          go_wp2_with fail
          go_loopw [13, 14] (fun v13 v14 wr => ∃ m : Nat, v14 = .int .i64 (m : Int) ∧ m ≤ rr ∧ v13 = .int .u64 ((2 ^ m : Nat) : Int) ∧ wr = w7) (fun _ v14 _ => rr - (intOf v14).toNat)
          case atStart => exact ⟨0, rfl, Nat.zero_le _, rfl, rfl⟩
          case round =>
            obtain ⟨m, rfl, hm, rfl, rfl⟩ := hrel
            obtain ⟨x, hx⟩ : ∃ x, 2 ^ m = x := ⟨_, rfl⟩
            have HX := Lib.hid hx
            rw [hx]
            by_cases hmr : m < rr
            · have hx16 : x ≤ 32768 := by rw [← hx]; exact Nat.le_trans (Nat.pow_le_pow_right (by decide) (show m ≤ 15 by omega)) (by decide)
              have hx2 : 2 ^ (m + 1) = 2 * x := by rw [Nat.pow_succ, hx]; omega
              have hwx : IntKind.u64.wrap (2 * (x : Int)) = ((2 ^ (m + 1) : Nat) : Int) := by rw [hx2, IntWalk.u64_in _ (by omega)]; omega
              have xx : (x : Int) ≤ 32768 := by omega
              have LM := Lib.hid hmr
              clear hx hx16 hx2 hm hmr
              go_wp2_with fail
              exact ⟨⟨m + 1, by first | rfl | go_num, LM.out, rfl, by first | trivial | rfl⟩, by simp [intOf]; have := LM.out; omega⟩
            · have em : m = rr := by omega
              subst em
              have HS1x : d + x < 65536 := by have := HS1.out; rwa [hx] at this
              have hws : IntKind.u64.wrap ((d : Int) + (x : Int)) = ((d + x : Nat) : Int) := by rw [IntWalk.u64_in _ (by omega)]; omega
              have hc := I7.out.cell hqD HOL.out
              rw [HD.out] at hc
              have hf := I7.out.froz qq
              have I8 := Lib.hid (I7.out.set HG.out qq (d + x))
              have R8 : Hid (OwnL (g + 1) (wr.setCell ⟨g, qq, none⟩ (.int .u64 ((d + x : Nat) : Int))) r7 (dig (a / 2 ^ i % b))) := R7.out.storeB (Nat.lt_succ_self g)
              have HS3 : Hid (QIn a b i D (O.set qq (d + x))) := by have := HS2.out; rwa [hx] at this
              have hdx : ((d + x : Nat) : Int) ≤ 65535 := by omega
              have hwi : IntKind.i64.wrap ((i : Int) - 1) = (i : Int) - 1 := by rw [IntWalk.i64_in _ (by omega)]
              clear hx hm hmr HS1x
              go_wp2_with fail
              exact ⟨⟨i, _, _, rfl, ⟨rfl, HZ2.out⟩, R8.out, HS3, I8.out⟩, by simp [intOf]⟩
        · have hc : cmpN (val (dig (2 * (V % b) + 0))) (val B) = -1 := cmpN_lt (by rw [val_dig, HB.out]; omega)
          have HC := Lib.hid hc
          obtain ⟨h1, h2⟩ := HDS.out.1 (by omega)
          have H2 := Lib.hid h2
          have HS3 : Hid (QIn a b i D O) := hO.out.no (by rw [HVV.out, HST.out]; exact h1)
          have hwi : IntKind.i64.wrap ((i : Int) - 1) = (i : Int) - 1 := by rw [IntWalk.i64_in _ (by omega)]
          clear hc h1 h2 hle hO
          go_wp2_with fail
          refine (refcmp_int R5.out.limbs (hB.ext X5.out) (LC.out _ (by have := HRB.out; have := HN1.out; omega)) (by have := HLB.out; omega) (-1) HC.out).mono ?_
          rintro e w6 ⟨rfl, x6⟩
          have R6 : Hid (OwnL (g + 1) w6 r3 (dig (a / 2 ^ i % b))) := by show OwnL _ _ _ _; rw [HST.out, H2.out]; exact R5.out.ext x6
          have I6 := Lib.hid (I5.out.ext' x6)
          clear x6 R5 I5
          go_wp2_with fail
          exact ⟨⟨i, _, _, rfl, ⟨rfl, HZ2.out⟩, R6.out, HS3, I6.out⟩, by simp [intOf]⟩

end Go.Proofs.YtaklejkdmfgplaaGreatDoor
