/- The contract of tombolaref03.Div. -/
import Derived.Test.YtefeglkbikcjeaaGreatDoorRef02d
import Derived.Test.YtefeglkbikcjeaaGreatDoorPartB
namespace Go.Proofs.YtefeglkbikcjeaaGreatDoor
open Go Go.RowKit

theorem bit_step (a j : Nat) : a / 2 ^ j = 2 * (a / 2 ^ (j + 1)) + (if a / 2 ^ j % 2 = 1 then 1 else 0) := by
  rw [Nat.pow_succ, ← Nat.div_div_eq_div_mul]
  split <;> omega
theorem div_step {V b q r t : Nat} (hb : 0 < b) (hq : V / b = q) (hr : V % b = r) (ht : t ≤ 1) :
    (2 * r + t < b → (2 * V + t) / b = 2 * q ∧ (2 * V + t) % b = 2 * r + t) ∧ (b ≤ 2 * r + t → (2 * V + t) / b = 2 * q + 1 ∧ (2 * V + t) % b = 2 * r + t - b) := by
  have hV := Nat.div_add_mod V b
  rw [hq, hr] at hV
  have hrb := Nat.mod_lt V hb
  rw [hr] at hrb
  constructor
  · intro h
    have e : 2 * V + t = (2 * r + t) + b * (2 * q) := by rw [← hV, Nat.mul_add, Nat.mul_left_comm]; omega
    rw [e, Nat.add_mul_div_left _ _ hb, Nat.add_mul_mod_self_left, Nat.div_eq_of_lt h, Nat.mod_eq_of_lt h]
    omega
  · intro h
    have e : 2 * V + t = (2 * r + t - b) + b * (2 * q + 1) := by rw [← hV, Nat.mul_add, Nat.mul_left_comm, Nat.mul_succ]; omega
    rw [e, Nat.add_mul_div_left _ _ hb, Nat.add_mul_mod_self_left, Nat.div_eq_of_lt (by omega), Nat.mod_eq_of_lt (by omega)]
    omega

theorem one3_calls {w : World} : Calls Tryz.prog 115 #[] w (RetNat w 1) := by
  go_enter Tryz.func115, Tryz.ntmps115
  go_wp2_with fail
  go_ret
  refine ⟨_, rfl, ?_, (Ext.refl _).alloc _⟩
  rw [dig_one one_lt_Bs (by decide)]
  exact own_lit w [1] (by simp [one_lt_Bs]) _ rfl 1 rfl (by rw [Lmax_def]; simp)

theorem refadd_nat {w : World} {v u : Value} {a b c : Nat} (ha : Limbs w v (dig a)) (hb : Limbs w u (dig b)) (hla : (dig a).length ≤ 65536) (hlb : (dig b).length ≤ 65536) (hc : a + b = c) :
    Calls Tryz.prog 66 #[v, u] w (RetNat w c) := by
  have := refadd_calls ha hb hla hlb
  rwa [val_dig, val_dig, hc] at this
theorem refsub_nat {w : World} {v u : Value} {a c : Nat} {B : List Nat} (ha : Limbs w v (dig a)) (hb : Limbs w u B) (hla : (dig a).length ≤ 65536) (hlb : B.length ≤ 65536) (hle : val B ≤ a) (hc : a - val B = c) :
    Calls Tryz.prog 68 #[v, u] w fun e w' => ∃ r, e = .returned (.tuple #[r, .int .i64 0]) ∧ OwnL w.heap.size w' r (dig c) ∧ Ext w w' := by
  refine (refsub_calls ha hb hla hlb).mono ?_
  rintro e w' ⟨r, h1, h2, h3⟩
  rw [val_dig] at h1 h2
  rw [if_neg (by omega)] at h1
  rw [hc] at h2
  exact ⟨r, h1, h2, h3⟩
theorem dig_le_len {a n : Nat} {A : List Nat} (hA : ∀ x ∈ A, x < Bs) (h : a ≤ val A) (hn : A.length ≤ n) : (dig a).length ≤ n :=
  Nat.le_trans (dig_len_le (Nat.lt_of_le_of_lt h (val_lt hA))) hn

/-- a quotient and what is left, or none -/
def RetDiv3 (w : World) (a b : Nat) (e : Ending) (w' : World) : Prop :=
  ∃ v u, e = .returned (.tuple #[v, u, .int .i64 (if b = 0 then 7 else 0)]) ∧ OwnL w.heap.size w' v (dig (if b = 0 then 0 else a / b)) ∧ OwnL w.heap.size w' u (dig (if b = 0 then 0 else a % b)) ∧ Ext w w'

set_option maxHeartbeats 4000000 in
set_option maxRecDepth 100000 in
theorem refdiv_calls {w : World} {v u : Value} {A B : List Nat} (hA : Limbs w v A) (hB : Limbs w u B) (hlA : A.length ≤ 65535) (hlB : B.length ≤ 65535) :
    Calls Tryz.prog 65 #[v, u] w (RetDiv3 w (val A) (val B)) := by
  obtain ⟨a, ha⟩ : ∃ a, val A = a := ⟨_, rfl⟩
  obtain ⟨b, hb⟩ : ∃ b, val B = b := ⟨_, rfl⟩
  have HA := Lib.hid ha
  have HB := Lib.hid hb
  have HLA := Lib.hid hlA
  have HLB := Lib.hid hlB
  rw [ha, hb]
  by_cases hb0 : b = 0
  · have HBL : Hid (bl (val B) = 0) := by show _ = _; rw [hb, hb0, bl_zero]
    have HB0 := Lib.hid hb0
    clear ha hb hb0 hlA hlB
    go_enter Tryz.func65, Tryz.ntmps65
    go_wp2_with fail
    refine (reflen_calls hB (by have := HLB.out; omega)).mono ?_
    rintro e w1 ⟨rfl, x1⟩
    rw [HBL.out]
    go_wp2_with fail
    go_ret3
    refine ⟨_, _, by rw [if_pos HB0.out]; rfl, ?_, ?_, x1⟩ <;> rw [if_pos HB0.out, dig_zero] <;> exact OwnL.nil _ _
  · obtain ⟨lb, hlb⟩ : ∃ l, bl (val B) = l := ⟨_, rfl⟩
    have hlb0 : ((lb : Int) == 0) = false := by
      rw [beq_eq_false_iff_ne, ← hlb]
      intro e
      exact hb0 (by rw [← hb]; exact (bl_eq_zero (val B)).1 (by omega))
    obtain ⟨la, hla⟩ : ∃ l, bl (val A) = l := ⟨_, rfl⟩
    have hla2 : (la : Int) ≤ 4194304 := by
      have : bl (val A) ≤ 64 * A.length := (bl_le_iff _ _).2 (by rw [Nat.pow_mul, ← Bs_eq]; exact val_lt hA.2)
      omega
    have HLB2 := Lib.hid hlb
    have HLA2 := Lib.hid hla
    have HB0 := Lib.hid hb0
    have HTOP : Hid (a / 2 ^ la = 0) := by
      refine Nat.div_eq_of_lt ?_
      rw [← ha]; exact (bl_le_iff _ _).1 (by omega)
    clear ha hb hb0 hlA hlB hlb hla
    go_enter Tryz.func65, Tryz.ntmps65
    go_wp2_with fail
    refine (reflen_calls hB (by have := HLB.out; omega)).mono ?_
    rintro e w1 ⟨rfl, x1⟩
    rw [HLB2.out]
    go_wp2_with fail
    refine (reflen_calls (hA.ext x1) (by have := HLA.out; omega)).mono ?_
    rintro e w2 ⟨rfl, x2⟩
    rw [HLA2.out]
    have X2 := x1.trans x2
    go_wp2_with fail
    go_loopw [7, 8, 9] (fun v7 v8 v9 wr => ∃ (j : Nat) (z : Int), v9 = .int .i64 z ∧ Hid (z = (j : Int) - 1 ∧ j ≤ la) ∧ Hid (OwnL w.heap.size wr v7 (dig (a / 2 ^ j / b))) ∧ Hid (OwnL w.heap.size wr v8 (dig (a / 2 ^ j % b))) ∧ Ext w wr) (fun _ _ v9 _ => (intOf v9 + 1).toNat)
    case atStart =>
      refine ⟨la, _, rfl, ⟨rfl, Nat.le_refl _⟩, ?_, ?_, X2⟩
      · show OwnL _ _ _ _; rw [HTOP.out, Nat.zero_div, dig_zero]; exact OwnL.nil _ _
      · show OwnL _ _ _ _; rw [HTOP.out, Nat.zero_mod, dig_zero]; exact OwnL.nil _ _
    case round =>
      obtain ⟨j, z, rfl, hz, hq, hr, hxt⟩ := hrel
      by_cases hj0 : j = 0
      · subst hj0
        obtain rfl : z = -1 := by have := hz.out.1; omega
        clear hz
        go_wp2_with fail
        go_ret3
        refine ⟨_, _, by rw [if_neg HB0.out]; rfl, ?_, ?_, hxt⟩
        · rw [if_neg HB0.out]; have h := hq.out; rwa [Nat.pow_zero, Nat.div_one] at h
        · rw [if_neg HB0.out]; have h := hr.out; rwa [Nat.pow_zero, Nat.div_one] at h
      · obtain ⟨i, rfl⟩ : ∃ i, j = i + 1 := ⟨j - 1, by omega⟩
        obtain rfl : z = (i : Int) := by have := hz.out.1; omega
        have hil : (i : Int) ≤ 4194304 := by have := hz.out.2; omega
        obtain ⟨V, hV⟩ : ∃ V, a / 2 ^ (i + 1) = V := ⟨_, rfl⟩
        obtain ⟨t, ht⟩ : ∃ t : Bool, decide (a / 2 ^ i % 2 = 1) = t := ⟨_, rfl⟩
        obtain ⟨n, hn⟩ : ∃ n : Nat, (if t then 1 else 0) = n := ⟨_, rfl⟩
        have hstep : a / 2 ^ i = 2 * V + n := by
          rw [bit_step, hV, ← hn, ← ht]; simp
        have hn1 : n ≤ 1 := by rw [← hn]; split <;> decide
        have hds := div_step (V := V) (b := b) (t := n) (Nat.pos_of_ne_zero HB0.out) rfl rfl hn1
        have hVa : V ≤ a := by rw [← hV]; exact Nat.div_le_self _ _
        have h2V : 2 * V + n ≤ a := by rw [← hstep]; exact Nat.div_le_self _ _
        rw [hV] at hq hr
        have HZ2 : Hid (i ≤ la) := by show _ ≤ _; have := hz.out.2; omega
        have HT : Hid (decide (val A / 2 ^ i % 2 = 1) = t) := by show _ = _; rw [HA.out]; exact ht
        have HST := Lib.hid hstep
        have HDS := Lib.hid hds
        have HVA := Lib.hid hVa
        have H2V := Lib.hid h2V
        have HN1 := Lib.hid hn1
        have HNT := Lib.hid hn
        have HRB : Hid (V % b < b) := Nat.mod_lt _ (Nat.pos_of_ne_zero HB0.out)
        have LQ : Hid ((dig (V / b)).length ≤ 65535) := dig_le_len hA.2 (by rw [HA.out]; exact Nat.le_trans (Nat.div_le_self _ _) hVa) HLA.out
        have LR : Hid ((dig (V % b)).length ≤ 65535) := dig_le_len hB.2 (by rw [HB.out]; have := HRB.out; omega) HLB.out
        have L2 : ∀ c, c < 2 * b → (dig c).length ≤ 65536 := fun c hc => by
          have h1 : b < Bs ^ B.length := by rw [← HB.out]; exact val_lt hB.2
          have h2 : 2 * Bs ^ B.length ≤ Bs ^ (B.length + 1) := by rw [Nat.pow_succ, Nat.mul_comm (Bs ^ B.length)]; exact Nat.mul_le_mul_right _ two_le_Bs
          exact Nat.le_trans (dig_len_le (k := B.length + 1) (Nat.lt_of_lt_of_le hc (Nat.le_trans (Nat.mul_le_mul_left 2 (Nat.le_of_lt h1)) h2))) (by have := HLB.out; omega)
        have LC := Lib.hid L2
        have LQ2 : Hid (∀ c, c ≤ a → (dig c).length ≤ 65536) := fun c hc => dig_le_len hA.2 (by rw [HA.out]; exact hc) (by have := HLA.out; omega)
        clear hV ht hn hstep hds hVa h2V hn1 L2 hz hj0
        go_wp2_with fail
        refine (refadd_nat hq.out.limbs hq.out.limbs (by have := LQ.out; omega) (by have := LQ.out; omega) rfl).mono ?_
        rintro e w3 ⟨q2, rfl, hq2, x3⟩
        go_wp2_with fail
        refine (refadd_nat (hr.out.ext x3).limbs (hr.out.ext x3).limbs (by have := LR.out; omega) (by have := LR.out; omega) rfl).mono ?_
        rintro e w4 ⟨r2, rfl, hr2, x4⟩
        go_wp2_with fail
        refine (refbit_calls (hA.ext (hxt.trans (x3.trans x4))) (by have := HLA.out; omega) i (by omega) _ rfl t HT.out).mono ?_
        rintro e w5 ⟨rfl, x5⟩
        cases t with
        | true =>
          obtain rfl : n = 1 := HNT.out.symm
          go_wp2_with fail
          refine one3_calls.mono ?_
          rintro e w6 ⟨o3, rfl, ho3, x6⟩
          go_wp2_with fail
          refine (refadd_nat (hr2.limbs.ext (x5.trans x6)) ho3.limbs (LC.out _ (by have := HRB.out; omega)) (by rw [dig_one one_lt_Bs (by decide)]; decide) (show V % b + V % b + 1 = 2 * (V % b) + 1 by omega)).mono ?_
          rintro e w7 ⟨r3, rfl, hr3, x7⟩
          by_cases hle : b ≤ 2 * (V % b) + 1
          · obtain ⟨c, hc⟩ : ∃ c, cmpN (val (dig (2 * (V % b) + 1))) (val B) = c := ⟨_, rfl⟩
            have hc0 : 0 ≤ c := by rw [← hc, val_dig, HB.out]; unfold cmpN; rw [if_neg (by omega)]; split <;> decide
            have HC := Lib.hid hc
            obtain ⟨h1, h2⟩ := HDS.out.2 hle
            have H1 := Lib.hid h1
            have H2 := Lib.hid h2
            have HLE := Lib.hid hle
            clear hc h1 h2 hle
            go_wp2_with fail
            refine (refcmp_int hr3.limbs (hB.ext (hxt.trans (x3.trans (x4.trans (x5.trans (x6.trans x7)))))) (LC.out _ (by have := HRB.out; have := HN1.out; omega)) (by have := HLB.out; omega) c HC.out).mono ?_
            rintro e w8 ⟨rfl, x8⟩
            go_wp2_with fail
            refine (refsub_nat (hr3.limbs.ext x8) (hB.ext (hxt.trans ((x3.trans (x4.trans (x5.trans (x6.trans x7)))).trans x8))) (LC.out _ (by have := HRB.out; have := HN1.out; omega)) (by have := HLB.out; omega) (by rw [HB.out]; exact HLE.out) rfl).mono ?_
            rintro e w9 ⟨r4, rfl, hr4, x9⟩
            go_wp2_with fail
            refine one3_calls.mono ?_
            rintro e w10 ⟨o4, rfl, ho4, x10⟩
            go_wp2_with fail
            refine (refadd_nat (hq2.limbs.ext ((x4.trans (x5.trans (x6.trans x7))).trans (x8.trans (x9.trans x10)))) ho4.limbs (LQ2.out _ (by have := H1.out; have := H2V.out; have e := Nat.div_le_self (2 * V + 1) b; omega)) (by rw [dig_one one_lt_Bs (by decide)]; decide) rfl).mono ?_
            rintro e w11 ⟨q4, rfl, hq4, x11⟩
            have XX := (x3.trans (x4.trans (x5.trans (x6.trans x7)))).trans (x8.trans (x9.trans (x10.trans x11)))
            go_wp2_with fail
            refine ⟨⟨i, _, rfl, ⟨rfl, HZ2.out⟩, ?_, ?_, hxt.trans XX⟩, by simp [intOf]⟩
            · show OwnL _ _ _ _; rw [HST.out, H1.out, show 2 * (V / b) + 1 = V / b + V / b + 1 by omega]; exact hq4.mono (by have := (hxt.trans ((x3.trans (x4.trans (x5.trans (x6.trans x7)))).trans (x8.trans (x9.trans x10)))).size; exact this)
            · show OwnL _ _ _ _; rw [HST.out, H2.out]; rw [HB.out] at hr4; exact (hr4.ext (x10.trans x11)).mono (by have := (hxt.trans ((x3.trans (x4.trans (x5.trans (x6.trans x7)))).trans x8)).size; exact this)
          · have hc : cmpN (val (dig (2 * (V % b) + 1))) (val B) = -1 := cmpN_lt (by rw [val_dig, HB.out]; omega)
            have HC := Lib.hid hc
            obtain ⟨h1, h2⟩ := HDS.out.1 (by omega)
            have H1 := Lib.hid h1
            have H2 := Lib.hid h2
            clear hc h1 h2 hle
            go_wp2_with fail
            refine (refcmp_int hr3.limbs (hB.ext (hxt.trans (x3.trans (x4.trans (x5.trans (x6.trans x7)))))) (LC.out _ (by have := HRB.out; have := HN1.out; omega)) (by have := HLB.out; omega) (-1) HC.out).mono ?_
            rintro e w8 ⟨rfl, x8⟩
            have XX := (x3.trans (x4.trans (x5.trans (x6.trans x7)))).trans x8
            go_wp2_with fail
            refine ⟨⟨i, _, rfl, ⟨rfl, HZ2.out⟩, ?_, ?_, hxt.trans XX⟩, by simp [intOf]⟩
            · show OwnL _ _ _ _; rw [HST.out, H1.out, show 2 * (V / b) = V / b + V / b by omega]; exact (hq2.ext ((x4.trans (x5.trans (x6.trans x7))).trans x8)).mono hxt.size
            · show OwnL _ _ _ _; rw [HST.out, H2.out]; exact (hr3.ext x8).mono (hxt.trans (x3.trans (x4.trans (x5.trans x6)))).size
        | false =>
          obtain rfl : n = 0 := HNT.out.symm
          have hr2b : OwnL w3.heap.size w4 r2 (dig (2 * (V % b) + 0)) := by rw [show 2 * (V % b) + 0 = V % b + V % b by omega]; exact hr2
          by_cases hle : b ≤ 2 * (V % b) + 0
          · obtain ⟨c, hc⟩ : ∃ c, cmpN (val (dig (2 * (V % b) + 0))) (val B) = c := ⟨_, rfl⟩
            have hc0 : 0 ≤ c := by rw [← hc, val_dig, HB.out]; unfold cmpN; rw [if_neg (by omega)]; split <;> decide
            have HC := Lib.hid hc
            obtain ⟨h1, h2⟩ := HDS.out.2 hle
            have H1 := Lib.hid h1
            have H2 := Lib.hid h2
            have HLE := Lib.hid hle
            clear hc h1 h2 hle
            go_wp2_with fail
            refine (refcmp_int (hr2b.limbs.ext x5) (hB.ext (hxt.trans (x3.trans (x4.trans x5)))) (LC.out _ (by have := HRB.out; have := HN1.out; omega)) (by have := HLB.out; omega) c HC.out).mono ?_
            rintro e w8 ⟨rfl, x8⟩
            go_wp2_with fail
            refine (refsub_nat ((hr2b.limbs.ext x5).ext x8) (hB.ext (hxt.trans ((x3.trans (x4.trans x5)).trans x8))) (LC.out _ (by have := HRB.out; have := HN1.out; omega)) (by have := HLB.out; omega) (by rw [HB.out]; exact HLE.out) rfl).mono ?_
            rintro e w9 ⟨r4, rfl, hr4, x9⟩
            go_wp2_with fail
            refine one3_calls.mono ?_
            rintro e w10 ⟨o4, rfl, ho4, x10⟩
            go_wp2_with fail
            refine (refadd_nat (hq2.limbs.ext ((x4.trans x5).trans (x8.trans (x9.trans x10)))) ho4.limbs (LQ2.out _ (by have := H1.out; have := H2V.out; have e := Nat.div_le_self (2 * V + 0) b; omega)) (by rw [dig_one one_lt_Bs (by decide)]; decide) rfl).mono ?_
            rintro e w11 ⟨q4, rfl, hq4, x11⟩
            have XX := (x3.trans (x4.trans x5)).trans (x8.trans (x9.trans (x10.trans x11)))
            go_wp2_with fail
            refine ⟨⟨i, _, rfl, ⟨rfl, HZ2.out⟩, ?_, ?_, hxt.trans XX⟩, by simp [intOf]⟩
            · show OwnL _ _ _ _; rw [HST.out, H1.out, show 2 * (V / b) + 1 = V / b + V / b + 1 by omega]; exact hq4.mono (by have := (hxt.trans ((x3.trans (x4.trans x5)).trans (x8.trans (x9.trans x10)))).size; exact this)
            · show OwnL _ _ _ _; rw [HST.out, H2.out]; rw [HB.out] at hr4; exact (hr4.ext (x10.trans x11)).mono (by have := (hxt.trans ((x3.trans (x4.trans x5)).trans x8)).size; exact this)
          · have hc : cmpN (val (dig (2 * (V % b) + 0))) (val B) = -1 := cmpN_lt (by rw [val_dig, HB.out]; omega)
            have HC := Lib.hid hc
            obtain ⟨h1, h2⟩ := HDS.out.1 (by omega)
            have H1 := Lib.hid h1
            have H2 := Lib.hid h2
            clear hc h1 h2 hle
            go_wp2_with fail
            refine (refcmp_int (hr2b.limbs.ext x5) (hB.ext (hxt.trans (x3.trans (x4.trans x5)))) (LC.out _ (by have := HRB.out; have := HN1.out; omega)) (by have := HLB.out; omega) (-1) HC.out).mono ?_
            rintro e w8 ⟨rfl, x8⟩
            have XX := (x3.trans (x4.trans x5)).trans x8
            go_wp2_with fail
            refine ⟨⟨i, _, rfl, ⟨rfl, HZ2.out⟩, ?_, ?_, hxt.trans XX⟩, by simp [intOf]⟩
            · show OwnL _ _ _ _; rw [HST.out, H1.out, show 2 * (V / b) = V / b + V / b by omega]; exact (hq2.ext ((x4.trans x5).trans x8)).mono hxt.size
            · show OwnL _ _ _ _; rw [HST.out, H2.out]; exact (hr2b.ext (x5.trans x8)).mono (hxt.trans x3).size
end Go.Proofs.YtefeglkbikcjeaaGreatDoor
