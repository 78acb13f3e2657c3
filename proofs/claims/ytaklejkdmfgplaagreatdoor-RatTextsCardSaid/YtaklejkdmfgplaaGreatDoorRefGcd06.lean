/- The contract of tombolaref06.Gcd. -/
import Derived.Test.YtaklejkdmfgplaaGreatDoorRefDiv06s
import Derived.Test.YtaklejkdmfgplaaGreatDoorRef06Plain
namespace Go.Proofs.YtaklejkdmfgplaaGreatDoor
open Go Go.RowKit

theorem mod2_pow0 (x : Nat) : decide (x / 2 ^ 0 % 2 = 1) = decide (x % 2 = 1) := by rw [Nat.pow_zero, Nat.div_one]
theorem refbit0 {w : World} {v : Value} {x : Nat} (hA : Limbs w v (dig x)) (hl : (dig x).length ≤ 65536) (b : Bool) (hb : decide (x % 2 = 1) = b) :
    Calls Tryz.prog 92 #[v, .int .i64 0] w fun e w' => e = .returned (.bool b) ∧ Ext w w' :=
  refbit_calls hA hl 0 (by omega) 0 rfl b (by rw [val_dig, mod2_pow0]; exact hb)
theorem refshr1 {w : World} {v : Value} {x : Nat} (hA : Limbs w v (dig x)) (hl : (dig x).length ≤ 65536) :
    Calls Tryz.prog 117 #[v, .int .i64 1] w fun e w' => ∃ r, e = .returned (.tuple #[r, .int .i64 0]) ∧ OwnL w.heap.size w' r (dig (x / 2)) ∧ Ext w w' := by
  have := refshr_ok hA hl 1 (by omega)
  rwa [val_dig, Nat.pow_one] at this
theorem dig_len_pos {x : Nat} : (dig x).length = 0 ↔ x = 0 := by
  constructor
  · intro h
    have h1 := val_dig x
    rw [List.eq_nil_of_length_eq_zero h] at h1
    rw [← h1]; rfl
  · rintro rfl; rw [dig_zero]; rfl
theorem OwnL.sh {B : Nat} {w : World} {v : Value} {A : List Nat} (h : OwnL B w v A) : ∃ p c, v = .slice p A.length c := by
  obtain ⟨p, c, e, -⟩ := h.limbs.open
  exact ⟨p, c, e⟩

theorem twos_le {x t a K : Nat} (hx : x ≠ 0) (h : x * 2 ^ t ≤ a) (ha : a < Bs ^ K) (hK : K ≤ 1000) : t ≤ 65536 := by
  have h1 : 2 ^ t ≤ x * 2 ^ t := Nat.le_mul_of_pos_left _ (Nat.pos_of_ne_zero hx)
  have h2 : 2 ^ t < 2 ^ (64 * K) := by rw [Nat.pow_mul, ← Bs_eq]; omega
  have h3 := (Nat.pow_lt_pow_iff_right (show 1 < 2 by decide)).1 h2
  omega
/-- in the midst of Gcd -/
structure GcIn (K : Nat) (w : World) (x y : Nat) (v u : Value) (wr : World) : Prop where
  a : OwnL w.heap.size wr v (dig x)
  b : OwnL w.heap.size wr u (dig y)
  ext : Ext w wr
  xl : x < Bs ^ K
  yl : y < Bs ^ K
theorem GcIn.lx {K : Nat} {w : World} {x y : Nat} {v u : Value} {wr : World} (h : GcIn K w x y v u wr) (hK : K ≤ 1000) : (dig x).length ≤ 1000 := Nat.le_trans (dig_len_le h.xl) hK
theorem GcIn.ly {K : Nat} {w : World} {x y : Nat} {v u : Value} {wr : World} (h : GcIn K w x y v u wr) (hK : K ≤ 1000) : (dig y).length ≤ 1000 := Nat.le_trans (dig_len_le h.yl) hK
theorem GcIn.step {K : Nat} {w : World} {x y : Nat} {v u : Value} {wr w' : World} (h : GcIn K w x y v u wr) (k : Ext wr w') : GcIn K w x y v u w' := ⟨h.a.ext k, h.b.ext k, h.ext.trans k, h.xl, h.yl⟩

set_option maxHeartbeats 4000000 in
set_option maxRecDepth 100000 in
theorem refgcd_nz {w : World} {v u : Value} {A B : List Nat} (hA : Limbs w v A) (hB : Limbs w u B) (K : Nat) (hK : K ≤ 1000) (hlA : A.length ≤ K) (hlB : B.length ≤ K) (hA0 : val A ≠ 0) (hB0 : val B ≠ 0) :
    Calls Tryz.prog 69 #[v, u] w (RetNat w (Nat.gcd (val A) (val B))) := by
  obtain ⟨a, ha⟩ : ∃ a, val A = a := ⟨_, rfl⟩
  obtain ⟨b, hb⟩ : ∃ b, val B = b := ⟨_, rfl⟩
  have hax : a < Bs ^ K := by rw [← ha]; exact Nat.lt_of_lt_of_le (val_lt hA.2) (Nat.pow_le_pow_right (by rw [Bs_def]; decide) hlA)
  have hbx : b < Bs ^ K := by rw [← hb]; exact Nat.lt_of_lt_of_le (val_lt hB.2) (Nat.pow_le_pow_right (by rw [Bs_def]; decide) hlB)
  have HAX := Lib.hid hax
  have HBX := Lib.hid hbx
  have HA := Lib.hid ha
  have HB := Lib.hid hb
  have HK := Lib.hid hK
  have HLA : Hid (A.length ≤ 65536) := by show _ ≤ _; omega
  have HLB : Hid (B.length ≤ 65536) := by show _ ≤ _; omega
  rw [ha] at hA0 ⊢
  rw [hb] at hB0 ⊢
  have A0 : Hid (a ≠ 0) := hA0
  have B0 : Hid (b ≠ 0) := hB0
  clear hax hbx ha hb hK hlA hlB hA0 hB0
  go_enter Tryz.func69, Tryz.ntmps69
  go_wp2_with fail
  refine (reftrim_calls hA HLA.out).mono ?_
  rintro e w1 ⟨v1, rfl, h1, x1⟩
  go_wp2_with fail
  refine (reftrim_calls (hB.ext x1) HLB.out).mono ?_
  rintro e w2 ⟨u1, rfl, h2, x2⟩
  rw [HA.out] at h1
  rw [HB.out] at h2
  have G2 : Hid (GcIn K w a b v1 u1 w2) := ⟨h1.ext x2, h2.mono x1.size, x1.trans x2, HAX.out, HBX.out⟩
  clear h1 h2 x1 x2
  obtain ⟨pv, cv, rfl⟩ := G2.out.a.sh
  obtain ⟨pu, cu, rfl⟩ := G2.out.b.sh
  obtain ⟨la, hla⟩ : ∃ l, (dig a).length = l := ⟨_, rfl⟩
  obtain ⟨lb, hlb⟩ : ∃ l, (dig b).length = l := ⟨_, rfl⟩
  have la1 : (1 : Int) ≤ la := by have : la ≠ 0 := fun e => A0.out (dig_len_pos.1 (by rw [hla, e])); omega
  have lb1 : (1 : Int) ≤ lb := by have : lb ≠ 0 := fun e => B0.out (dig_len_pos.1 (by rw [hlb, e])); omega
  have ea : ((la : Int) == 0) = false := by rw [beq_eq_false_iff_ne]; omega
  have eb : ((lb : Int) == 0) = false := by rw [beq_eq_false_iff_ne]; omega
  rw [hla, hlb] at G2 ⊢
  clear hla hlb
  -- LOOPS
  go_wp2_with fail
  go_loopg [0, 1, 5] a (fun gk v0 v1 v5 wr => ∃ y t : Nat, v5 = .int .i64 (t : Int) ∧ gk ≠ 0 ∧ y ≠ 0 ∧ Hid (Nat.gcd a b = Nat.gcd gk y * 2 ^ t) ∧ Hid (gk * 2 ^ t ≤ a) ∧ GcIn K w gk y v0 v1 wr)
  case atStart => exact ⟨b, 0, rfl, A0.out, B0.out, by show _ = _; simp, by show _ ≤ _; simp, G2.out⟩
  case round =>
    clear G2
    obtain ⟨y, t, rfl, hgx0, hy0, hg, hxa, hG⟩ := hrel
    have GM := Lib.hid hG
    clear hG
    have LXX : Hid ((dig gk).length ≤ 65536) := by have := GM.out.lx HK.out; show _ ≤ _; omega
    have LYY : Hid ((dig y).length ≤ 65536) := by have := GM.out.ly HK.out; show _ ≤ _; omega
    have t64 : (t : Int) ≤ 65536 := by have := twos_le hgx0 hxa.out HAX.out HK.out; omega
    by_cases hx2 : gk % 2 = 1
    · have BX : Hid (decide (gk % 2 = 1) = true) := by show _ = _; rw [decide_eq_true_eq]; exact hx2
      have HODD : Hid (gk = 0 ∨ y = 0 ∨ gk % 2 = 1 ∨ y % 2 = 1) := .inr (.inr (.inl hx2))
      go_wp2_with fail
      refine (refbit0 GM.out.a.limbs LXX.out true BX.out).mono ?_
      rintro e w3 ⟨rfl, x3⟩
      have GW := Lib.hid (GM.out.step x3)
      clear x3 GM BX hx2 LXX LYY
      go_wp2_with fail
      have T64 : Hid (t ≤ 65536) := twos_le hgx0 hxa.out HAX.out HK.out
      clear hgx0 hy0 hxa
      obtain ⟨x, hx⟩ : ∃ x, gk = x := ⟨_, rfl⟩
      rw [hx] at GW hg HODD
      clear hx
      go_loopg [0, 1] (x + y) (fun gk v0 v1 wr => ∃ x' y' : Nat, gk = x' + y' ∧ Hid (Nat.gcd x' y' = Nat.gcd x y) ∧ Hid (x' = 0 ∨ y' = 0 ∨ x' % 2 = 1 ∨ y' % 2 = 1) ∧ GcIn K w x' y' v0 v1 wr)
      case atStart => exact ⟨x, y, rfl, rfl, HODD, GW.out⟩
      case round =>
        clear GW HODD
        obtain ⟨x', y', hgk, hxy, hodd, hG⟩ := hrel
        have GM := Lib.hid hG
        have GK := Lib.hid hgk
        clear hG hgk
        obtain ⟨pv2, cv2, rfl⟩ := GM.out.a.sh
        obtain ⟨pu2, cu2, rfl⟩ := GM.out.b.sh
        obtain ⟨l1, hl1⟩ : ∃ l, (dig x').length = l := ⟨_, rfl⟩
        obtain ⟨l2, hl2⟩ : ∃ l, (dig y').length = l := ⟨_, rfl⟩
        have hz1 : l1 = 0 ↔ x' = 0 := by rw [← hl1]; exact dig_len_pos
        have hz2 : l2 = 0 ↔ y' = 0 := by rw [← hl2]; exact dig_len_pos
        have HL1 := Lib.hid hl1
        have HL2 := Lib.hid hl2
        rw [hl1, hl2] at GM ⊢
        clear hl1 hl2
        by_cases hx0 : x' = 0
        · have l10 : l1 = 0 := hz1.2 hx0
          subst l10
          clear hz1 hz2
          have HGE : Hid ((x' + y') * 2 ^ t = Nat.gcd a b) := by show _ = _; rw [hg.out, ← hxy.out, gcd_end (.inl hx0)]
          have LX := GM.out.lx HK.out
          have LY := GM.out.ly HK.out
          have LS : Hid ((dig (x' + y')).length ≤ 65536) := by
            show _ ≤ _
            have h1 := GM.out.xl
            have h2 := GM.out.yl
            exact Nat.le_trans (dig_len_le (k := K + 1) (by
              rw [Nat.pow_succ]
              have h3 : 2 * Bs ^ K ≤ Bs ^ K * Bs := by rw [Nat.mul_comm]; exact Nat.mul_le_mul_left _ two_le_Bs
              omega)) (by have := HK.out; omega)
          have LXX : Hid ((dig x').length ≤ 65536) := by show _ ≤ _; omega
          have LYY : Hid ((dig y').length ≤ 65536) := by show _ ≤ _; omega
          clear LX LY hxy hodd
          go_wp2_with fail
          refine (refadd_nat GM.out.a.limbs GM.out.b.limbs LXX.out LYY.out rfl).mono ?_
          rintro e we ⟨ve, rfl, he, xe⟩
          have VE := Lib.hid he
          have XE := Lib.hid (GM.out.ext.trans xe)
          clear he xe
          go_wp2_with fail
          refine (refshl_ok VE.out.limbs LS.out t T64.out).mono ?_
          rintro e wf ⟨vf, rfl, hf, xf⟩
          rw [val_dig, HGE.out] at hf
          have VF := Lib.hid (hf.mono XE.out.size)
          have XF := Lib.hid (XE.out.trans xf)
          clear hf xf
          go_wp2_with fail
          go_ret
          exact ⟨_, rfl, VF.out, XF.out⟩
        by_cases hy0 : y' = 0
        · have l20 : l2 = 0 := hz2.2 hy0
          have l11 : (1 : Int) ≤ l1 := by have : l1 ≠ 0 := fun e => hx0 (hz1.1 e); omega
          subst l20
          clear hz1 hz2
          have HGE : Hid ((x' + y') * 2 ^ t = Nat.gcd a b) := by show _ = _; rw [hg.out, ← hxy.out, gcd_end (.inr hy0)]
          have LX := GM.out.lx HK.out
          have LY := GM.out.ly HK.out
          have LS : Hid ((dig (x' + y')).length ≤ 65536) := by
            show _ ≤ _
            have h1 := GM.out.xl
            have h2 := GM.out.yl
            exact Nat.le_trans (dig_len_le (k := K + 1) (by
              rw [Nat.pow_succ]
              have h3 : 2 * Bs ^ K ≤ Bs ^ K * Bs := by rw [Nat.mul_comm]; exact Nat.mul_le_mul_left _ two_le_Bs
              omega)) (by have := HK.out; omega)
          have LXX : Hid ((dig x').length ≤ 65536) := by show _ ≤ _; omega
          have LYY : Hid ((dig y').length ≤ 65536) := by show _ ≤ _; omega
          clear LX LY hxy hodd
          go_wp2_with fail
          refine (refadd_nat GM.out.a.limbs GM.out.b.limbs LXX.out LYY.out rfl).mono ?_
          rintro e we ⟨ve, rfl, he, xe⟩
          have VE := Lib.hid he
          have XE := Lib.hid (GM.out.ext.trans xe)
          clear he xe
          go_wp2_with fail
          refine (refshl_ok VE.out.limbs LS.out t T64.out).mono ?_
          rintro e wf ⟨vf, rfl, hf, xf⟩
          rw [val_dig, HGE.out] at hf
          have VF := Lib.hid (hf.mono XE.out.size)
          have XF := Lib.hid (XE.out.trans xf)
          clear hf xf
          go_wp2_with fail
          go_ret
          exact ⟨_, rfl, VF.out, XF.out⟩
        have l11 : (1 : Int) ≤ l1 := by have : l1 ≠ 0 := fun e => hx0 (hz1.1 e); omega
        have l21 : (1 : Int) ≤ l2 := by have : l2 ≠ 0 := fun e => hy0 (hz2.1 e); omega
        have LXX : Hid ((dig x').length ≤ 65536) := by have := GM.out.lx HK.out; show _ ≤ _; omega
        have LYY : Hid ((dig y').length ≤ 65536) := by have := GM.out.ly HK.out; show _ ≤ _; omega
        clear hz1 hz2
        by_cases hs1 : x' < Bs
        · have S1 : Hid (decide (val (dig x') < Bs) = true) := by show _ = _; rw [val_dig, decide_eq_true_eq]; exact hs1
          by_cases hs2 : y' < Bs
          · have S2 : Hid (decide (val (dig y') < Bs) = true) := by show _ = _; rw [val_dig, decide_eq_true_eq]; exact hs2
            obtain ⟨n1, hn1⟩ : ∃ n : Int, (x' : Int) = n := ⟨_, rfl⟩
            obtain ⟨n2, hn2⟩ : ∃ n : Int, (y' : Int) = n := ⟨_, rfl⟩
            have N1 : Hid (((smallN (val (dig x')) : Nat) : Int) = n1) := by show _ = _; rw [val_dig]; unfold smallN; rw [if_pos hs1, hn1]
            have N2 : Hid (((smallN (val (dig y')) : Nat) : Int) = n2) := by show _ = _; rw [val_dig]; unfold smallN; rw [if_pos hs2, hn2]
            have HN1 := Lib.hid hn1
            have HN2 := Lib.hid hn2
            have SX := Lib.hid hs1
            have SY := Lib.hid hs2
            clear hn1 hn2 hs1 hs2
            go_wp2_with fail
            refine (refsmall_calls GM.out.a.limbs LXX.out n1 N1.out true S1.out).mono ?_
            rintro e w3 ⟨rfl, x3⟩
            have G3 := Lib.hid (GM.out.step x3)
            clear x3
            go_wp2_with fail
            refine (refsmall_calls G3.out.b.limbs LYY.out n2 N2.out true S2.out).mono ?_
            rintro e w4 ⟨rfl, x4⟩
            have G4 := Lib.hid (G3.out.step x4)
            clear x4 GM G3
            go_wp2_with fail
            go_loopg [6, 8] y' (fun gk v6 v8 wr => ∃ p q : Nat, gk = q ∧ v6 = .int .u64 (p : Int) ∧ v8 = .int .u64 (q : Int) ∧ Hid (p < Bs ∧ q < Bs ∧ Nat.gcd p q = Nat.gcd x' y') ∧ Ext w4 wr)
            case atStart => exact ⟨x', y', rfl, by rw [← HN1.out], by rw [← HN2.out], ⟨SX.out, SY.out, rfl⟩, Ext.refl _⟩
            case round =>
              rename Nat => gk2
              obtain ⟨p, q, hgq, rfl, rfl, hpq, hxx⟩ := hrel
              have XX := Lib.hid hxx
              have HPQ := Lib.hid hpq.out
              have HGQ := Lib.hid hgq
              clear hxx hpq hgq
              by_cases hq0 : q = 0
              · subst hq0
                have HPG : Hid (p = Nat.gcd x' y') := by show _ = _; rw [← HPQ.out.2.2, Nat.gcd_zero_right]
                have HPX : Hid (p ≤ x') := by show _ ≤ _; rw [HPG.out]; exact Nat.gcd_le_left _ (Nat.pos_of_ne_zero hx0)
                have PB := Lib.hid HPQ.out.1
                go_wp2_with fail
                refine (refof_calls PB.out).mono ?_
                rintro e w5 ⟨r5, rfl, h5, x5⟩
                have X4 := Lib.hid (G4.out.ext.trans XX.out)
                have G5 : Hid (GcIn K w p 0 r5 (.slice none 0 0) w5) := ⟨h5.mono X4.out.size, by rw [dig_zero]; exact OwnL.nil _ _, X4.out.trans x5, Nat.lt_of_le_of_lt HPX.out G4.out.xl, Nat.lt_of_le_of_lt (Nat.zero_le _) G4.out.xl⟩
                clear h5 x5
                go_wp2_with fail
                go_roundg (p + 0)
                case rel => exact ⟨p, 0, rfl, by show _ = _; rw [Nat.gcd_zero_right, HPG.out]; exact hxy.out, .inr (.inl rfl), G5.out⟩
                case measure => have := GK.out; have := HPX.out; omega
              · obtain ⟨r, hr⟩ : ∃ r, p % q = r := ⟨_, rfl⟩
                have hri : (p : Int) % (q : Int) = (r : Int) := by rw [← hr]; exact (Int.natCast_emod p q).symm
                have htm : Int.tmod (p : Int) (q : Int) = (r : Int) := by rw [Int.tmod_eq_emod_of_nonneg (Int.natCast_nonneg p)]; exact hri
                have hq1 : (1 : Int) ≤ q := by omega
                have hqb : ((q : Int) == 0) = false := by rw [beq_eq_false_iff_ne]; omega
                have hqn : ¬ (q : Int) = 0 := by omega
                have hrq : r < q := by rw [← hr]; exact Nat.mod_lt _ (Nat.pos_of_ne_zero hq0)
                have HRB : Hid (q < Bs ∧ r < Bs ∧ Nat.gcd q r = Nat.gcd x' y') := by
                  refine ⟨HPQ.out.2.1, Nat.lt_trans hrq HPQ.out.2.1, ?_⟩
                  rw [← HPQ.out.2.2, ← hr, Nat.gcd_comm p q, Nat.gcd_rec q p, Nat.gcd_comm]
                have LT := Lib.hid hrq
                clear hr hrq
                go_wp2_with fail
                go_quiet (fail)
                go_wp2_with fail
                go_roundg r
                case rel => exact ⟨q, r, rfl, rfl, rfl, HRB, XX.out.drewN _⟩
                case measure => have := LT.out; have := HGQ.out; omega
          · have S2 : Hid (decide (val (dig y') < Bs) = false) := by show _ = _; rw [val_dig, decide_eq_false_iff_not]; exact hs2
            obtain ⟨n1, hn1⟩ : ∃ n : Int, ((smallN (val (dig x')) : Nat) : Int) = n := ⟨_, rfl⟩
            obtain ⟨n2, hn2⟩ : ∃ n : Int, ((smallN (val (dig y')) : Nat) : Int) = n := ⟨_, rfl⟩
            have N1 := Lib.hid hn1
            have N2 := Lib.hid hn2
            clear hn1 hn2 hs1 hs2
            go_wp2_with fail
            refine (refsmall_calls GM.out.a.limbs LXX.out n1 N1.out true S1.out).mono ?_
            rintro e w3 ⟨rfl, x3⟩
            have G3 := Lib.hid (GM.out.step x3)
            clear x3
            go_wp2_with fail
            refine (refsmall_calls G3.out.b.limbs LYY.out n2 N2.out false S2.out).mono ?_
            rintro e w4 ⟨rfl, x4⟩
            have G4 := Lib.hid (G3.out.step x4)
            clear x4 GM G3
            by_cases hx2 : x' % 2 = 1
            · have BX : Hid (decide (x' % 2 = 1) = true) := by show _ = _; rw [decide_eq_true_eq]; exact hx2
              go_wp2_with fail
              refine (refbit0 G4.out.a.limbs LXX.out true BX.out).mono ?_
              rintro e w5 ⟨rfl, x5⟩
              have G5 := Lib.hid (G4.out.step x5)
              clear x5
              by_cases hy2 : y' % 2 = 1
              · have BY : Hid (decide (y' % 2 = 1) = true) := by show _ = _; rw [decide_eq_true_eq]; exact hy2
                go_wp2_with fail
                refine (refbit0 G5.out.b.limbs LYY.out true BY.out).mono ?_
                rintro e w6 ⟨rfl, x6⟩
                have G6 := Lib.hid (G5.out.step x6)
                clear x6
                obtain ⟨c, hc⟩ : ∃ c, cmpN (val (dig x')) (val (dig y')) = c := ⟨_, rfl⟩
                have HC := Lib.hid hc
                by_cases hle : y' ≤ x'
                · have hc0 : 0 ≤ c := by rw [← hc, val_dig, val_dig]; unfold cmpN; rw [if_neg (by omega)]; split <;> decide
                  clear hc
                  go_wp2_with fail
                  refine (refcmp_int G6.out.a.limbs G6.out.b.limbs LXX.out LYY.out c HC.out).mono ?_
                  rintro e w7 ⟨rfl, x7⟩
                  have G7 := Lib.hid (G6.out.step x7)
                  clear x7
                  go_wp2_with fail
                  refine (refsub_nat (c := x' - y') G7.out.a.limbs G7.out.b.limbs LXX.out LYY.out (by rw [val_dig]; exact hle) (by rw [val_dig])).mono ?_
                  rintro e w8 ⟨r8, rfl, h8, x8⟩
                  have G8 : Hid (GcIn K w (x' - y') y' r8 (.slice pu2 l2 cu2) w8) := ⟨h8.mono G7.out.ext.size, G7.out.b.ext x8, G7.out.ext.trans x8, Nat.lt_of_le_of_lt (Nat.sub_le _ _) G7.out.xl, G7.out.yl⟩
                  clear h8 x8
                  go_wp2_with fail
                  go_roundg (x' - y' + y')
                  case rel => exact ⟨x' - y', y', rfl, by show _ = _; rw [gcd_sub_l hle]; exact hxy.out, .inr (.inr (.inr hy2)), G8.out⟩
                  case measure => have := GK.out; omega
                · have hc0 : c = -1 := by rw [← hc]; exact cmpN_lt (by rw [val_dig, val_dig]; omega)
                  subst hc0
                  clear hc
                  go_wp2_with fail
                  refine (refcmp_int G6.out.a.limbs G6.out.b.limbs LXX.out LYY.out (-1) HC.out).mono ?_
                  rintro e w7 ⟨rfl, x7⟩
                  have G7 := Lib.hid (G6.out.step x7)
                  clear x7
                  go_wp2_with fail
                  refine (refsub_nat (c := y' - x') G7.out.b.limbs G7.out.a.limbs LYY.out LXX.out (by rw [val_dig]; omega) (by rw [val_dig])).mono ?_
                  rintro e w8 ⟨r8, rfl, h8, x8⟩
                  have G8 : Hid (GcIn K w x' (y' - x') (.slice pv2 l1 cv2) r8 w8) := ⟨G7.out.a.ext x8, h8.mono G7.out.ext.size, G7.out.ext.trans x8, G7.out.xl, Nat.lt_of_le_of_lt (Nat.sub_le _ _) G7.out.yl⟩
                  clear h8 x8
                  go_wp2_with fail
                  go_roundg (x' + (y' - x'))
                  case rel => exact ⟨x', y' - x', rfl, by show _ = _; rw [gcd_sub_r (by omega)]; exact hxy.out, .inr (.inr (.inl hx2)), G8.out⟩
                  case measure => have := GK.out; omega
              · have BY : Hid (decide (y' % 2 = 1) = false) := by show _ = _; rw [decide_eq_false_iff_not]; exact hy2
                go_wp2_with fail
                refine (refbit0 G5.out.b.limbs LYY.out false BY.out).mono ?_
                rintro e w6 ⟨rfl, x6⟩
                have G6 := Lib.hid (G5.out.step x6)
                clear x6
                go_wp2_with fail
                refine (refshr1 G6.out.b.limbs LYY.out).mono ?_
                rintro e w8 ⟨r8, rfl, h8, x8⟩
                have G8 : Hid (GcIn K w x' (y' / 2) (.slice pv2 l1 cv2) r8 w8) := ⟨G6.out.a.ext x8, h8.mono G6.out.ext.size, G6.out.ext.trans x8, G6.out.xl, Nat.lt_of_le_of_lt (Nat.div_le_self _ _) G6.out.yl⟩
                clear h8 x8
                go_wp2_with fail
                go_roundg (x' + y' / 2)
                case rel => exact ⟨x', y' / 2, rfl, by show _ = _; rw [gcd_half_r hx2 (by omega)]; exact hxy.out, .inr (.inr (.inl hx2)), G8.out⟩
                case measure => have := GK.out; omega
            · have BX : Hid (decide (x' % 2 = 1) = false) := by show _ = _; rw [decide_eq_false_iff_not]; exact hx2
              have hy2 : y' % 2 = 1 := by rcases hodd.out with h | h | h | h <;> first | exact h | omega
              go_wp2_with fail
              refine (refbit0 G4.out.a.limbs LXX.out false BX.out).mono ?_
              rintro e w6 ⟨rfl, x6⟩
              have G6 := Lib.hid (G4.out.step x6)
              clear x6
              go_wp2_with fail
              refine (refshr1 G6.out.a.limbs LXX.out).mono ?_
              rintro e w8 ⟨r8, rfl, h8, x8⟩
              have G8 : Hid (GcIn K w (x' / 2) y' r8 (.slice pu2 l2 cu2) w8) := ⟨h8.mono G6.out.ext.size, G6.out.b.ext x8, G6.out.ext.trans x8, Nat.lt_of_le_of_lt (Nat.div_le_self _ _) G6.out.xl, G6.out.yl⟩
              clear h8 x8
              go_wp2_with fail
              go_roundg (x' / 2 + y')
              case rel => exact ⟨x' / 2, y', rfl, by show _ = _; rw [gcd_half_l (by omega) hy2]; exact hxy.out, .inr (.inr (.inr hy2)), G8.out⟩
              case measure => have := GK.out; omega
        · have S1 : Hid (decide (val (dig x') < Bs) = false) := by show _ = _; rw [val_dig, decide_eq_false_iff_not]; exact hs1
          obtain ⟨SB1, hsb⟩ : ∃ b, decide (val (dig y') < Bs) = b := ⟨_, rfl⟩
          have S2 := Lib.hid hsb
          obtain ⟨n1, hn1⟩ : ∃ n : Int, ((smallN (val (dig x')) : Nat) : Int) = n := ⟨_, rfl⟩
          obtain ⟨n2, hn2⟩ : ∃ n : Int, ((smallN (val (dig y')) : Nat) : Int) = n := ⟨_, rfl⟩
          have N1 := Lib.hid hn1
          have N2 := Lib.hid hn2
          clear hn1 hn2 hs1 hsb
          go_wp2_with fail
          refine (refsmall_calls GM.out.a.limbs LXX.out n1 N1.out false S1.out).mono ?_
          rintro e w3 ⟨rfl, x3⟩
          have G3 := Lib.hid (GM.out.step x3)
          clear x3
          go_wp2_with fail
          refine (refsmall_calls G3.out.b.limbs LYY.out n2 N2.out SB1 S2.out).mono ?_
          rintro e w4 ⟨rfl, x4⟩
          have G4 := Lib.hid (G3.out.step x4)
          clear x4 GM G3
          by_cases hx2 : x' % 2 = 1
          · have BX : Hid (decide (x' % 2 = 1) = true) := by show _ = _; rw [decide_eq_true_eq]; exact hx2
            go_wp2_with fail
            refine (refbit0 G4.out.a.limbs LXX.out true BX.out).mono ?_
            rintro e w5 ⟨rfl, x5⟩
            have G5 := Lib.hid (G4.out.step x5)
            clear x5
            by_cases hy2 : y' % 2 = 1
            · have BY : Hid (decide (y' % 2 = 1) = true) := by show _ = _; rw [decide_eq_true_eq]; exact hy2
              go_wp2_with fail
              refine (refbit0 G5.out.b.limbs LYY.out true BY.out).mono ?_
              rintro e w6 ⟨rfl, x6⟩
              have G6 := Lib.hid (G5.out.step x6)
              clear x6
              obtain ⟨c, hc⟩ : ∃ c, cmpN (val (dig x')) (val (dig y')) = c := ⟨_, rfl⟩
              have HC := Lib.hid hc
              by_cases hle : y' ≤ x'
              · have hc0 : 0 ≤ c := by rw [← hc, val_dig, val_dig]; unfold cmpN; rw [if_neg (by omega)]; split <;> decide
                clear hc
                go_wp2_with fail
                refine (refcmp_int G6.out.a.limbs G6.out.b.limbs LXX.out LYY.out c HC.out).mono ?_
                rintro e w7 ⟨rfl, x7⟩
                have G7 := Lib.hid (G6.out.step x7)
                clear x7
                go_wp2_with fail
                refine (refsub_nat (c := x' - y') G7.out.a.limbs G7.out.b.limbs LXX.out LYY.out (by rw [val_dig]; exact hle) (by rw [val_dig])).mono ?_
                rintro e w8 ⟨r8, rfl, h8, x8⟩
                have G8 : Hid (GcIn K w (x' - y') y' r8 (.slice pu2 l2 cu2) w8) := ⟨h8.mono G7.out.ext.size, G7.out.b.ext x8, G7.out.ext.trans x8, Nat.lt_of_le_of_lt (Nat.sub_le _ _) G7.out.xl, G7.out.yl⟩
                clear h8 x8
                go_wp2_with fail
                go_roundg (x' - y' + y')
                case rel => exact ⟨x' - y', y', rfl, by show _ = _; rw [gcd_sub_l hle]; exact hxy.out, .inr (.inr (.inr hy2)), G8.out⟩
                case measure => have := GK.out; omega
              · have hc0 : c = -1 := by rw [← hc]; exact cmpN_lt (by rw [val_dig, val_dig]; omega)
                subst hc0
                clear hc
                go_wp2_with fail
                refine (refcmp_int G6.out.a.limbs G6.out.b.limbs LXX.out LYY.out (-1) HC.out).mono ?_
                rintro e w7 ⟨rfl, x7⟩
                have G7 := Lib.hid (G6.out.step x7)
                clear x7
                go_wp2_with fail
                refine (refsub_nat (c := y' - x') G7.out.b.limbs G7.out.a.limbs LYY.out LXX.out (by rw [val_dig]; omega) (by rw [val_dig])).mono ?_
                rintro e w8 ⟨r8, rfl, h8, x8⟩
                have G8 : Hid (GcIn K w x' (y' - x') (.slice pv2 l1 cv2) r8 w8) := ⟨G7.out.a.ext x8, h8.mono G7.out.ext.size, G7.out.ext.trans x8, G7.out.xl, Nat.lt_of_le_of_lt (Nat.sub_le _ _) G7.out.yl⟩
                clear h8 x8
                go_wp2_with fail
                go_roundg (x' + (y' - x'))
                case rel => exact ⟨x', y' - x', rfl, by show _ = _; rw [gcd_sub_r (by omega)]; exact hxy.out, .inr (.inr (.inl hx2)), G8.out⟩
                case measure => have := GK.out; omega
            · have BY : Hid (decide (y' % 2 = 1) = false) := by show _ = _; rw [decide_eq_false_iff_not]; exact hy2
              go_wp2_with fail
              refine (refbit0 G5.out.b.limbs LYY.out false BY.out).mono ?_
              rintro e w6 ⟨rfl, x6⟩
              have G6 := Lib.hid (G5.out.step x6)
              clear x6
              go_wp2_with fail
              refine (refshr1 G6.out.b.limbs LYY.out).mono ?_
              rintro e w8 ⟨r8, rfl, h8, x8⟩
              have G8 : Hid (GcIn K w x' (y' / 2) (.slice pv2 l1 cv2) r8 w8) := ⟨G6.out.a.ext x8, h8.mono G6.out.ext.size, G6.out.ext.trans x8, G6.out.xl, Nat.lt_of_le_of_lt (Nat.div_le_self _ _) G6.out.yl⟩
              clear h8 x8
              go_wp2_with fail
              go_roundg (x' + y' / 2)
              case rel => exact ⟨x', y' / 2, rfl, by show _ = _; rw [gcd_half_r hx2 (by omega)]; exact hxy.out, .inr (.inr (.inl hx2)), G8.out⟩
              case measure => have := GK.out; omega
          · have BX : Hid (decide (x' % 2 = 1) = false) := by show _ = _; rw [decide_eq_false_iff_not]; exact hx2
            have hy2 : y' % 2 = 1 := by rcases hodd.out with h | h | h | h <;> first | exact h | omega
            go_wp2_with fail
            refine (refbit0 G4.out.a.limbs LXX.out false BX.out).mono ?_
            rintro e w6 ⟨rfl, x6⟩
            have G6 := Lib.hid (G4.out.step x6)
            clear x6
            go_wp2_with fail
            refine (refshr1 G6.out.a.limbs LXX.out).mono ?_
            rintro e w8 ⟨r8, rfl, h8, x8⟩
            have G8 : Hid (GcIn K w (x' / 2) y' r8 (.slice pu2 l2 cu2) w8) := ⟨h8.mono G6.out.ext.size, G6.out.b.ext x8, G6.out.ext.trans x8, Nat.lt_of_le_of_lt (Nat.div_le_self _ _) G6.out.xl, G6.out.yl⟩
            clear h8 x8
            go_wp2_with fail
            go_roundg (x' / 2 + y')
            case rel => exact ⟨x' / 2, y', rfl, by show _ = _; rw [gcd_half_l (by omega) hy2]; exact hxy.out, .inr (.inr (.inr hy2)), G8.out⟩
            case measure => have := GK.out; omega
    · have BX : Hid (decide (gk % 2 = 1) = false) := by show _ = _; rw [decide_eq_false_iff_not]; exact hx2
      go_wp2_with fail
      refine (refbit0 GM.out.a.limbs LXX.out false BX.out).mono ?_
      rintro e w3 ⟨rfl, x3⟩
      have G3 := Lib.hid (GM.out.step x3)
      clear x3 GM
      by_cases hy2 : y % 2 = 1
      · have BY : Hid (decide (y % 2 = 1) = true) := by show _ = _; rw [decide_eq_true_eq]; exact hy2
        have HODD : Hid (gk = 0 ∨ y = 0 ∨ gk % 2 = 1 ∨ y % 2 = 1) := .inr (.inr (.inr hy2))
        go_wp2_with fail
        refine (refbit0 G3.out.b.limbs LYY.out true BY.out).mono ?_
        rintro e w3b ⟨rfl, x3⟩
        have GW := Lib.hid (G3.out.step x3)
        clear x3 G3 BX hx2 BY hy2 LXX LYY
        go_wp2_with fail
        have T64 : Hid (t ≤ 65536) := twos_le hgx0 hxa.out HAX.out HK.out
        clear hgx0 hy0 hxa
        obtain ⟨x, hx⟩ : ∃ x, gk = x := ⟨_, rfl⟩
        rw [hx] at GW hg HODD
        clear hx
        go_loopg [0, 1] (x + y) (fun gk v0 v1 wr => ∃ x' y' : Nat, gk = x' + y' ∧ Hid (Nat.gcd x' y' = Nat.gcd x y) ∧ Hid (x' = 0 ∨ y' = 0 ∨ x' % 2 = 1 ∨ y' % 2 = 1) ∧ GcIn K w x' y' v0 v1 wr)
        case atStart => exact ⟨x, y, rfl, rfl, HODD, GW.out⟩
        case round =>
          clear GW HODD
          obtain ⟨x', y', hgk, hxy, hodd, hG⟩ := hrel
          have GM := Lib.hid hG
          have GK := Lib.hid hgk
          clear hG hgk
          obtain ⟨pv2, cv2, rfl⟩ := GM.out.a.sh
          obtain ⟨pu2, cu2, rfl⟩ := GM.out.b.sh
          obtain ⟨l1, hl1⟩ : ∃ l, (dig x').length = l := ⟨_, rfl⟩
          obtain ⟨l2, hl2⟩ : ∃ l, (dig y').length = l := ⟨_, rfl⟩
          have hz1 : l1 = 0 ↔ x' = 0 := by rw [← hl1]; exact dig_len_pos
          have hz2 : l2 = 0 ↔ y' = 0 := by rw [← hl2]; exact dig_len_pos
          have HL1 := Lib.hid hl1
          have HL2 := Lib.hid hl2
          rw [hl1, hl2] at GM ⊢
          clear hl1 hl2
          by_cases hx0 : x' = 0
          · have l10 : l1 = 0 := hz1.2 hx0
            subst l10
            clear hz1 hz2
            have HGE : Hid ((x' + y') * 2 ^ t = Nat.gcd a b) := by show _ = _; rw [hg.out, ← hxy.out, gcd_end (.inl hx0)]
            have LX := GM.out.lx HK.out
            have LY := GM.out.ly HK.out
            have LS : Hid ((dig (x' + y')).length ≤ 65536) := by
              show _ ≤ _
              have h1 := GM.out.xl
              have h2 := GM.out.yl
              exact Nat.le_trans (dig_len_le (k := K + 1) (by
                rw [Nat.pow_succ]
                have h3 : 2 * Bs ^ K ≤ Bs ^ K * Bs := by rw [Nat.mul_comm]; exact Nat.mul_le_mul_left _ two_le_Bs
                omega)) (by have := HK.out; omega)
            have LXX : Hid ((dig x').length ≤ 65536) := by show _ ≤ _; omega
            have LYY : Hid ((dig y').length ≤ 65536) := by show _ ≤ _; omega
            clear LX LY hxy hodd
            go_wp2_with fail
            refine (refadd_nat GM.out.a.limbs GM.out.b.limbs LXX.out LYY.out rfl).mono ?_
            rintro e we ⟨ve, rfl, he, xe⟩
            have VE := Lib.hid he
            have XE := Lib.hid (GM.out.ext.trans xe)
            clear he xe
            go_wp2_with fail
            refine (refshl_ok VE.out.limbs LS.out t T64.out).mono ?_
            rintro e wf ⟨vf, rfl, hf, xf⟩
            rw [val_dig, HGE.out] at hf
            have VF := Lib.hid (hf.mono XE.out.size)
            have XF := Lib.hid (XE.out.trans xf)
            clear hf xf
            go_wp2_with fail
            go_ret
            exact ⟨_, rfl, VF.out, XF.out⟩
          by_cases hy0 : y' = 0
          · have l20 : l2 = 0 := hz2.2 hy0
            have l11 : (1 : Int) ≤ l1 := by have : l1 ≠ 0 := fun e => hx0 (hz1.1 e); omega
            subst l20
            clear hz1 hz2
            have HGE : Hid ((x' + y') * 2 ^ t = Nat.gcd a b) := by show _ = _; rw [hg.out, ← hxy.out, gcd_end (.inr hy0)]
            have LX := GM.out.lx HK.out
            have LY := GM.out.ly HK.out
            have LS : Hid ((dig (x' + y')).length ≤ 65536) := by
              show _ ≤ _
              have h1 := GM.out.xl
              have h2 := GM.out.yl
              exact Nat.le_trans (dig_len_le (k := K + 1) (by
                rw [Nat.pow_succ]
                have h3 : 2 * Bs ^ K ≤ Bs ^ K * Bs := by rw [Nat.mul_comm]; exact Nat.mul_le_mul_left _ two_le_Bs
                omega)) (by have := HK.out; omega)
            have LXX : Hid ((dig x').length ≤ 65536) := by show _ ≤ _; omega
            have LYY : Hid ((dig y').length ≤ 65536) := by show _ ≤ _; omega
            clear LX LY hxy hodd
            go_wp2_with fail
            refine (refadd_nat GM.out.a.limbs GM.out.b.limbs LXX.out LYY.out rfl).mono ?_
            rintro e we ⟨ve, rfl, he, xe⟩
            have VE := Lib.hid he
            have XE := Lib.hid (GM.out.ext.trans xe)
            clear he xe
            go_wp2_with fail
            refine (refshl_ok VE.out.limbs LS.out t T64.out).mono ?_
            rintro e wf ⟨vf, rfl, hf, xf⟩
            rw [val_dig, HGE.out] at hf
            have VF := Lib.hid (hf.mono XE.out.size)
            have XF := Lib.hid (XE.out.trans xf)
            clear hf xf
            go_wp2_with fail
            go_ret
            exact ⟨_, rfl, VF.out, XF.out⟩
          have l11 : (1 : Int) ≤ l1 := by have : l1 ≠ 0 := fun e => hx0 (hz1.1 e); omega
          have l21 : (1 : Int) ≤ l2 := by have : l2 ≠ 0 := fun e => hy0 (hz2.1 e); omega
          have LXX : Hid ((dig x').length ≤ 65536) := by have := GM.out.lx HK.out; show _ ≤ _; omega
          have LYY : Hid ((dig y').length ≤ 65536) := by have := GM.out.ly HK.out; show _ ≤ _; omega
          clear hz1 hz2
          by_cases hs1 : x' < Bs
          · have S1 : Hid (decide (val (dig x') < Bs) = true) := by show _ = _; rw [val_dig, decide_eq_true_eq]; exact hs1
            by_cases hs2 : y' < Bs
            · have S2 : Hid (decide (val (dig y') < Bs) = true) := by show _ = _; rw [val_dig, decide_eq_true_eq]; exact hs2
              obtain ⟨n1, hn1⟩ : ∃ n : Int, (x' : Int) = n := ⟨_, rfl⟩
              obtain ⟨n2, hn2⟩ : ∃ n : Int, (y' : Int) = n := ⟨_, rfl⟩
              have N1 : Hid (((smallN (val (dig x')) : Nat) : Int) = n1) := by show _ = _; rw [val_dig]; unfold smallN; rw [if_pos hs1, hn1]
              have N2 : Hid (((smallN (val (dig y')) : Nat) : Int) = n2) := by show _ = _; rw [val_dig]; unfold smallN; rw [if_pos hs2, hn2]
              have HN1 := Lib.hid hn1
              have HN2 := Lib.hid hn2
              have SX := Lib.hid hs1
              have SY := Lib.hid hs2
              clear hn1 hn2 hs1 hs2
              go_wp2_with fail
              refine (refsmall_calls GM.out.a.limbs LXX.out n1 N1.out true S1.out).mono ?_
              rintro e w3 ⟨rfl, x3⟩
              have G3 := Lib.hid (GM.out.step x3)
              clear x3
              go_wp2_with fail
              refine (refsmall_calls G3.out.b.limbs LYY.out n2 N2.out true S2.out).mono ?_
              rintro e w4 ⟨rfl, x4⟩
              have G4 := Lib.hid (G3.out.step x4)
              clear x4 GM G3
              go_wp2_with fail
              go_loopg [6, 8] y' (fun gk v6 v8 wr => ∃ p q : Nat, gk = q ∧ v6 = .int .u64 (p : Int) ∧ v8 = .int .u64 (q : Int) ∧ Hid (p < Bs ∧ q < Bs ∧ Nat.gcd p q = Nat.gcd x' y') ∧ Ext w4 wr)
              case atStart => exact ⟨x', y', rfl, by rw [← HN1.out], by rw [← HN2.out], ⟨SX.out, SY.out, rfl⟩, Ext.refl _⟩
              case round =>
                rename Nat => gk2
                obtain ⟨p, q, hgq, rfl, rfl, hpq, hxx⟩ := hrel
                have XX := Lib.hid hxx
                have HPQ := Lib.hid hpq.out
                have HGQ := Lib.hid hgq
                clear hxx hpq hgq
                by_cases hq0 : q = 0
                · subst hq0
                  have HPG : Hid (p = Nat.gcd x' y') := by show _ = _; rw [← HPQ.out.2.2, Nat.gcd_zero_right]
                  have HPX : Hid (p ≤ x') := by show _ ≤ _; rw [HPG.out]; exact Nat.gcd_le_left _ (Nat.pos_of_ne_zero hx0)
                  have PB := Lib.hid HPQ.out.1
                  go_wp2_with fail
                  refine (refof_calls PB.out).mono ?_
                  rintro e w5 ⟨r5, rfl, h5, x5⟩
                  have X4 := Lib.hid (G4.out.ext.trans XX.out)
                  have G5 : Hid (GcIn K w p 0 r5 (.slice none 0 0) w5) := ⟨h5.mono X4.out.size, by rw [dig_zero]; exact OwnL.nil _ _, X4.out.trans x5, Nat.lt_of_le_of_lt HPX.out G4.out.xl, Nat.lt_of_le_of_lt (Nat.zero_le _) G4.out.xl⟩
                  clear h5 x5
                  go_wp2_with fail
                  go_roundg (p + 0)
                  case rel => exact ⟨p, 0, rfl, by show _ = _; rw [Nat.gcd_zero_right, HPG.out]; exact hxy.out, .inr (.inl rfl), G5.out⟩
                  case measure => have := GK.out; have := HPX.out; omega
                · obtain ⟨r, hr⟩ : ∃ r, p % q = r := ⟨_, rfl⟩
                  have hri : (p : Int) % (q : Int) = (r : Int) := by rw [← hr]; exact (Int.natCast_emod p q).symm
                  have htm : Int.tmod (p : Int) (q : Int) = (r : Int) := by rw [Int.tmod_eq_emod_of_nonneg (Int.natCast_nonneg p)]; exact hri
                  have hq1 : (1 : Int) ≤ q := by omega
                  have hqb : ((q : Int) == 0) = false := by rw [beq_eq_false_iff_ne]; omega
                  have hqn : ¬ (q : Int) = 0 := by omega
                  have hrq : r < q := by rw [← hr]; exact Nat.mod_lt _ (Nat.pos_of_ne_zero hq0)
                  have HRB : Hid (q < Bs ∧ r < Bs ∧ Nat.gcd q r = Nat.gcd x' y') := by
                    refine ⟨HPQ.out.2.1, Nat.lt_trans hrq HPQ.out.2.1, ?_⟩
                    rw [← HPQ.out.2.2, ← hr, Nat.gcd_comm p q, Nat.gcd_rec q p, Nat.gcd_comm]
                  have LT := Lib.hid hrq
                  clear hr hrq
                  go_wp2_with fail
                  go_quiet (fail)
                  go_wp2_with fail
                  go_roundg r
                  case rel => exact ⟨q, r, rfl, rfl, rfl, HRB, XX.out.drewN _⟩
                  case measure => have := LT.out; have := HGQ.out; omega
            · have S2 : Hid (decide (val (dig y') < Bs) = false) := by show _ = _; rw [val_dig, decide_eq_false_iff_not]; exact hs2
              obtain ⟨n1, hn1⟩ : ∃ n : Int, ((smallN (val (dig x')) : Nat) : Int) = n := ⟨_, rfl⟩
              obtain ⟨n2, hn2⟩ : ∃ n : Int, ((smallN (val (dig y')) : Nat) : Int) = n := ⟨_, rfl⟩
              have N1 := Lib.hid hn1
              have N2 := Lib.hid hn2
              clear hn1 hn2 hs1 hs2
              go_wp2_with fail
              refine (refsmall_calls GM.out.a.limbs LXX.out n1 N1.out true S1.out).mono ?_
              rintro e w3 ⟨rfl, x3⟩
              have G3 := Lib.hid (GM.out.step x3)
              clear x3
              go_wp2_with fail
              refine (refsmall_calls G3.out.b.limbs LYY.out n2 N2.out false S2.out).mono ?_
              rintro e w4 ⟨rfl, x4⟩
              have G4 := Lib.hid (G3.out.step x4)
              clear x4 GM G3
              by_cases hx2 : x' % 2 = 1
              · have BX : Hid (decide (x' % 2 = 1) = true) := by show _ = _; rw [decide_eq_true_eq]; exact hx2
                go_wp2_with fail
                refine (refbit0 G4.out.a.limbs LXX.out true BX.out).mono ?_
                rintro e w5 ⟨rfl, x5⟩
                have G5 := Lib.hid (G4.out.step x5)
                clear x5
                by_cases hy2 : y' % 2 = 1
                · have BY : Hid (decide (y' % 2 = 1) = true) := by show _ = _; rw [decide_eq_true_eq]; exact hy2
                  go_wp2_with fail
                  refine (refbit0 G5.out.b.limbs LYY.out true BY.out).mono ?_
                  rintro e w6 ⟨rfl, x6⟩
                  have G6 := Lib.hid (G5.out.step x6)
                  clear x6
                  obtain ⟨c, hc⟩ : ∃ c, cmpN (val (dig x')) (val (dig y')) = c := ⟨_, rfl⟩
                  have HC := Lib.hid hc
                  by_cases hle : y' ≤ x'
                  · have hc0 : 0 ≤ c := by rw [← hc, val_dig, val_dig]; unfold cmpN; rw [if_neg (by omega)]; split <;> decide
                    clear hc
                    go_wp2_with fail
                    refine (refcmp_int G6.out.a.limbs G6.out.b.limbs LXX.out LYY.out c HC.out).mono ?_
                    rintro e w7 ⟨rfl, x7⟩
                    have G7 := Lib.hid (G6.out.step x7)
                    clear x7
                    go_wp2_with fail
                    refine (refsub_nat (c := x' - y') G7.out.a.limbs G7.out.b.limbs LXX.out LYY.out (by rw [val_dig]; exact hle) (by rw [val_dig])).mono ?_
                    rintro e w8 ⟨r8, rfl, h8, x8⟩
                    have G8 : Hid (GcIn K w (x' - y') y' r8 (.slice pu2 l2 cu2) w8) := ⟨h8.mono G7.out.ext.size, G7.out.b.ext x8, G7.out.ext.trans x8, Nat.lt_of_le_of_lt (Nat.sub_le _ _) G7.out.xl, G7.out.yl⟩
                    clear h8 x8
                    go_wp2_with fail
                    go_roundg (x' - y' + y')
                    case rel => exact ⟨x' - y', y', rfl, by show _ = _; rw [gcd_sub_l hle]; exact hxy.out, .inr (.inr (.inr hy2)), G8.out⟩
                    case measure => have := GK.out; omega
                  · have hc0 : c = -1 := by rw [← hc]; exact cmpN_lt (by rw [val_dig, val_dig]; omega)
                    subst hc0
                    clear hc
                    go_wp2_with fail
                    refine (refcmp_int G6.out.a.limbs G6.out.b.limbs LXX.out LYY.out (-1) HC.out).mono ?_
                    rintro e w7 ⟨rfl, x7⟩
                    have G7 := Lib.hid (G6.out.step x7)
                    clear x7
                    go_wp2_with fail
                    refine (refsub_nat (c := y' - x') G7.out.b.limbs G7.out.a.limbs LYY.out LXX.out (by rw [val_dig]; omega) (by rw [val_dig])).mono ?_
                    rintro e w8 ⟨r8, rfl, h8, x8⟩
                    have G8 : Hid (GcIn K w x' (y' - x') (.slice pv2 l1 cv2) r8 w8) := ⟨G7.out.a.ext x8, h8.mono G7.out.ext.size, G7.out.ext.trans x8, G7.out.xl, Nat.lt_of_le_of_lt (Nat.sub_le _ _) G7.out.yl⟩
                    clear h8 x8
                    go_wp2_with fail
                    go_roundg (x' + (y' - x'))
                    case rel => exact ⟨x', y' - x', rfl, by show _ = _; rw [gcd_sub_r (by omega)]; exact hxy.out, .inr (.inr (.inl hx2)), G8.out⟩
                    case measure => have := GK.out; omega
                · have BY : Hid (decide (y' % 2 = 1) = false) := by show _ = _; rw [decide_eq_false_iff_not]; exact hy2
                  go_wp2_with fail
                  refine (refbit0 G5.out.b.limbs LYY.out false BY.out).mono ?_
                  rintro e w6 ⟨rfl, x6⟩
                  have G6 := Lib.hid (G5.out.step x6)
                  clear x6
                  go_wp2_with fail
                  refine (refshr1 G6.out.b.limbs LYY.out).mono ?_
                  rintro e w8 ⟨r8, rfl, h8, x8⟩
                  have G8 : Hid (GcIn K w x' (y' / 2) (.slice pv2 l1 cv2) r8 w8) := ⟨G6.out.a.ext x8, h8.mono G6.out.ext.size, G6.out.ext.trans x8, G6.out.xl, Nat.lt_of_le_of_lt (Nat.div_le_self _ _) G6.out.yl⟩
                  clear h8 x8
                  go_wp2_with fail
                  go_roundg (x' + y' / 2)
                  case rel => exact ⟨x', y' / 2, rfl, by show _ = _; rw [gcd_half_r hx2 (by omega)]; exact hxy.out, .inr (.inr (.inl hx2)), G8.out⟩
                  case measure => have := GK.out; omega
              · have BX : Hid (decide (x' % 2 = 1) = false) := by show _ = _; rw [decide_eq_false_iff_not]; exact hx2
                have hy2 : y' % 2 = 1 := by rcases hodd.out with h | h | h | h <;> first | exact h | omega
                go_wp2_with fail
                refine (refbit0 G4.out.a.limbs LXX.out false BX.out).mono ?_
                rintro e w6 ⟨rfl, x6⟩
                have G6 := Lib.hid (G4.out.step x6)
                clear x6
                go_wp2_with fail
                refine (refshr1 G6.out.a.limbs LXX.out).mono ?_
                rintro e w8 ⟨r8, rfl, h8, x8⟩
                have G8 : Hid (GcIn K w (x' / 2) y' r8 (.slice pu2 l2 cu2) w8) := ⟨h8.mono G6.out.ext.size, G6.out.b.ext x8, G6.out.ext.trans x8, Nat.lt_of_le_of_lt (Nat.div_le_self _ _) G6.out.xl, G6.out.yl⟩
                clear h8 x8
                go_wp2_with fail
                go_roundg (x' / 2 + y')
                case rel => exact ⟨x' / 2, y', rfl, by show _ = _; rw [gcd_half_l (by omega) hy2]; exact hxy.out, .inr (.inr (.inr hy2)), G8.out⟩
                case measure => have := GK.out; omega
          · have S1 : Hid (decide (val (dig x') < Bs) = false) := by show _ = _; rw [val_dig, decide_eq_false_iff_not]; exact hs1
            obtain ⟨SB1, hsb⟩ : ∃ b, decide (val (dig y') < Bs) = b := ⟨_, rfl⟩
            have S2 := Lib.hid hsb
            obtain ⟨n1, hn1⟩ : ∃ n : Int, ((smallN (val (dig x')) : Nat) : Int) = n := ⟨_, rfl⟩
            obtain ⟨n2, hn2⟩ : ∃ n : Int, ((smallN (val (dig y')) : Nat) : Int) = n := ⟨_, rfl⟩
            have N1 := Lib.hid hn1
            have N2 := Lib.hid hn2
            clear hn1 hn2 hs1 hsb
            go_wp2_with fail
            refine (refsmall_calls GM.out.a.limbs LXX.out n1 N1.out false S1.out).mono ?_
            rintro e w3 ⟨rfl, x3⟩
            have G3 := Lib.hid (GM.out.step x3)
            clear x3
            go_wp2_with fail
            refine (refsmall_calls G3.out.b.limbs LYY.out n2 N2.out SB1 S2.out).mono ?_
            rintro e w4 ⟨rfl, x4⟩
            have G4 := Lib.hid (G3.out.step x4)
            clear x4 GM G3
            by_cases hx2 : x' % 2 = 1
            · have BX : Hid (decide (x' % 2 = 1) = true) := by show _ = _; rw [decide_eq_true_eq]; exact hx2
              go_wp2_with fail
              refine (refbit0 G4.out.a.limbs LXX.out true BX.out).mono ?_
              rintro e w5 ⟨rfl, x5⟩
              have G5 := Lib.hid (G4.out.step x5)
              clear x5
              by_cases hy2 : y' % 2 = 1
              · have BY : Hid (decide (y' % 2 = 1) = true) := by show _ = _; rw [decide_eq_true_eq]; exact hy2
                go_wp2_with fail
                refine (refbit0 G5.out.b.limbs LYY.out true BY.out).mono ?_
                rintro e w6 ⟨rfl, x6⟩
                have G6 := Lib.hid (G5.out.step x6)
                clear x6
                obtain ⟨c, hc⟩ : ∃ c, cmpN (val (dig x')) (val (dig y')) = c := ⟨_, rfl⟩
                have HC := Lib.hid hc
                by_cases hle : y' ≤ x'
                · have hc0 : 0 ≤ c := by rw [← hc, val_dig, val_dig]; unfold cmpN; rw [if_neg (by omega)]; split <;> decide
                  clear hc
                  go_wp2_with fail
                  refine (refcmp_int G6.out.a.limbs G6.out.b.limbs LXX.out LYY.out c HC.out).mono ?_
                  rintro e w7 ⟨rfl, x7⟩
                  have G7 := Lib.hid (G6.out.step x7)
                  clear x7
                  go_wp2_with fail
                  refine (refsub_nat (c := x' - y') G7.out.a.limbs G7.out.b.limbs LXX.out LYY.out (by rw [val_dig]; exact hle) (by rw [val_dig])).mono ?_
                  rintro e w8 ⟨r8, rfl, h8, x8⟩
                  have G8 : Hid (GcIn K w (x' - y') y' r8 (.slice pu2 l2 cu2) w8) := ⟨h8.mono G7.out.ext.size, G7.out.b.ext x8, G7.out.ext.trans x8, Nat.lt_of_le_of_lt (Nat.sub_le _ _) G7.out.xl, G7.out.yl⟩
                  clear h8 x8
                  go_wp2_with fail
                  go_roundg (x' - y' + y')
                  case rel => exact ⟨x' - y', y', rfl, by show _ = _; rw [gcd_sub_l hle]; exact hxy.out, .inr (.inr (.inr hy2)), G8.out⟩
                  case measure => have := GK.out; omega
                · have hc0 : c = -1 := by rw [← hc]; exact cmpN_lt (by rw [val_dig, val_dig]; omega)
                  subst hc0
                  clear hc
                  go_wp2_with fail
                  refine (refcmp_int G6.out.a.limbs G6.out.b.limbs LXX.out LYY.out (-1) HC.out).mono ?_
                  rintro e w7 ⟨rfl, x7⟩
                  have G7 := Lib.hid (G6.out.step x7)
                  clear x7
                  go_wp2_with fail
                  refine (refsub_nat (c := y' - x') G7.out.b.limbs G7.out.a.limbs LYY.out LXX.out (by rw [val_dig]; omega) (by rw [val_dig])).mono ?_
                  rintro e w8 ⟨r8, rfl, h8, x8⟩
                  have G8 : Hid (GcIn K w x' (y' - x') (.slice pv2 l1 cv2) r8 w8) := ⟨G7.out.a.ext x8, h8.mono G7.out.ext.size, G7.out.ext.trans x8, G7.out.xl, Nat.lt_of_le_of_lt (Nat.sub_le _ _) G7.out.yl⟩
                  clear h8 x8
                  go_wp2_with fail
                  go_roundg (x' + (y' - x'))
                  case rel => exact ⟨x', y' - x', rfl, by show _ = _; rw [gcd_sub_r (by omega)]; exact hxy.out, .inr (.inr (.inl hx2)), G8.out⟩
                  case measure => have := GK.out; omega
              · have BY : Hid (decide (y' % 2 = 1) = false) := by show _ = _; rw [decide_eq_false_iff_not]; exact hy2
                go_wp2_with fail
                refine (refbit0 G5.out.b.limbs LYY.out false BY.out).mono ?_
                rintro e w6 ⟨rfl, x6⟩
                have G6 := Lib.hid (G5.out.step x6)
                clear x6
                go_wp2_with fail
                refine (refshr1 G6.out.b.limbs LYY.out).mono ?_
                rintro e w8 ⟨r8, rfl, h8, x8⟩
                have G8 : Hid (GcIn K w x' (y' / 2) (.slice pv2 l1 cv2) r8 w8) := ⟨G6.out.a.ext x8, h8.mono G6.out.ext.size, G6.out.ext.trans x8, G6.out.xl, Nat.lt_of_le_of_lt (Nat.div_le_self _ _) G6.out.yl⟩
                clear h8 x8
                go_wp2_with fail
                go_roundg (x' + y' / 2)
                case rel => exact ⟨x', y' / 2, rfl, by show _ = _; rw [gcd_half_r hx2 (by omega)]; exact hxy.out, .inr (.inr (.inl hx2)), G8.out⟩
                case measure => have := GK.out; omega
            · have BX : Hid (decide (x' % 2 = 1) = false) := by show _ = _; rw [decide_eq_false_iff_not]; exact hx2
              have hy2 : y' % 2 = 1 := by rcases hodd.out with h | h | h | h <;> first | exact h | omega
              go_wp2_with fail
              refine (refbit0 G4.out.a.limbs LXX.out false BX.out).mono ?_
              rintro e w6 ⟨rfl, x6⟩
              have G6 := Lib.hid (G4.out.step x6)
              clear x6
              go_wp2_with fail
              refine (refshr1 G6.out.a.limbs LXX.out).mono ?_
              rintro e w8 ⟨r8, rfl, h8, x8⟩
              have G8 : Hid (GcIn K w (x' / 2) y' r8 (.slice pu2 l2 cu2) w8) := ⟨h8.mono G6.out.ext.size, G6.out.b.ext x8, G6.out.ext.trans x8, Nat.lt_of_le_of_lt (Nat.div_le_self _ _) G6.out.xl, G6.out.yl⟩
              clear h8 x8
              go_wp2_with fail
              go_roundg (x' / 2 + y')
              case rel => exact ⟨x' / 2, y', rfl, by show _ = _; rw [gcd_half_l (by omega) hy2]; exact hxy.out, .inr (.inr (.inr hy2)), G8.out⟩
              case measure => have := GK.out; omega
      · have BY : Hid (decide (y % 2 = 1) = false) := by show _ = _; rw [decide_eq_false_iff_not]; exact hy2
        go_wp2_with fail
        refine (refbit0 G3.out.b.limbs LYY.out false BY.out).mono ?_
        rintro e w4 ⟨rfl, x4⟩
        have G4 := Lib.hid (G3.out.step x4)
        clear x4 G3
        go_wp2_with fail
        refine (refshr1 G4.out.a.limbs LXX.out).mono ?_
        rintro e w5 ⟨r5, rfl, h5, x5⟩
        have R5 := Lib.hid (h5.mono G4.out.ext.size)
        have G5 := Lib.hid (G4.out.step x5)
        clear h5 x5 G4
        go_wp2_with fail
        refine (refshr1 G5.out.b.limbs LYY.out).mono ?_
        rintro e w6 ⟨r6, rfl, h6, x6⟩
        have G6 : Hid (GcIn K w (gk / 2) (y / 2) r5 r6 w6) := ⟨R5.out.ext x6, h6.mono G5.out.ext.size, G5.out.ext.trans x6, Nat.lt_of_le_of_lt (Nat.div_le_self _ _) G5.out.xl, Nat.lt_of_le_of_lt (Nat.div_le_self _ _) G5.out.yl⟩
        clear h6 x6 G5 R5
        go_wp2_with fail
        go_roundg (gk / 2)
        case rel => exact ⟨y / 2, t + 1, by first | rfl | go_num, by omega, by omega, by show _ = _; rw [hg.out, gcd_both (by omega) (by omega), Nat.pow_succ]; ac_rfl, by show _ ≤ _; have := hxa.out; rw [Nat.pow_succ, Nat.mul_comm (2 ^ t) 2, ← Nat.mul_assoc, show gk / 2 * 2 = gk by omega]; exact this, G6.out⟩
        case measure => omega
end Go.Proofs.YtaklejkdmfgplaaGreatDoor
