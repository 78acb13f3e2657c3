/- The contract of quo.Div. -/
import Derived.Test.YtomhfipgabpfiaaGreatDoorDivG
import Derived.Deep.RegionHeld3
import Derived.Deep.DeepCutAuto
namespace Go.Proofs.YtomhfipgabpfiaaGreatDoor
open Go Go.RowKit

/-- what Div tells: an error at 0 -/
def RetDivE (w : World) (a b : Nat) (e : Ending) (w' : World) : Prop :=
  ∃ v u, e = .returned (.tuple #[v, u, .int .i64 (if b = 0 then 7 else 0)]) ∧ OwnL w.heap.size w' v (dig (if b = 0 then 0 else a / b)) ∧ OwnL w.heap.size w' u (dig (if b = 0 then 0 else a % b)) ∧ Ext w w'

set_option maxHeartbeats 1000000 in
theorem div0_calls {w : World} {v u : Value} {A B : List Nat} (hA : Limbs w v A) (hB : Limbs w u B) (hlA : A.length ≤ Lmax) (hlB : B.length ≤ Lmax) (hb0 : val B = 0) :
    Calls Tryz.prog 41 #[v, u] w (RetDivE w (val A) (val B)) := by
  have HLA := Lib.hid hlA
  have HLB := Lib.hid hlB
  have H0 := Lib.hid hb0
  clear hlA hlB hb0
  go_enter Tryz.func41, Tryz.ntmps41
  go_wp2_with fail
  refine (trim_calls hA HLA.out).mono ?_
  rintro e w1 ⟨a1, rfl, ha1, hx1⟩
  go_wp2_with fail
  refine (trim_calls (hB.ext hx1) HLB.out).mono ?_
  rintro e w2 ⟨b1, rfl, hb1', hx2⟩
  rw [H0.out, dig_zero] at hb1'
  obtain ⟨bb, bcap, rfl, k1, k2, k3⟩ := hb1'.limbs.open
  clear k1 k2 k3
  go_wp2_with fail
  go_ret3
  exact ⟨_, _, by rw [if_pos H0.out]; rfl, by rw [if_pos H0.out, dig_zero]; exact OwnL.nil _ _, by rw [if_pos H0.out, dig_zero]; exact OwnL.nil _ _, hx1.trans hx2⟩

set_option maxHeartbeats 4000000 in
set_option maxRecDepth 100000 in
theorem divn_calls {w : World} {v u : Value} {A B : List Nat} (hA : Limbs w v A) (hB : Limbs w u B) (hlA : A.length ≤ 65536) (hlB : B.length ≤ 65536) (hb1 : Bs ≤ val B) (hab : val B ≤ val A) :
    Calls Tryz.prog 41 #[v, u] w (RetDiv w (val A / val B) (val A % val B)) := by
  have lA := dig_val_len hA.2
  have lB := dig_val_len hB.2
  have HTA := Lib.hid (fun W (x : Ext w W) => trim_calls (hA.ext x) (Nat.le_trans hlA (by rw [Lmax_def]; omega)))
  have HTB := Lib.hid (fun W (x : Ext w W) => trim_calls (hB.ext x) (Nat.le_trans hlB (by rw [Lmax_def]; omega)))
  generalize val A = a at *
  generalize val B = b at *
  obtain ⟨p, hp⟩ : ∃ p, (dig b).length = p + 1 := by
    refine ⟨(dig b).length - 1, ?_⟩
    rw [dig_pos (by have := Bs_pos; omega), List.length_cons]; omega
  obtain ⟨la, hla⟩ : ∃ la, (dig a).length = la := ⟨_, rfl⟩
  have hBb := dig_len_bounds hp
  have ha1 : a < Bs ^ la := by rw [← hla]; have := val_lt (dig_lt a); rwa [val_dig] at this
  have hpla : p + 1 ≤ la := by
    have h1 := (Nat.pow_lt_pow_iff_right (a := Bs) two_le_Bs).1 (Nat.lt_of_le_of_lt (Nat.le_trans hBb.1 hab) ha1)
    omega
  have hp1 : 1 ≤ p := by
    rcases Nat.eq_zero_or_pos p with g | g
    · subst g
      have := hBb.2
      rw [Nat.zero_add, Nat.pow_one] at this; omega
    · exact g
  obtain ⟨t, ht⟩ : ∃ t, t = el (dig b) p := ⟨_, rfl⟩
  have htB : t < Bs := by rw [ht]; exact el_lt (dig_lt b) p
  obtain ⟨s, hs⟩ : ∃ s, s = 64 - bl t := ⟨_, rfl⟩
  obtain ⟨n1, n2, n3⟩ := norm_div (s := s) hp (by rw [← ht]; exact hs)
  have hDL := dig_len_eq n1 n2
  have hst := div_start (s := s) ha1 hBb.1 (show p ≤ la by omega)
  have hSl : (dig (a * 2 ^ s)).length ≤ la + 1 := by
    refine dig_len_le ?_
    rw [Nat.pow_succ]
    refine Nat.mul_lt_mul'' ha1 ?_
    rw [Bs_eq]; exact Nat.pow_lt_pow_right (by omega) (by omega)
  have hS0 : 0 < (dig (a * 2 ^ s)).length := by
    rw [dig_pos, List.length_cons]
    · omega
    · have h1 : 0 < a := by have := Bs_pos; omega
      have := Nat.mul_pos h1 (Nat.two_pow_pos s); omega
  have hbl : bl t ≤ 64 := bl_le_64 htB
  obtain ⟨D, hD⟩ : ∃ D, D = dig (b * 2 ^ s) := ⟨_, rfl⟩
  obtain ⟨S, hS⟩ : ∃ S, S = dig (a * 2 ^ s) := ⟨_, rfl⟩
  rw [← hD] at hDL
  rw [← hS] at hSl hS0
  have hsI : (64 : Int) - (bl t : Nat) = (s : Int) := by omega
  have hbs := val_dig (b * 2 ^ s)
  have has := val_dig (a * 2 ^ s)
  rw [← hD] at hbs
  rw [← hS] at has
  have hDlt : ∀ x ∈ D, x < Bs := by rw [hD]; exact dig_lt _
  have hSlt : ∀ x ∈ S, x < Bs := by rw [hS]; exact dig_lt _
  have hcmp : 0 ≤ cmpN a b := by unfold cmpN; rw [if_neg (by omega)]; split <;> decide
  have l1 : la ≤ 65536 := by omega
  have q0 : ((p : Int) + 1 == 0) = false := by rw [beq_eq_false_iff_ne]; omega
  have q1 : ((p : Int) + 1 == 1) = false := by rw [beq_eq_false_iff_ne]; omega
  have q2 : decide (cmpN a b < 0) = false := by simpa using hcmp
  obtain ⟨z, hz⟩ : ∃ z, z = la + 1 - S.length := ⟨_, rfl⟩
  have hzI : (la : Int) + 1 - (S.length : Int) = (z : Int) := by omega
  have HZ : Hid (S.length + z = la + 1) := by show _ = _; omega
  obtain ⟨k, hk⟩ : ∃ k, k = la - p := ⟨_, rfl⟩
  have hkI : (la : Int) - ((p : Int) + 1) + 1 = (k : Int) := by omega
  have HK : Hid (k + p = la) := by show _ = _; omega
  rw [← hk] at hst
  clear hz hk
  have HP := Lib.hid hp
  have HLA := Lib.hid hla
  have HT := Lib.hid ht
  have HTB' := Lib.hid htB
  have HDL := Lib.hid hDL
  have HBS := Lib.hid hbs
  have HAS := Lib.hid has
  have HD := Lib.hid hD
  have HS := Lib.hid hS
  have HST := Lib.hid hst
  have HN := Lib.hid n1
  have HSlt := Lib.hid hSlt
  have HDlt := Lib.hid hDlt
  clear hp hla ht htB hDL hbs has hD hS hst n1 n2 hSlt hDlt hBb ha1 hab hb1 hs
  go_enter Tryz.func41, Tryz.ntmps41
  go_wp2_with fail
  refine (HTA.out _ (Ext.refl _)).mono ?_
  rintro e w1 ⟨a1, rfl, ha1, x1⟩
  go_wp2_with fail
  refine (HTB.out _ x1).mono ?_
  rintro e w2 ⟨b1, rfl, hb1, x2⟩
  have ha2 := ha1.ext x2
  obtain ⟨aa, ac, rfl, -, -, -⟩ := ha2.limbs.open
  obtain ⟨ba, bc, rfl, -, hbc, hbo⟩ := hb1.limbs.open
  obtain ⟨bb, bo, rfl, hbb, hbcl⟩ := hbo p (by rw [HP.out]; omega)
  have hbt := hbcl p (by rw [HP.out]; omega)
  rw [← HT.out] at hbt
  rw [HP.out] at hb1 ⊢
  rw [HLA.out] at ha1 ha2 ⊢
  unfold maxLen at hbc
  have x12 := x1.trans x2
  clear hbo hbcl HTA HTB
  go_wp2_with fail
  refine (cmp_calls ha2.limbs hb1.limbs (by rw [HLA.out, Lmax_def]; omega) (by rw [HP.out, Lmax_def]; omega)).mono ?_
  rintro e w3 ⟨rfl, rfl⟩
  rw [val_dig, val_dig]
  go_wp2_with fail
  refine (len_calls _ t HTB'.out).mono ?_
  rintro e w4 ⟨rfl, rfl⟩
  go_wp2_with fail
  refine (shl_ok hb1.limbs (by rw [HP.out]; omega) s (by omega)).mono ?_
  rintro e w5 ⟨dv, rfl, hdv, x5⟩
  rw [val_dig, ← HD.out] at hdv
  obtain ⟨da, dc, rfl, -, hdc, hdo⟩ := hdv.limbs.open
  obtain ⟨db, dof, rfl, hdb, hdcl⟩ := hdo p (by rw [HDL.out]; omega)
  have hdt := hdcl p (by rw [HDL.out]; omega)
  have HDV := Lib.hid hdv
  rw [HDL.out] at HDV ⊢
  unfold maxLen at hdc
  clear hdo hdcl hdv
  go_wp2_with fail
  refine (shl_ok (ha2.limbs.ext x5) (by rw [HLA.out]; omega) s (by omega)).mono ?_
  rintro e w6 ⟨sv, rfl, hsv, x6⟩
  rw [val_dig, ← HS.out] at hsv
  have HSO : Hid (w6.ownsRow w5.heap.size 46 1 sv S.length (S.map lv)) := by
    rcases hsv.1 with h | ⟨_, _, h3, _, _⟩
    · exact h
    · have : S.length = 0 := h3
      omega
  obtain ⟨sa, sc, rfl, -, -, -⟩ := hsv.limbs.open
  have h56 := x6.size
  clear hsv
  go_wp2_with (first
    | (at_builtin; refine append_zeros rfl _ _ 23 3 .i64 Tryz.underlying23 Tryz.underlying3 rfl w5.heap.size _ S.length (S.map lv) rfl HSO.out hS0 h56 .i64 z rfl (by have := HZ.out; rw [Lmax_def]; omega) ?_; intro lv' w7 hown7 hg7; rw [HZ.out, ← List.map_append] at hown7; obtain ⟨g, cm, rfl, hcm1, hcm2⟩ := own_at hown7 (by omega); have O7 := Lib.hid hown7; have X7 : Hid (Ext w5 w7) := x6.grown hg7 (fun k hk => (HSO.out.lt k hk).1); clear hown7 hg7)
    | (at_make; refine make_limbs rfl _ _ 23 Tryz.underlying23 rfl k _ rfl rfl rfl (by have := HK.out; rw [Lmax_def]; omega) ?_; intro w8 hown8 hg8; have O8 := Lib.hid hown8; have G8 := Lib.hid hg8; clear hown8 hg8))
  unfold maxLen at hcm2
  obtain ⟨gq, hgq⟩ : ∃ gq, gq = w7.heap.size := ⟨_, rfl⟩
  have HM0 := Lib.hid (DivMem.start O7.out O8.out G8.out X7.out)
  rw [← hgq] at HM0 ⊢
  have HI0 : Hid (DivInv (a * 2 ^ s) (b * 2 ^ s) (p + 1) k (List.replicate k 0) (S ++ List.replicate z 0)) := by
    refine DivInv.start (fun x hx => ?_) (by rw [val_append, val_zeros, HAS.out]; simp) HST.out
    rcases List.mem_append.1 hx with hx | hx
    · exact HSlt.out x hx
    · rw [List.eq_of_mem_replicate hx]; exact Bs_pos
  have HX5 : Hid (Ext w w5) := x12.trans x5
  have HDL5 := HDV.out.limbs
  have hki : (k : Int) ≤ 65536 := by have := HK.out; omega
  have hpi : (p : Int) ≤ 65536 := by have := HK.out; omega
  have hk1 : 1 ≤ k := by have := HK.out; omega
  clear O7 O8 G8 hgq q0 q1 q2 hkI hzI hbt hcmp hsI
  go_loopw [16] (fun v16 wr => ∃ (i : Nat) (mi : Int) (Q O : List Nat), v16 = .int .i64 mi ∧ mi = (i : Int) - 1 ∧ i ≤ k ∧ Hid (DivInv (a * 2 ^ s) (b * 2 ^ s) (p + 1) i Q O) ∧ DivMem w5 g (la + 1) cm O gq k Q wr) (fun v16 _ => (intOf v16 + 1).toNat)
  case atStart => exact ⟨k, _, _, _, rfl, rfl, Nat.le_refl _, HI0, HM0.out⟩
  case round =>
    obtain ⟨i, mi, Q, O, rfl, hmi, hi, hI, hM⟩ := hrel
    by_cases hi0 : i = 0
    · subst hi0
      obtain rfl : mi = -1 := by omega
      have hfin : val Q = a / b ∧ val O / 2 ^ s = a % b := div_fin hI.out.val_eq (by have := hI.out.less; rwa [Nat.pow_zero, Nat.mul_one] at this)
      have HF1 := Lib.hid hfin.1
      have HF2 := Lib.hid hfin.2
      have hLO : Limbs wr (.slice (some ⟨g, 0, none⟩) (la + 1) cm) O := ⟨by have := Own.sl (B := w5.heap.size) (e := 46) (.inl hM.ownL); rwa [show la + 1 = O.length from hM.lenL.symm] at this ⊢, hI.out.ltO⟩
      have hLQ : Limbs wr (.slice (some ⟨gq, 0, none⟩) k k) Q := ⟨by have := Own.sl (B := w5.heap.size) (e := 46) (.inl hM.ownQ); rwa [show k = Q.length from hM.lenQ.symm] at this ⊢, hI.out.ltQ⟩
      have HLL : Hid (O.length ≤ 524288) := by show _ ≤ _; rw [hM.lenL]; omega
      have HLQ : Hid (Q.length ≤ Lmax) := by show _ ≤ _; rw [hM.lenQ, Lmax_def]; omega
      have HM := Lib.hid hM
      clear hfin hM hmi
      go_wp2_with fail
      refine (shr_ok hLO HLL.out s (by omega)).mono ?_
      rintro e w12 ⟨r, rfl, hr, x12'⟩
      rw [HF2.out] at hr
      go_wp2_with fail
      refine (trim_calls (hLQ.ext x12') HLQ.out).mono ?_
      rintro e w13 ⟨qv, rfl, hqv, x13⟩
      rw [HF1.out] at hqv
      go_wp2_with fail
      go_ret3
      have y := (HX5.out.trans HM.out.ext)
      exact ⟨_, _, rfl, hqv.mono ((y.trans x12').size), (hr.ext x13).mono y.size, (y.trans x12').trans x13⟩
    · obtain ⟨j, rfl⟩ : ∃ j, i = j + 1 := ⟨i - 1, by omega⟩
      obtain rfl : mi = (j : Int) := by omega
      clear hmi
      have hjk : j < k := by omega
      have hjl : j + p + 1 ≤ la := by have := HK.out; omega
      have HM := Lib.hid hM
      have hd1 := el_lt HDlt.out p
      have hlo := el_lt hI.out.ltO (j + p)
      have hdq : el D p = b * 2 ^ s / Bs ^ p := by
        have e := el_val HDlt.out p
        rw [HBS.out] at e
        have h2 : b * 2 ^ s / Bs ^ p < Bs := by
          have h3 := val_lt HDlt.out
          rw [HBS.out, HDL.out, Nat.pow_succ] at h3
          rw [Nat.div_lt_iff_lt_mul (Nat.pow_pos Bs_pos), Nat.mul_comm Bs]; exact h3
        rw [Nat.mod_eq_of_lt h2] at e
        exact e
      have hd0 : 0 < el D p := by rw [hdq]; exact Nat.div_pos HN.out (Nat.pow_pos Bs_pos)
      have HDQ : Hid (el D p * Bs ^ p ≤ b * 2 ^ s) := by show _ ≤ _; rw [hdq]; exact Nat.div_mul_le_self _ _
      have HR : Hid (val O < Bs ^ (j + (p + 1) + 1)) := by
        show _ < _
        have h3 := val_lt HDlt.out
        rw [HBS.out, HDL.out] at h3
        refine Nat.lt_of_lt_of_le hI.out.less ?_
        have e : Bs ^ (j + (p + 1) + 1) = Bs ^ (p + 1) * Bs ^ (j + 1) := by rw [← Nat.pow_add]; congr 1; omega
        rw [e]
        exact Nat.mul_le_mul_right _ (Nat.le_of_lt h3)
      have HGE : Hid (val O / (b * 2 ^ s * Bs ^ j) ≤ guessN (el O (j + (p + 1))) (el O (j + p)) (el D p)) := guess_ge HDQ.out hd0 hI.out.less (two_limbs hI.out.ltO HR.out)
      have HGL : Hid (guessN (el O (j + (p + 1))) (el O (j + p)) (el D p) < Bs) := guess_lt hlo
      clear hdq
      have c1 := hM.cellL (j := j + (p + 1)) (by omega)
      have c2 := hM.cellL (j := j + p) (by omega)
      have c3 := hM.cellQ hjk
      have c4 := hM.frozQ j
      have c5 : wr.cell? ⟨db, dof + p, none⟩ = some (.int .u64 (el D p : Nat)) := by rw [Below.cell hM.ext (p := ⟨db, dof + p, none⟩) hdb]; exact hdt
      clear hM
      have hj0 : (0 : Int) ≤ (j : Int) := by omega
      have hjk' : (j : Int) < (k : Int) := by omega
      go_wp2_with fail
      have i1 : IntKind.i64.wrap ((p : Int) + 1 - 1) = (p : Int) := by rw [show (p : Int) + 1 - 1 = (p : Int) by omega]; exact IntWalk.i64_in _ (by omega)
      have i1' : IntKind.i64.wrap (p : Int) = (p : Int) := IntWalk.i64_in _ (by omega)
      have i2 : (0 : Int) ≤ (p : Int) + 1 := by omega
      have i3 : (0 : Int) ≤ (p : Int) := by omega
      have i4 : ((p : Int) + 1).toNat = p + 1 := by omega
      have i5 : (p : Int) + 1 < (p : Int) + 1 + 1 := by omega
      have i6 : (p : Int) < (p : Int) + 1 := by omega
      have i7 : (p : Int) < (p : Int) + 2 := by omega
      have i9 : (p : Int) + 1 < (p : Int) + 2 := by omega
      have i8 : j + (p + 1) + 1 - j = p + 2 := by omega
      have ne1 : ¬ gq = g := fun e => HM.out.ne e.symm
      have ne2 : ¬ gq = db := by have := HM.out.gQ; omega
      have ne3 : ¬ g = gq := HM.out.ne
      have ne4 : ¬ db = gq := by omega
      go_region_held3 (fun W => W.cell? ⟨g, j + (p + 1), none⟩ = some (.int .u64 (el O (j + (p + 1)) : Nat)) ∧ W.cell? ⟨g, j + p, none⟩ = some (.int .u64 (el O (j + p) : Nat)) ∧ W.cell? ⟨db, dof + p, none⟩ = some (.int .u64 (el D p : Nat))) (go_keep)
        (first | (go_at_call 71; refine (guess_calls _ (el O (j + (p + 1))) (el O (j + p)) (el D p) hd1 hlo hd0).mono ?_; rintro e w9 ⟨rfl, x9⟩; have hM9 := (HM.out.later ((Ext.refl wr).drew)).later x9; have k1 := hM9.cellL (j := j + (p + 1)) (by omega); have k2 := hM9.cellL (j := j + p) (by omega); have k3 := hM9.cellQ hjk; have k4 := hM9.frozQ j; have k5 : w9.cell? ⟨db, dof + p, none⟩ = some (.int .u64 (el D p : Nat)) := by rw [Below.cell hM9.ext (p := ⟨db, dof + p, none⟩) hdb]; exact hdt))
      generalize guessN (el O (j + (p + 1))) (el O (j + p)) (el D p) = q at *
      have HM10 := Lib.hid (((HM.out.later ((Ext.refl wr).drew)).later x9).setQ j q)
      clear i1 i1' i2 i3 i4 i5 i6 i7 i9 c1 c2 c3 c4 c5 hM9 k1 k2 k3 k4 k5
      have cq := HM10.out.cellQ hjk
      have fq := HM10.out.frozQ j
      rw [el_set_same (by rw [HM.out.lenQ]; exact hjk)] at cq
      go_wp2_with fail
      refine (take_calls HM10.out hI.out.ltO HDL5 (p + 1) HDL.out.symm j q (cm - j) (by omega) HGL.out (by omega) (by omega) (by unfold maxLen; omega)).mono ?_
      rintro e w11 ⟨bor, O', rfl, hbor, hv, hO', hz, hM'⟩
      have HZ' := Lib.hid hz
      have HM' := Lib.hid hM'
      rw [HBS.out] at hv
      have HL' : Hid (val O' < Bs ^ (j + (p + 1) + 1)) := val_top hO' (fun l hl => by rw [hz l hl]; exact top_zero hI.out.ltO HR.out l hl)
      clear hz hM'
      by_cases hb0 : bor = 0
      · subst hb0
        have hv0 := hv.out
        rw [Nat.mul_zero, Nat.add_zero] at hv0
        have HI2 := Lib.hid (hI.out.step (by rw [HM.out.lenQ]; exact hjk) HGL.out hO' hv0 (take_done hv0 (Nat.lt_of_lt_of_le (Nat.pow_pos Bs_pos) HN.out) HGE.out))
        clear hv0
        go_wp2_with fail
        exact ⟨⟨j, _, _, _, rfl, rfl, by omega, HI2, HM'.out⟩, by simp [intOf]⟩
      · obtain rfl : bor = 1 := by omega
        obtain ⟨hq1, hT⟩ := TooMuch.of_take hv.out HL'.out
        have HT0 := Lib.hid hT
        clear hT hb0 hbor
        have cq2 := HM'.out.cellQ hjk
        have fq2 := HM'.out.frozQ j
        rw [el_set_same (by rw [HM.out.lenQ]; exact hjk)] at cq2
        have hqB : (q : Int) ≤ 18446744073709551615 := by have := HGL.out; rw [Bs_def] at this; omega
        have hq1i : 1 ≤ (q : Int) := by omega
        have hqe : (q : Int) - 1 = ((q - 1 : Nat) : Int) := by omega
        have HM12 : Hid (DivMem w5 g (la + 1) cm O' gq k (Q.set j (q - 1)) (w11.setCell ⟨gq, j, none⟩ (.int .u64 ((q - 1 : Nat) : Int)))) := by
          have := HM'.out.setQ j (q - 1)
          rwa [List.set_set] at this
        go_wp2_with fail
        go_loopg [128] (q - 1) (fun gh _ wx => gh ≤ q - 1 ∧ ∃ O2 : List Nat, Hid (TooMuch (val O) (b * 2 ^ s) j (j + (p + 1) + 1) gh (val O2)) ∧ (∀ x ∈ O2, x < Bs) ∧ Hid (∀ l, j + (p + 1) + 1 ≤ l → el O2 l = el O l) ∧ DivMem w5 g (la + 1) cm O2 gq k (Q.set j gh) wx)
        case atStart => exact ⟨Nat.le_refl _, O', HT0, hO', HZ'.out, HM12.out⟩
        case round =>
          obtain ⟨hgq1, O2, hT2, hO2, hZ2, hM2⟩ := hrel
          have HM2 := Lib.hid hM2
          clear hM2
          go_wp2_with fail
          refine (back_calls HM2.out hO2 HDL5 (p + 1) HDL.out.symm j (cm - j) (by omega) (by omega) (by omega) (by unfold maxLen; omega)).mono ?_
          rintro e w13 ⟨car, O3, rfl, hcar, hv3, hO3, hz3, hM3⟩
          have HM3 := Lib.hid hM3
          have HZ3 : Hid (∀ l, j + (p + 1) + 1 ≤ l → el O3 l = el O l) := fun l hl => by rw [hz3 l hl]; exact hZ2.out l hl
          rw [HBS.out] at hv3
          have HL3 : Hid (val O3 < Bs ^ (j + (p + 1) + 1)) := val_top hO3 (fun l hl => by rw [HZ3.out l hl]; exact top_zero hI.out.ltO HR.out l hl)
          clear hz3 hM3
          by_cases hc0 : car = 0
          · subst hc0
            obtain ⟨hq3, hT3⟩ := hT2.out.more hv3.out HL3.out
            have HT3 := Lib.hid hT3
            have cq3 := HM3.out.cellQ hjk
            have fq3 := HM3.out.frozQ j
            rw [el_set_same (by rw [HM.out.lenQ]; exact hjk)] at cq3
            have hgB : (gk : Int) ≤ 18446744073709551615 := by omega
            have hg1 : 1 ≤ (gk : Int) := by omega
            have hge : (gk : Int) - 1 = ((gk - 1 : Nat) : Int) := by omega
            have HM14 : Hid (DivMem w5 g (la + 1) cm O3 gq k (Q.set j (gk - 1)) (w13.setCell ⟨gq, j, none⟩ (.int .u64 ((gk - 1 : Nat) : Int)))) := by
              have := HM3.out.setQ j (gk - 1)
              rwa [List.set_set] at this
            clear hT3
            go_wp2_with fail
            go_roundg (gk - 1)
            case measure => omega
            case rel => exact ⟨by omega, O3, HT3, hO3, HZ3, HM14.out⟩
          · obtain rfl : car = 1 := by omega
            have hv4 := hT2.out.done hv3.out
            have HI3 := Lib.hid (hI.out.step (by rw [HM.out.lenQ]; exact hjk) (show gk < Bs by have := HGL.out; omega) hO3 hv4.1 hv4.2)
            clear hv4 hc0
            go_wp2_with fail
            exact ⟨⟨j, _, _, _, rfl, rfl, by omega, HI3, HM3.out⟩, by simp [intOf]⟩

set_option maxHeartbeats 1000000 in
theorem divlt_calls {w : World} {v u : Value} {A B : List Nat} (hA : Limbs w v A) (hB : Limbs w u B) (hlA : A.length ≤ Lmax) (hlB : B.length ≤ Lmax) (hlt : val A < val B) :
    Calls Tryz.prog 41 #[v, u] w (RetDiv w (val A / val B) (val A % val B)) := by
  have HLA := Lib.hid hlA
  have HLB := Lib.hid hlB
  have HDA : Hid ((dig (val A)).length ≤ Lmax) := Nat.le_trans (dig_val_len hA.2) hlA
  have HDB : Hid ((dig (val B)).length ≤ Lmax) := Nat.le_trans (dig_val_len hB.2) hlB
  have HQ : Hid (val A / val B = 0) := Nat.div_eq_of_lt hlt
  have HR : Hid (val A % val B = val A) := Nat.mod_eq_of_lt hlt
  have hp : 0 < (dig (val B)).length := by rw [dig_pos (by omega), List.length_cons]; omega
  have h0 : (((dig (val B)).length : Int) == 0) = false := by rw [beq_eq_false_iff_ne]; omega
  have HC : Hid (cmpN (val (dig (val A))) (val (dig (val B))) = -1) := by show _ = _; rw [val_dig, val_dig]; exact cmpN_lt hlt
  clear hlA hlB hlt hp
  go_enter Tryz.func41, Tryz.ntmps41
  go_wp2_with fail
  refine (trim_calls hA HLA.out).mono ?_
  rintro e w1 ⟨a1, rfl, ha1, hx1⟩
  go_wp2_with fail
  refine (trim_calls (hB.ext hx1) HLB.out).mono ?_
  rintro e w2 ⟨b1, rfl, hb1', hx2⟩
  have ha2 := ha1.ext hx2
  have hx := hx1.trans hx2
  obtain ⟨bb, bcap, rfl, k1, k2, k3⟩ := hb1'.limbs.open
  clear k1 k2 k3
  go_wp2_with fail
  refine (cmp_calls ha2.limbs hb1'.limbs HDA.out HDB.out).mono ?_
  rintro e w3 ⟨rfl, rfl⟩
  rw [HC.out]
  go_wp2_with fail
  go_ret3
  exact ⟨_, _, rfl, by rw [HQ.out, dig_zero]; exact OwnL.nil _ _, by rw [HR.out]; exact ha2, hx⟩

/-- the contract of quo.Div -/
theorem quodiv_calls {w : World} {v u : Value} {A B : List Nat} (hA : Limbs w v A) (hB : Limbs w u B) (hlA : A.length ≤ 65536) (hlB : B.length ≤ 65536) :
    Calls Tryz.prog 41 #[v, u] w (RetDivE w (val A) (val B)) := by
  have l1 : A.length ≤ Lmax := by rw [Lmax_def]; omega
  have l2 : B.length ≤ Lmax := by rw [Lmax_def]; omega
  by_cases h0 : val B = 0
  · exact div0_calls hA hB l1 l2 h0
  have key : Calls Tryz.prog 41 #[v, u] w (RetDiv w (val A / val B) (val A % val B)) := by
    by_cases h1 : val B < Bs
    · exact div1_calls hA hB l1 l2 (by omega) h1
    · by_cases h2 : val A < val B
      · exact divlt_calls hA hB l1 l2 h2
      · exact divn_calls hA hB hlA hlB (by omega) (by omega)
  refine key.mono ?_
  rintro e w' ⟨q, r, rfl, hq, hr, hx⟩
  exact ⟨q, r, by rw [if_neg h0], by rw [if_neg h0]; exact hq, by rw [if_neg h0]; exact hr, hx⟩
end Go.Proofs.YtomhfipgabpfiaaGreatDoor
