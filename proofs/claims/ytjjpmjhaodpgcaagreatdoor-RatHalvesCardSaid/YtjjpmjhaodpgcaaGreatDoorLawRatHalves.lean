/- RatHalves answers true at all numbers. -/
import Derived.Test.YtjjpmjhaodpgcaaGreatDoorPartG
namespace Go.Proofs.YtjjpmjhaodpgcaaGreatDoor
open Go Go.RowKit

noncomputable def hf (n : Nat) : Rat := mkRat 1 (2 ^ n)
theorem two_ne (n : Nat) : 2 ^ n ≠ 0 := Nat.pos_iff_ne_zero.1 (Nat.pow_pos (by decide))
theorem hf_mul (a b : Nat) : hf a * hf b = hf (a + b) := by unfold hf; rw [Rat.mkRat_mul_mkRat, Nat.pow_add]; rfl
theorem hf_pow (a : Nat) : (mkRat 1 2) ^ a = hf a := by
  induction a with
  | zero => rw [Rat.pow_zero]; rfl
  | succ n ih => rw [Rat.pow_succ, ih, ← hf_mul]; rfl
theorem hf_num (n : Nat) : (hf n).num = 1 := by unfold hf; rw [mk_num (two_ne n)]; simp
theorem hf_den (n : Nat) : (hf n).den = 2 ^ n := by unfold hf; rw [mk_den (two_ne n)]; simp
theorem hf_twice (n : Nat) : hf (n + 1) + hf (n + 1) = hf n := by
  rw [← hf_mul, ← Rat.mul_add, show hf 1 + hf 1 = 1 by decide +kernel, Rat.mul_one]
theorem hf_pos (n : Nat) : 0 < hf n := by rw [Rat.lt_iff, hf_num]; simp
theorem hf_less (n : Nat) : cmpR (hf (n + 1)) (hf n) = -1 := by
  rw [cmpR_lt, ← hf_twice n]
  have := (Rat.add_lt_add_left (c := hf (n + 1))).2 (hf_pos (n + 1))
  rwa [Rat.add_zero] at this
theorem two_lt_Bs {n k : Nat} (h : n < 64 * k) : 2 ^ n < Bs ^ k := by rw [Bs_eq, ← Nat.pow_mul]; exact Nat.pow_lt_pow_right (by decide) h
theorem hf_len {n : Nat} (h : n ≤ 510) : LenR 9 (hf n) := by
  refine ⟨by rw [hf_num]; exact one_lt_pow (by decide), ?_⟩
  rw [hf_den]; exact two_lt_Bs (by omega)

set_option maxHeartbeats 8000000 in
set_option maxRecDepth 100000 in
theorem ratHalves_calls (w : World) (a b : Nat) (ha' : a < 256) (hb' : b < 256) :
    Calls Tryz.prog 7 #[.int .u8 (a : Int), .int .u8 (b : Int)] w (Yes w) := by
  have ha : (a : Int) ≤ 255 := by omega
  have hb : (b : Int) ≤ 255 := by omega
  obtain ⟨qa, hqa⟩ : ∃ q, hf a = q := ⟨_, rfl⟩
  obtain ⟨qb, hqb⟩ : ∃ q, hf b = q := ⟨_, rfl⟩
  obtain ⟨qc, hqc⟩ : ∃ q, hf (a + b) = q := ⟨_, rfl⟩
  have HA : Hid (mkRat 1 (2 ^ (a : Int).toNat) = qa) := by show _ = _; rw [Int.toNat_natCast]; exact hqa
  have HB : Hid (mkRat 1 (2 ^ (b : Int).toNat) = qb) := by show _ = _; rw [Int.toNat_natCast]; exact hqb
  have HC : Hid (mkRat 1 (2 ^ ((a : Int) + (b : Int)).toNat) = qc) := by show _ = _; rw [show ((a : Int) + (b : Int)).toNat = a + b by omega]; exact hqc
  have HAr : Hid (0 ≤ (a : Int) ∧ (a : Int) ≤ 65536) := ⟨by omega, by omega⟩
  have HBr : Hid (0 ≤ (b : Int) ∧ (b : Int) ≤ 65536) := ⟨by omega, by omega⟩
  have HCr : Hid (0 ≤ (a : Int) + (b : Int) ∧ (a : Int) + (b : Int) ≤ 65536) := ⟨by omega, by omega⟩
  have HAl : Hid (LenR 9 qa) := by rw [← hqa]; exact hf_len (by omega)
  have HBl : Hid (LenR 9 qb) := by rw [← hqb]; exact hf_len (by omega)
  have HCl : Hid (LenR 9 qc) := by rw [← hqc]; exact hf_len (by omega)
  have HP0 : Hid (a ≤ 1048576) := by show _ ≤ _; omega
  have hn2 : (mkRat 1 2).num.natAbs = 1 := by decide +kernel
  have hd2 : (mkRat 1 2).den = 2 := by decide +kernel
  have HP1 : Hid (bl (mkRat 1 2).num.natAbs * a ≤ 1048576) := by show _ ≤ _; rw [hn2, show bl 1 = 1 from rfl]; omega
  have HP2 : Hid (bl (mkRat 1 2).den * a ≤ 1048576) := by show _ ≤ _; rw [hd2, show bl 2 = 2 from by decide +kernel]; omega
  have HPE : Hid ((mkRat 1 2) ^ a = qa) := by show _ = _; rw [← hqa, hf_pow]
  have HPL : Hid (LenR 9 ((mkRat 1 2) ^ a)) := by rw [HPE.out]; exact HAl.out
  have HM : Hid (qa * qb = qc) := by show _ = _; rw [← hqa, ← hqb, ← hqc, hf_mul]
  clear ha' hb' hqb hqc hn2 hd2
  by_cases h0 : a = 0
  · subst h0
    have HSH : Hid ((⟨#[49]⟩ : ByteArray).data.toList = showR qa) := by
      show _ = _
      rw [← hqa]; exact showR_of (by decide +kernel) (by decide +kernel)
    simp only [Int.natCast_zero, Int.zero_add] at HA HC HAr HCr
    clear hqa ha
    simp only [Int.natCast_zero]
    go_enter Tryz.func7, Tryz.ntmps7
    go_wp2_with fail
    refine (awake06_calls _).mono ?_
    rintro e w1 ⟨rfl, x1⟩
    have e1_ : Ext w w1 := Ext.trans (Ext.refl w) x1
    go_wp2_with fail
    refine (half_is (q := qa) _ 0 HAr.out HA.out).mono ?_
    rintro e w2 ⟨sb2, sv2, su2, sm2, sd2, rfl, e2, o2, x2⟩
    have e2_ : Ext w w2 := Ext.trans e1_ x2
    obtain ⟨sp2, sl2, sc2, tp2, tl2, tc2, rfl, rfl⟩ := e2.slice
    go_wp2_with fail
    obtain ⟨v3, hv3⟩ : ∃ W, W = (w2.alloc (.cells #[.bool sb2, .slice sp2 sl2 sc2, .slice tp2 tl2 tc2] 27)) := ⟨_, rfl⟩
    have y3 : Ext w2 v3 := by rw [hv3]; exact ((Ext.refl _).alloc _)
    have b0_0 : Hid (At (w2.heap.size) 0 (.bool sb2) v3) := by rw [hv3]; exact At.ext (At.n0 (by rfl)) (Ext.refl _)
    have b0_1 : Hid (At (w2.heap.size) 1 (.slice sp2 sl2 sc2) v3) := by rw [hv3]; exact At.ext (At.n0 (by rfl)) (Ext.refl _)
    have b0_2 : Hid (At (w2.heap.size) 2 (.slice tp2 tl2 tc2) v3) := by rw [hv3]; exact At.ext (At.n0 (by rfl)) (Ext.refl _)
    have k0 : Hid (Bx 3 (w2.heap.size) v3) := by rw [hv3]; exact Bx.gr (Bx.n0 3 ⟨rfl, by decide⟩ (by decide) noI_s3) (Ext.gr (Ext.refl _))
    have u0 : Hid (w2.heap.size < v3.heap.size) := b0_0.out.2
    have e3_ : Ext w v3 := Ext.trans e2_ y3
    rw [← hv3]
    clear hv3
    refine (half_is (q := qb) _ (b : Int) HBr.out HB.out).mono ?_
    rintro e w4 ⟨sb3, sv3, su3, sm3, sd3, rfl, e3, o3, x4⟩
    have e4_ : Ext w w4 := Ext.trans e3_ x4
    obtain ⟨sp3, sl3, sc3, tp3, tl3, tc3, rfl, rfl⟩ := e3.slice
    go_wp2_with fail
    obtain ⟨v5, hv5⟩ : ∃ W, W = (w4.alloc (.cells #[.bool sb3, .slice sp3 sl3 sc3, .slice tp3 tl3 tc3] 27)) := ⟨_, rfl⟩
    have y5 : Ext w4 v5 := by rw [hv5]; exact ((Ext.refl _).alloc _)
    have b1_0 : Hid (At (w4.heap.size) 0 (.bool sb3) v5) := by rw [hv5]; exact At.ext (At.n0 (by rfl)) (Ext.refl _)
    have b1_1 : Hid (At (w4.heap.size) 1 (.slice sp3 sl3 sc3) v5) := by rw [hv5]; exact At.ext (At.n0 (by rfl)) (Ext.refl _)
    have b1_2 : Hid (At (w4.heap.size) 2 (.slice tp3 tl3 tc3) v5) := by rw [hv5]; exact At.ext (At.n0 (by rfl)) (Ext.refl _)
    have k1 : Hid (Bx 3 (w4.heap.size) v5) := by rw [hv5]; exact Bx.gr (Bx.n0 3 ⟨rfl, by decide⟩ (by decide) noI_s3) (Ext.gr (Ext.refl _))
    have u1 : Hid (w4.heap.size < v5.heap.size) := b1_0.out.2
    have e5_ : Ext w v5 := Ext.trans e4_ y5
    rw [← hv5]
    clear hv5
    refine (half_is (q := qc) _ (b : Int) HCr.out HC.out).mono ?_
    rintro e w6 ⟨sb4, sv4, su4, sm4, sd4, rfl, e4, o4, x6⟩
    have e6_ : Ext w w6 := Ext.trans e5_ x6
    obtain ⟨sp4, sl4, sc4, tp4, tl4, tc4, rfl, rfl⟩ := e4.slice
    go_wp2_with fail
    obtain ⟨v7, hv7⟩ : ∃ W, W = (w6.alloc (.cells #[.bool sb4, .slice sp4 sl4 sc4, .slice tp4 tl4 tc4] 27)) := ⟨_, rfl⟩
    have y7 : Ext w6 v7 := by rw [hv7]; exact ((Ext.refl _).alloc _)
    have b2_0 : Hid (At (w6.heap.size) 0 (.bool sb4) v7) := by rw [hv7]; exact At.ext (At.n0 (by rfl)) (Ext.refl _)
    have b2_1 : Hid (At (w6.heap.size) 1 (.slice sp4 sl4 sc4) v7) := by rw [hv7]; exact At.ext (At.n0 (by rfl)) (Ext.refl _)
    have b2_2 : Hid (At (w6.heap.size) 2 (.slice tp4 tl4 tc4) v7) := by rw [hv7]; exact At.ext (At.n0 (by rfl)) (Ext.refl _)
    have k2 : Hid (Bx 3 (w6.heap.size) v7) := by rw [hv7]; exact Bx.gr (Bx.n0 3 ⟨rfl, by decide⟩ (by decide) noI_s3) (Ext.gr (Ext.refl _))
    have u2 : Hid (w6.heap.size < v7.heap.size) := b2_0.out.2
    have e7_ : Ext w v7 := Ext.trans e6_ y7
    rw [← hv7]
    clear hv7
    refine (lover_is (q := mkRat 1 2) _ 1 2 (by decide) (by decide) (by decide) (by decide) (by decide) (by decide +kernel)).mono ?_
    rintro e w8 ⟨sb5, sv5, su5, sm5, sd5, rfl, e5, o5, x8⟩
    have e8_ : Ext w w8 := Ext.trans e7_ x8
    obtain ⟨sp5, sl5, sc5, tp5, tl5, tc5, rfl, rfl⟩ := e5.slice
    go_wp2_with fail
    refine (rpow_is (e5.inR (k := 1) (lenR_over (n := 1) (d := 2) (q := mkRat 1 2) (by decide) (by decide) (by decide) (by decide) (by decide +kernel))) (by decide) 0 HP0.out HP1.out HP2.out).mono ?_
    rintro e w9 ⟨sb6, sv6, su6, sm6, sd6, rfl, e6, o6, x9⟩
    have e9_ : Ext w w9 := Ext.trans e8_ x9
    obtain ⟨sp6, sl6, sc6, tp6, tl6, tc6, rfl, rfl⟩ := e6.slice
    go_wp2_with fail
    obtain ⟨v10, hv10⟩ : ∃ W, W = (w9.alloc (.cells #[.bool sb6, .slice sp6 sl6 sc6, .slice tp6 tl6 tc6] 27)) := ⟨_, rfl⟩
    have y10 : Ext w9 v10 := by rw [hv10]; exact ((Ext.refl _).alloc _)
    have b3_0 : Hid (At (w9.heap.size) 0 (.bool sb6) v10) := by rw [hv10]; exact At.ext (At.n0 (by rfl)) (Ext.refl _)
    have b3_1 : Hid (At (w9.heap.size) 1 (.slice sp6 sl6 sc6) v10) := by rw [hv10]; exact At.ext (At.n0 (by rfl)) (Ext.refl _)
    have b3_2 : Hid (At (w9.heap.size) 2 (.slice tp6 tl6 tc6) v10) := by rw [hv10]; exact At.ext (At.n0 (by rfl)) (Ext.refl _)
    have k3 : Hid (Bx 3 (w9.heap.size) v10) := by rw [hv10]; exact Bx.gr (Bx.n0 3 ⟨rfl, by decide⟩ (by decide) noI_s3) (Ext.gr (Ext.refl _))
    have u3 : Hid (w9.heap.size < v10.heap.size) := b3_0.out.2
    have e10_ : Ext w v10 := Ext.trans e9_ y10
    rw [← hv10]
    clear hv10
    have hkeep1 : AllAt' ([(w2.heap.size, 0, .bool sb2), (w2.heap.size, 1, .slice sp2 sl2 sc2), (w2.heap.size, 2, .slice tp2 tl2 tc2), (w4.heap.size, 0, .bool sb3), (w4.heap.size, 1, .slice sp3 sl3 sc3), (w4.heap.size, 2, .slice tp3 tl3 tc3), (w6.heap.size, 0, .bool sb4), (w6.heap.size, 1, .slice sp4 sl4 sc4), (w6.heap.size, 2, .slice tp4 tl4 tc4), (w9.heap.size, 0, .bool sb6), (w9.heap.size, 1, .slice sp6 sl6 sc6), (w9.heap.size, 2, .slice tp6 tl6 tc6)] : List (Nat × Nat × Value)) v10 := AllAt'.cons (b0_0.out.ext (x4.trans (y5.trans (x6.trans (y7.trans (x8.trans (x9.trans y10))))))) (AllAt'.cons (b0_1.out.ext (x4.trans (y5.trans (x6.trans (y7.trans (x8.trans (x9.trans y10))))))) (AllAt'.cons (b0_2.out.ext (x4.trans (y5.trans (x6.trans (y7.trans (x8.trans (x9.trans y10))))))) (AllAt'.cons (b1_0.out.ext (x6.trans (y7.trans (x8.trans (x9.trans y10))))) (AllAt'.cons (b1_1.out.ext (x6.trans (y7.trans (x8.trans (x9.trans y10))))) (AllAt'.cons (b1_2.out.ext (x6.trans (y7.trans (x8.trans (x9.trans y10))))) (AllAt'.cons (b2_0.out.ext (x8.trans (x9.trans y10))) (AllAt'.cons (b2_1.out.ext (x8.trans (x9.trans y10))) (AllAt'.cons (b2_2.out.ext (x8.trans (x9.trans y10))) (AllAt'.cons b3_0.out (AllAt'.cons b3_1.out (AllAt'.cons b3_2.out (AllAt'.nil _))))))))))))
    have hob1 : ObOk w.heap.size v10 (([(w2.heap.size, 0, .bool sb2), (w2.heap.size, 1, .slice sp2 sl2 sc2), (w2.heap.size, 2, .slice tp2 tl2 tc2), (w4.heap.size, 0, .bool sb3), (w4.heap.size, 1, .slice sp3 sl3 sc3), (w4.heap.size, 2, .slice tp3 tl3 tc3), (w6.heap.size, 0, .bool sb4), (w6.heap.size, 1, .slice sp4 sl4 sc4), (w6.heap.size, 2, .slice tp4 tl4 tc4), (w9.heap.size, 0, .bool sb6), (w9.heap.size, 1, .slice sp6 sl6 sc6), (w9.heap.size, 2, .slice tp6 tl6 tc6)] : List (Nat × Nat × Value)).map (·.1)) ([] : List (Nat × List (Nat × Value))) := trivial
    have hne1 : AllNe (([] : List (Nat × List (Nat × Value))).map (·.1)) := trivial
    (try simp only [List.append_eq, List.cons_append, List.nil_append])
    refine wp_region_gen ⟨[45, 46, 47, 48, 49, 50, 51, 52, 53, 54, 55, 56, 57, 58, 59, 60, 61, 62, 63, 64, 65, 66, 67, 68, 69, 70, 71, 72], fun i => false, fun i => ([none, none, none, none, none, none, none, none, none, none, none, none, none, none, none, none, none, none, none, none, none, none, none, none, none, none, none, none] : List (Option (BoxRef × Nat))).getD i none, fun i => ([Sg.val (.int .i64 0), Sg.val (.bool false), Sg.val (.bool false), Sg.val (.int .i64 0), Sg.val (.bool false), Sg.val (.bool false), Sg.val (.bool false), Sg.val (.int .i64 0), Sg.val (.bool false), Sg.val (.bool false), Sg.val (.bool false), Sg.val (.int .i64 0), Sg.val (.bool false), Sg.val (.bool false), Sg.val (.bool false), Sg.ratO w.heap.size qa, Sg.ratO w.heap.size qb, Sg.ratO w.heap.size (qa * qb), Sg.ratO w.heap.size qc, Sg.val (.bool true), Sg.val (.bool false), Sg.val (.bool false), Sg.val (.bool false), Sg.ratO w.heap.size (mkRat 1 2 ^ 0), Sg.ratO w.heap.size qa, Sg.val (.bool true), Sg.val (.bool false), Sg.val (.bool false)] : List Sg).getD i Sg.any, [(w2.heap.size, 0, .bool sb2), (w2.heap.size, 1, .slice sp2 sl2 sc2), (w2.heap.size, 2, .slice tp2 tl2 tc2), (w4.heap.size, 0, .bool sb3), (w4.heap.size, 1, .slice sp3 sl3 sc3), (w4.heap.size, 2, .slice tp3 tl3 tc3), (w6.heap.size, 0, .bool sb4), (w6.heap.size, 1, .slice sp4 sl4 sc4), (w6.heap.size, 2, .slice tp4 tl4 tc4), (w9.heap.size, 0, .bool sb6), (w9.heap.size, 1, .slice sp6 sl6 sc6), (w9.heap.size, 2, .slice tp6 tl6 tc6)], []⟩ w.heap.size (by kernel_rfl) (by kernel_rfl) e10_.size ?hfr hkeep1 hob1 hne1 ?hs ?he
    case hfr =>
      intro i v wk hi hst hv
      exact absurd hi (by simp)
    case hs =>
      refine ⟨?_, ?_, ?_, ?_, ?_, ?_, ?_, ?_, ?_, ?_, ?_, ?_, ?_, ?_, ?_, ?_, ?_, ?_, ?_, ?_, ?_, ?_, ?_, ?_, ?_, ?_, ?_, ?_, trivial⟩
      · refine RStep.op rfl rfl (fun ac wk hp K hK => ?_)
        have t6_ : ac.tmps[6]?.getD undef = .int .i64 0 := hp.slot 6 rfl rfl
        have HP := Lib.hid hp
        clear hp
        go_simp
        refine hK.out _ _ ?_ (Ext.refl _) (fun h => absurd h (by simp))
        exact rfl
      · refine RStep.op rfl rfl (fun ac wk hp K hK => ?_)
        have u0e := hp.get 0 (by decide +kernel) rfl
        have t45_ : ac.tmps[45]?.getD undef = .int .i64 0 := slot_is' u0e
        have HP := Lib.hid hp
        clear hp
        go_simp
        refine hK.out _ _ ?_ (Ext.refl _) (fun h => absurd h (by simp))
        exact rfl
      · refine RStep.op rfl rfl (fun ac wk hp K hK => ?_)
        have u1e := hp.get 1 (by decide +kernel) rfl
        have t46_ : ac.tmps[46]?.getD undef = .bool false := slot_is' u1e
        have HP := Lib.hid hp
        clear hp
        go_simp
        refine hK.out _ _ ?_ (Ext.refl _) (fun h => absurd h (by simp))
        exact rfl
      · refine RStep.yes 2 false rfl rfl (by decide +kernel) rfl rfl (fun ac wk hp K hK => ?_)
        have t8_ : ac.tmps[8]?.getD undef = .int .i64 0 := hp.slot 8 rfl rfl
        have HP := Lib.hid hp
        clear hp
        go_simp
        refine hK.out _ _ ?_ (Ext.refl _) (fun h => absurd h (by simp))
        exact rfl
      · refine RStep.yes 2 false rfl rfl (by decide +kernel) rfl rfl (fun ac wk hp K hK => ?_)
        have u3e := hp.get 3 (by decide +kernel) rfl
        have t48_ : ac.tmps[48]?.getD undef = .int .i64 0 := slot_is' u3e
        have HP := Lib.hid hp
        clear hp
        go_simp
        refine hK.out _ _ ?_ (Ext.refl _) (fun h => absurd h (by simp))
        exact rfl
      · refine RStep.op rfl rfl (fun ac wk hp K hK => ?_)
        have u2e := hp.get 2 (by decide +kernel) rfl
        have t47_ : ac.tmps[47]?.getD undef = .bool false := slot_is' u2e
        have u4e := hp.get 4 (by decide +kernel) rfl
        have t49_ : ac.tmps[49]?.getD undef = .bool false := slot_is' u4e
        have HP := Lib.hid hp
        clear hp
        go_simp
        refine hK.out _ _ ?_ (Ext.refl _) (fun h => absurd h (by simp))
        exact rfl
      · refine RStep.op rfl rfl (fun ac wk hp K hK => ?_)
        have u5e := hp.get 5 (by decide +kernel) rfl
        have t50_ : ac.tmps[50]?.getD undef = .bool false := slot_is' u5e
        have HP := Lib.hid hp
        clear hp
        go_simp
        refine hK.out _ _ ?_ (Ext.refl _) (fun h => absurd h (by simp))
        exact rfl
      · refine RStep.yes 6 false rfl rfl (by decide +kernel) rfl rfl (fun ac wk hp K hK => ?_)
        have t10_ : ac.tmps[10]?.getD undef = .int .i64 0 := hp.slot 10 rfl rfl
        have HP := Lib.hid hp
        clear hp
        go_simp
        refine hK.out _ _ ?_ (Ext.refl _) (fun h => absurd h (by simp))
        exact rfl
      · refine RStep.yes 6 false rfl rfl (by decide +kernel) rfl rfl (fun ac wk hp K hK => ?_)
        have u7e := hp.get 7 (by decide +kernel) rfl
        have t52_ : ac.tmps[52]?.getD undef = .int .i64 0 := slot_is' u7e
        have HP := Lib.hid hp
        clear hp
        go_simp
        refine hK.out _ _ ?_ (Ext.refl _) (fun h => absurd h (by simp))
        exact rfl
      · refine RStep.op rfl rfl (fun ac wk hp K hK => ?_)
        have u6e := hp.get 6 (by decide +kernel) rfl
        have t51_ : ac.tmps[51]?.getD undef = .bool false := slot_is' u6e
        have u8e := hp.get 8 (by decide +kernel) rfl
        have t53_ : ac.tmps[53]?.getD undef = .bool false := slot_is' u8e
        have HP := Lib.hid hp
        clear hp
        go_simp
        refine hK.out _ _ ?_ (Ext.refl _) (fun h => absurd h (by simp))
        exact rfl
      · refine RStep.op rfl rfl (fun ac wk hp K hK => ?_)
        have u9e := hp.get 9 (by decide +kernel) rfl
        have t54_ : ac.tmps[54]?.getD undef = .bool false := slot_is' u9e
        have HP := Lib.hid hp
        clear hp
        go_simp
        refine hK.out _ _ ?_ (Ext.refl _) (fun h => absurd h (by simp))
        exact rfl
      · refine RStep.yes 10 false rfl rfl (by decide +kernel) rfl rfl (fun ac wk hp K hK => ?_)
        have t12_ : ac.tmps[12]?.getD undef = .int .i64 0 := hp.slot 12 rfl rfl
        have HP := Lib.hid hp
        clear hp
        go_simp
        refine hK.out _ _ ?_ (Ext.refl _) (fun h => absurd h (by simp))
        exact rfl
      · refine RStep.yes 10 false rfl rfl (by decide +kernel) rfl rfl (fun ac wk hp K hK => ?_)
        have u11e := hp.get 11 (by decide +kernel) rfl
        have t56_ : ac.tmps[56]?.getD undef = .int .i64 0 := slot_is' u11e
        have HP := Lib.hid hp
        clear hp
        go_simp
        refine hK.out _ _ ?_ (Ext.refl _) (fun h => absurd h (by simp))
        exact rfl
      · refine RStep.op rfl rfl (fun ac wk hp K hK => ?_)
        have u10e := hp.get 10 (by decide +kernel) rfl
        have t55_ : ac.tmps[55]?.getD undef = .bool false := slot_is' u10e
        have u12e := hp.get 12 (by decide +kernel) rfl
        have t57_ : ac.tmps[57]?.getD undef = .bool false := slot_is' u12e
        have HP := Lib.hid hp
        clear hp
        go_simp
        refine hK.out _ _ ?_ (Ext.refl _) (fun h => absurd h (by simp))
        exact rfl
      · refine RStep.op rfl rfl (fun ac wk hp K hK => ?_)
        have u13e := hp.get 13 (by decide +kernel) rfl
        have t58_ : ac.tmps[58]?.getD undef = .bool false := slot_is' u13e
        have HP := Lib.hid hp
        clear hp
        go_simp
        refine hK.out _ _ ?_ (Ext.refl _) (fun h => absurd h (by simp))
        exact rfl
      · refine RStep.yes 14 false rfl rfl (by decide +kernel) rfl rfl (fun ac wk hp K hK => ?_)
        have t5_ : ac.tmps[5]?.getD undef = .pointer (some ⟨w2.heap.size, 0, none⟩) := hp.slot 5 rfl rfl
        have c0_ := hp.cell 0 rfl
        have c1_ := hp.cell 1 rfl
        have c2_ := hp.cell 2 rfl
        have HP := Lib.hid hp
        clear hp
        go_simp
        refine hK.out _ _ ?_ (Ext.refl _) (fun h => absurd h (by simp))
        exact ⟨_, _, _, _, _, _, _, _, _, rfl, (e2.gr ((y3.gr.trans (x4.gr.trans (y5.gr.trans (x6.gr.trans (y7.gr.trans (x8.gr.trans (x9.gr.trans y10.gr))))))).trans HP.out.gr)), ((o2.gr ((y3.gr.trans (x4.gr.trans (y5.gr.trans (x6.gr.trans (y7.gr.trans (x8.gr.trans (x9.gr.trans y10.gr))))))).trans HP.out.gr)).mono e1_.size)⟩
      · refine RStep.yes 14 false rfl rfl (by decide +kernel) rfl rfl (fun ac wk hp K hK => ?_)
        have t7_ : ac.tmps[7]?.getD undef = .pointer (some ⟨w4.heap.size, 0, none⟩) := hp.slot 7 rfl rfl
        have c0_ := hp.cell 3 rfl
        have c1_ := hp.cell 4 rfl
        have c2_ := hp.cell 5 rfl
        have HP := Lib.hid hp
        clear hp
        go_simp
        refine hK.out _ _ ?_ (Ext.refl _) (fun h => absurd h (by simp))
        exact ⟨_, _, _, _, _, _, _, _, _, rfl, (e3.gr ((y5.gr.trans (x6.gr.trans (y7.gr.trans (x8.gr.trans (x9.gr.trans y10.gr))))).trans HP.out.gr)), ((o3.gr ((y5.gr.trans (x6.gr.trans (y7.gr.trans (x8.gr.trans (x9.gr.trans y10.gr))))).trans HP.out.gr)).mono e3_.size)⟩
      · refine RStep.yes 14 false rfl rfl (by decide +kernel) rfl rfl (fun ac wk hp K hK => ?_)
        obtain ⟨u15b, u15p, u15n, u15c, u15q, u15k, u15d, u15m, u15l, u15e, u15i, u15o⟩ := hp.get 15 (by decide +kernel) rfl
        have t60_ : ac.tmps[60]?.getD undef = .agg #[.bool u15b, .slice u15p u15n u15c, .slice u15q u15k u15d] := slot_is' u15e
        obtain ⟨u16b, u16p, u16n, u16c, u16q, u16k, u16d, u16m, u16l, u16e, u16i, u16o⟩ := hp.get 16 (by decide +kernel) rfl
        have t61_ : ac.tmps[61]?.getD undef = .agg #[.bool u16b, .slice u16p u16n u16c, .slice u16q u16k u16d] := slot_is' u16e
        have HP := Lib.hid hp
        clear hp
        go_simp
        refine (rmul_is (u15i.inR (k := 9) HAl.out) (u16i.inR (k := 9) HBl.out) (by decide)).mono ?_
        rintro e wk' ⟨sb7, sv7, su7, sm7, sd7, rfl, e7, o7, ix⟩
        obtain ⟨sp7, sl7, sc7, tp7, tl7, tc7, rfl, rfl⟩ := e7.slice
        refine hK.out _ _ ?_ ix (fun h => absurd h (by simp))
        exact ⟨_, _, _, _, _, _, _, _, _, rfl, e7, (o7.mono (Nat.le_trans e10_.size HP.out.gr.size))⟩
      · refine RStep.yes 14 false rfl rfl (by decide +kernel) rfl rfl (fun ac wk hp K hK => ?_)
        have t9_ : ac.tmps[9]?.getD undef = .pointer (some ⟨w6.heap.size, 0, none⟩) := hp.slot 9 rfl rfl
        have c0_ := hp.cell 6 rfl
        have c1_ := hp.cell 7 rfl
        have c2_ := hp.cell 8 rfl
        have HP := Lib.hid hp
        clear hp
        go_simp
        refine hK.out _ _ ?_ (Ext.refl _) (fun h => absurd h (by simp))
        exact ⟨_, _, _, _, _, _, _, _, _, rfl, (e4.gr ((y7.gr.trans (x8.gr.trans (x9.gr.trans y10.gr))).trans HP.out.gr)), ((o4.gr ((y7.gr.trans (x8.gr.trans (x9.gr.trans y10.gr))).trans HP.out.gr)).mono e5_.size)⟩
      · refine RStep.yes 14 false rfl rfl (by decide +kernel) rfl rfl (fun ac wk hp K hK => ?_)
        obtain ⟨u17b, u17p, u17n, u17c, u17q, u17k, u17d, u17m, u17l, u17e, u17i, u17o⟩ := hp.get 17 (by decide +kernel) rfl
        have t62_ : ac.tmps[62]?.getD undef = .agg #[.bool u17b, .slice u17p u17n u17c, .slice u17q u17k u17d] := slot_is' u17e
        obtain ⟨u18b, u18p, u18n, u18c, u18q, u18k, u18d, u18m, u18l, u18e, u18i, u18o⟩ := hp.get 18 (by decide +kernel) rfl
        have t63_ : ac.tmps[63]?.getD undef = .agg #[.bool u18b, .slice u18p u18n u18c, .slice u18q u18k u18d] := slot_is' u18e
        have HP := Lib.hid hp
        clear hp
        go_simp
        refine (is_is u17i u18i true (decide_eq_true (show ((qa * qb) : Rat) = qc from HM.out))).mono ?_
        rintro e wk' ⟨rfl, ix⟩
        refine hK.out _ _ ?_ ix (fun h => absurd h (by simp))
        exact rfl
      · refine RStep.yes 14 false rfl rfl (by decide +kernel) rfl rfl (fun ac wk hp K hK => ?_)
        have u19e := hp.get 19 (by decide +kernel) rfl
        have t64_ : ac.tmps[64]?.getD undef = .bool true := slot_is' u19e
        have HP := Lib.hid hp
        clear hp
        go_simp
        refine hK.out _ _ ?_ (Ext.refl _) (fun h => absurd h (by simp))
        exact rfl
      · refine RStep.op rfl rfl (fun ac wk hp K hK => ?_)
        have u14e := hp.get 14 (by decide +kernel) rfl
        have t59_ : ac.tmps[59]?.getD undef = .bool false := slot_is' u14e
        have u20e := hp.get 20 (by decide +kernel) rfl
        have t65_ : ac.tmps[65]?.getD undef = .bool false := slot_is' u20e
        have HP := Lib.hid hp
        clear hp
        go_simp
        refine hK.out _ _ ?_ (Ext.refl _) (fun h => absurd h (by simp))
        exact rfl
      · refine RStep.op rfl rfl (fun ac wk hp K hK => ?_)
        have u21e := hp.get 21 (by decide +kernel) rfl
        have t66_ : ac.tmps[66]?.getD undef = .bool false := slot_is' u21e
        have HP := Lib.hid hp
        clear hp
        go_simp
        refine hK.out _ _ ?_ (Ext.refl _) (fun h => absurd h (by simp))
        exact rfl
      · refine RStep.yes 22 false rfl rfl (by decide +kernel) rfl rfl (fun ac wk hp K hK => ?_)
        have t11_ : ac.tmps[11]?.getD undef = .pointer (some ⟨w9.heap.size, 0, none⟩) := hp.slot 11 rfl rfl
        have c0_ := hp.cell 9 rfl
        have c1_ := hp.cell 10 rfl
        have c2_ := hp.cell 11 rfl
        have HP := Lib.hid hp
        clear hp
        go_simp
        refine hK.out _ _ ?_ (Ext.refl _) (fun h => absurd h (by simp))
        exact ⟨_, _, _, _, _, _, _, _, _, rfl, (e6.gr (y10.gr.trans HP.out.gr)), ((o6.gr (y10.gr.trans HP.out.gr)).mono e8_.size)⟩
      · refine RStep.yes 22 false rfl rfl (by decide +kernel) rfl rfl (fun ac wk hp K hK => ?_)
        have t5_ : ac.tmps[5]?.getD undef = .pointer (some ⟨w2.heap.size, 0, none⟩) := hp.slot 5 rfl rfl
        have c0_ := hp.cell 0 rfl
        have c1_ := hp.cell 1 rfl
        have c2_ := hp.cell 2 rfl
        have HP := Lib.hid hp
        clear hp
        go_simp
        refine hK.out _ _ ?_ (Ext.refl _) (fun h => absurd h (by simp))
        exact ⟨_, _, _, _, _, _, _, _, _, rfl, (e2.gr ((y3.gr.trans (x4.gr.trans (y5.gr.trans (x6.gr.trans (y7.gr.trans (x8.gr.trans (x9.gr.trans y10.gr))))))).trans HP.out.gr)), ((o2.gr ((y3.gr.trans (x4.gr.trans (y5.gr.trans (x6.gr.trans (y7.gr.trans (x8.gr.trans (x9.gr.trans y10.gr))))))).trans HP.out.gr)).mono e1_.size)⟩
      · refine RStep.yes 22 false rfl rfl (by decide +kernel) rfl rfl (fun ac wk hp K hK => ?_)
        obtain ⟨u23b, u23p, u23n, u23c, u23q, u23k, u23d, u23m, u23l, u23e, u23i, u23o⟩ := hp.get 23 (by decide +kernel) rfl
        have t68_ : ac.tmps[68]?.getD undef = .agg #[.bool u23b, .slice u23p u23n u23c, .slice u23q u23k u23d] := slot_is' u23e
        obtain ⟨u24b, u24p, u24n, u24c, u24q, u24k, u24d, u24m, u24l, u24e, u24i, u24o⟩ := hp.get 24 (by decide +kernel) rfl
        have t69_ : ac.tmps[69]?.getD undef = .agg #[.bool u24b, .slice u24p u24n u24c, .slice u24q u24k u24d] := slot_is' u24e
        have HP := Lib.hid hp
        clear hp
        go_simp
        refine (is_is u23i u24i true (decide_eq_true (show ((mkRat 1 2 ^ 0) : Rat) = qa from HPE.out))).mono ?_
        rintro e wk' ⟨rfl, ix⟩
        refine hK.out _ _ ?_ ix (fun h => absurd h (by simp))
        exact rfl
      · refine RStep.yes 22 false rfl rfl (by decide +kernel) rfl rfl (fun ac wk hp K hK => ?_)
        have u25e := hp.get 25 (by decide +kernel) rfl
        have t70_ : ac.tmps[70]?.getD undef = .bool true := slot_is' u25e
        have HP := Lib.hid hp
        clear hp
        go_simp
        refine hK.out _ _ ?_ (Ext.refl _) (fun h => absurd h (by simp))
        exact rfl
      · refine RStep.op rfl rfl (fun ac wk hp K hK => ?_)
        have u22e := hp.get 22 (by decide +kernel) rfl
        have t67_ : ac.tmps[67]?.getD undef = .bool false := slot_is' u22e
        have u26e := hp.get 26 (by decide +kernel) rfl
        have t71_ : ac.tmps[71]?.getD undef = .bool false := slot_is' u26e
        have HP := Lib.hid hp
        clear hp
        go_simp
        refine hK.out _ _ ?_ (Ext.refl _) (fun h => absurd h (by simp))
        exact rfl
    case he =>
      intro ac v11 hM
      have y1_0e := hM.post 0 rfl rfl
      have y1_1e := hM.post 1 rfl rfl
      have y1_2e := hM.post 2 rfl rfl
      have y1_3e := hM.post 3 rfl rfl
      have y1_4e := hM.post 4 rfl rfl
      have y1_5e := hM.post 5 rfl rfl
      have y1_6e := hM.post 6 rfl rfl
      have y1_7e := hM.post 7 rfl rfl
      have y1_8e := hM.post 8 rfl rfl
      have y1_9e := hM.post 9 rfl rfl
      have y1_10e := hM.post 10 rfl rfl
      have y1_11e := hM.post 11 rfl rfl
      have y1_12e := hM.post 12 rfl rfl
      have y1_13e := hM.post 13 rfl rfl
      have y1_14e := hM.post 14 rfl rfl
      obtain ⟨y1_15b, y1_15p, y1_15n, y1_15c, y1_15q, y1_15k, y1_15d, y1_15m, y1_15l, y1_15e, y1_15i, y1_15o⟩ := hM.post 15 rfl rfl
      obtain ⟨y1_16b, y1_16p, y1_16n, y1_16c, y1_16q, y1_16k, y1_16d, y1_16m, y1_16l, y1_16e, y1_16i, y1_16o⟩ := hM.post 16 rfl rfl
      obtain ⟨y1_17b, y1_17p, y1_17n, y1_17c, y1_17q, y1_17k, y1_17d, y1_17m, y1_17l, y1_17e, y1_17i, y1_17o⟩ := hM.post 17 rfl rfl
      obtain ⟨y1_18b, y1_18p, y1_18n, y1_18c, y1_18q, y1_18k, y1_18d, y1_18m, y1_18l, y1_18e, y1_18i, y1_18o⟩ := hM.post 18 rfl rfl
      have y1_19e := hM.post 19 rfl rfl
      have y1_20e := hM.post 20 rfl rfl
      have y1_21e := hM.post 21 rfl rfl
      have y1_22e := hM.post 22 rfl rfl
      obtain ⟨y1_23b, y1_23p, y1_23n, y1_23c, y1_23q, y1_23k, y1_23d, y1_23m, y1_23l, y1_23e, y1_23i, y1_23o⟩ := hM.post 23 rfl rfl
      obtain ⟨y1_24b, y1_24p, y1_24n, y1_24c, y1_24q, y1_24k, y1_24d, y1_24m, y1_24l, y1_24e, y1_24i, y1_24o⟩ := hM.post 24 rfl rfl
      have y1_25e := hM.post 25 rfl rfl
      have y1_26e := hM.post 26 rfl rfl
      have y1_27e := hM.post 27 rfl rfl
      have b0_0 : Hid (At (w2.heap.size) 0 (.bool sb2) v11) := Lib.hid (hM.keep.at 0 rfl)
      have b0_1 : Hid (At (w2.heap.size) 1 (.slice sp2 sl2 sc2) v11) := Lib.hid (hM.keep.at 1 rfl)
      have b0_2 : Hid (At (w2.heap.size) 2 (.slice tp2 tl2 tc2) v11) := Lib.hid (hM.keep.at 2 rfl)
      have b1_0 : Hid (At (w4.heap.size) 0 (.bool sb3) v11) := Lib.hid (hM.keep.at 3 rfl)
      have b1_1 : Hid (At (w4.heap.size) 1 (.slice sp3 sl3 sc3) v11) := Lib.hid (hM.keep.at 4 rfl)
      have b1_2 : Hid (At (w4.heap.size) 2 (.slice tp3 tl3 tc3) v11) := Lib.hid (hM.keep.at 5 rfl)
      have b2_0 : Hid (At (w6.heap.size) 0 (.bool sb4) v11) := Lib.hid (hM.keep.at 6 rfl)
      have b2_1 : Hid (At (w6.heap.size) 1 (.slice sp4 sl4 sc4) v11) := Lib.hid (hM.keep.at 7 rfl)
      have b2_2 : Hid (At (w6.heap.size) 2 (.slice tp4 tl4 tc4) v11) := Lib.hid (hM.keep.at 8 rfl)
      have b3_0 : Hid (At (w9.heap.size) 0 (.bool sb6) v11) := Lib.hid (hM.keep.at 9 rfl)
      have b3_1 : Hid (At (w9.heap.size) 1 (.slice sp6 sl6 sc6) v11) := Lib.hid (hM.keep.at 10 rfl)
      have b3_2 : Hid (At (w9.heap.size) 2 (.slice tp6 tl6 tc6) v11) := Lib.hid (hM.keep.at 11 rfl)
      have gv11 : Gr v10 v11 := hM.gr
      have e11_ : Ext w v11 := Ext.below e10_ hM.blw
      have z0_ : sl ac 45 = .int .i64 0 := y1_0e
      have z1_ : sl ac 46 = .bool false := y1_1e
      have z2_ : sl ac 47 = .bool false := y1_2e
      have z3_ : sl ac 48 = .int .i64 0 := y1_3e
      have z4_ : sl ac 49 = .bool false := y1_4e
      have z5_ : sl ac 50 = .bool false := y1_5e
      have z6_ : sl ac 51 = .bool false := y1_6e
      have z7_ : sl ac 52 = .int .i64 0 := y1_7e
      have z8_ : sl ac 53 = .bool false := y1_8e
      have z9_ : sl ac 54 = .bool false := y1_9e
      have z10_ : sl ac 55 = .bool false := y1_10e
      have z11_ : sl ac 56 = .int .i64 0 := y1_11e
      have z12_ : sl ac 57 = .bool false := y1_12e
      have z13_ : sl ac 58 = .bool false := y1_13e
      have z14_ : sl ac 59 = .bool false := y1_14e
      have z15_ : sl ac 60 = .agg #[.bool y1_15b, .slice y1_15p y1_15n y1_15c, .slice y1_15q y1_15k y1_15d] := y1_15e
      have z16_ : sl ac 61 = .agg #[.bool y1_16b, .slice y1_16p y1_16n y1_16c, .slice y1_16q y1_16k y1_16d] := y1_16e
      have z17_ : sl ac 62 = .agg #[.bool y1_17b, .slice y1_17p y1_17n y1_17c, .slice y1_17q y1_17k y1_17d] := y1_17e
      have z18_ : sl ac 63 = .agg #[.bool y1_18b, .slice y1_18p y1_18n y1_18c, .slice y1_18q y1_18k y1_18d] := y1_18e
      have z19_ : sl ac 64 = .bool true := y1_19e
      have z20_ : sl ac 65 = .bool false := y1_20e
      have z21_ : sl ac 66 = .bool false := y1_21e
      have z22_ : sl ac 67 = .bool false := y1_22e
      have z23_ : sl ac 68 = .agg #[.bool y1_23b, .slice y1_23p y1_23n y1_23c, .slice y1_23q y1_23k y1_23d] := y1_23e
      have z24_ : sl ac 69 = .agg #[.bool y1_24b, .slice y1_24p y1_24n y1_24c, .slice y1_24q y1_24k y1_24d] := y1_24e
      have z25_ : sl ac 70 = .bool true := y1_25e
      have z26_ : sl ac 71 = .bool false := y1_26e
      have z27_ : sl ac 72 = .bool false := y1_27e
      rw [hM.ag.lay]
      simp only [lay, List.foldl_cons, List.foldl_nil, List.setIfInBounds_toArray, List.set_cons_zero, List.set_cons_succ, z0_, z1_, z2_, z3_, z4_, z5_, z6_, z7_, z8_, z9_, z10_, z11_, z12_, z13_, z14_, z15_, z16_, z17_, z18_, z19_, z20_, z21_, z22_, z23_, z24_, z25_, z26_, z27_]
      clear hM hkeep1 hob1 hne1 z0_ z1_ z2_ z3_ z4_ z5_ z6_ z7_ z8_ z9_ z10_ z11_ z12_ z13_ z14_ z15_ z16_ z17_ z18_ z19_ z20_ z21_ z22_ z23_ z24_ z25_ z26_ z27_ y1_0e y1_1e y1_2e y1_3e y1_4e y1_5e y1_6e y1_7e y1_8e y1_9e y1_10e y1_11e y1_12e y1_13e y1_14e y1_15e y1_16e y1_17e y1_18e y1_19e y1_20e y1_21e y1_22e y1_23e y1_24e y1_25e y1_26e y1_27e
      have g0_0 := b0_0.out.1
      have g0_1 := b0_1.out.1
      have g0_2 := b0_2.out.1
      have f0 : w2.heap.size < v11.heap.size := b0_0.out.2
      go_wp2_with fail
      refine (rshow_is ((e2.gr (y3.gr.trans (x4.gr.trans (y5.gr.trans (x6.gr.trans (y7.gr.trans (x8.gr.trans (x9.gr.trans (y10.gr.trans gv11))))))))).inR (k := 9) HAl.out) (by decide) ⟨#[49]⟩ HSH.out).mono ?_
      rintro e w12 ⟨rfl, x12⟩
      have e12_ : Ext w w12 := Ext.trans e11_ x12
      clear g0_0 g0_1 g0_2 f0
      go_wp2_with fail
      go_ret
      exact ⟨rfl, e12_⟩
  · obtain ⟨k, hk⟩ : ∃ k, a = k + 1 := ⟨a - 1, by omega⟩
    obtain ⟨qd, hqd⟩ : ∃ q, hf k = q := ⟨_, rfl⟩
    have HD : Hid (mkRat 1 (2 ^ ((a : Int) - 1).toNat) = qd) := by show _ = _; rw [show ((a : Int) - 1).toNat = k by omega]; exact hqd
    have HDr : Hid (0 ≤ (a : Int) - 1 ∧ (a : Int) - 1 ≤ 65536) := ⟨by omega, by omega⟩
    have HDl : Hid (LenR 9 qd) := by rw [← hqd]; exact hf_len (by omega)
    have HAD : Hid (qa + qa = qd) := by show _ = _; rw [← hqa, ← hqd, hk, hf_twice]
    have HCM : Hid (cmpR qa qd = -1) := by show _ = _; rw [← hqa, ← hqd, hk, hf_less]
    have hab : ((a : Int) == 0) = false := by rw [beq_eq_false_iff_ne]; omega
    have ha1 : (1 : Int) ≤ (a : Int) := by omega
    clear hqa hqd h0 hk
    go_enter Tryz.func7, Tryz.ntmps7
    go_wp2_with fail
    refine (awake06_calls _).mono ?_
    rintro e w1 ⟨rfl, x1⟩
    have e1_ : Ext w w1 := Ext.trans (Ext.refl w) x1
    go_wp2_with fail
    refine (half_is (q := qa) _ (a : Int) HAr.out HA.out).mono ?_
    rintro e w2 ⟨sb2, sv2, su2, sm2, sd2, rfl, e2, o2, x2⟩
    have e2_ : Ext w w2 := Ext.trans e1_ x2
    obtain ⟨sp2, sl2, sc2, tp2, tl2, tc2, rfl, rfl⟩ := e2.slice
    go_wp2_with fail
    obtain ⟨v3, hv3⟩ : ∃ W, W = (w2.alloc (.cells #[.bool sb2, .slice sp2 sl2 sc2, .slice tp2 tl2 tc2] 27)) := ⟨_, rfl⟩
    have y3 : Ext w2 v3 := by rw [hv3]; exact ((Ext.refl _).alloc _)
    have b0_0 : Hid (At (w2.heap.size) 0 (.bool sb2) v3) := by rw [hv3]; exact At.ext (At.n0 (by rfl)) (Ext.refl _)
    have b0_1 : Hid (At (w2.heap.size) 1 (.slice sp2 sl2 sc2) v3) := by rw [hv3]; exact At.ext (At.n0 (by rfl)) (Ext.refl _)
    have b0_2 : Hid (At (w2.heap.size) 2 (.slice tp2 tl2 tc2) v3) := by rw [hv3]; exact At.ext (At.n0 (by rfl)) (Ext.refl _)
    have k0 : Hid (Bx 3 (w2.heap.size) v3) := by rw [hv3]; exact Bx.gr (Bx.n0 3 ⟨rfl, by decide⟩ (by decide) noI_s3) (Ext.gr (Ext.refl _))
    have u0 : Hid (w2.heap.size < v3.heap.size) := b0_0.out.2
    have e3_ : Ext w v3 := Ext.trans e2_ y3
    rw [← hv3]
    clear hv3
    refine (half_is (q := qb) _ (b : Int) HBr.out HB.out).mono ?_
    rintro e w4 ⟨sb3, sv3, su3, sm3, sd3, rfl, e3, o3, x4⟩
    have e4_ : Ext w w4 := Ext.trans e3_ x4
    obtain ⟨sp3, sl3, sc3, tp3, tl3, tc3, rfl, rfl⟩ := e3.slice
    go_wp2_with fail
    obtain ⟨v5, hv5⟩ : ∃ W, W = (w4.alloc (.cells #[.bool sb3, .slice sp3 sl3 sc3, .slice tp3 tl3 tc3] 27)) := ⟨_, rfl⟩
    have y5 : Ext w4 v5 := by rw [hv5]; exact ((Ext.refl _).alloc _)
    have b1_0 : Hid (At (w4.heap.size) 0 (.bool sb3) v5) := by rw [hv5]; exact At.ext (At.n0 (by rfl)) (Ext.refl _)
    have b1_1 : Hid (At (w4.heap.size) 1 (.slice sp3 sl3 sc3) v5) := by rw [hv5]; exact At.ext (At.n0 (by rfl)) (Ext.refl _)
    have b1_2 : Hid (At (w4.heap.size) 2 (.slice tp3 tl3 tc3) v5) := by rw [hv5]; exact At.ext (At.n0 (by rfl)) (Ext.refl _)
    have k1 : Hid (Bx 3 (w4.heap.size) v5) := by rw [hv5]; exact Bx.gr (Bx.n0 3 ⟨rfl, by decide⟩ (by decide) noI_s3) (Ext.gr (Ext.refl _))
    have u1 : Hid (w4.heap.size < v5.heap.size) := b1_0.out.2
    have e5_ : Ext w v5 := Ext.trans e4_ y5
    rw [← hv5]
    clear hv5
    refine (half_is (q := qc) _ ((a : Int) + (b : Int)) HCr.out HC.out).mono ?_
    rintro e w6 ⟨sb4, sv4, su4, sm4, sd4, rfl, e4, o4, x6⟩
    have e6_ : Ext w w6 := Ext.trans e5_ x6
    obtain ⟨sp4, sl4, sc4, tp4, tl4, tc4, rfl, rfl⟩ := e4.slice
    go_wp2_with fail
    obtain ⟨v7, hv7⟩ : ∃ W, W = (w6.alloc (.cells #[.bool sb4, .slice sp4 sl4 sc4, .slice tp4 tl4 tc4] 27)) := ⟨_, rfl⟩
    have y7 : Ext w6 v7 := by rw [hv7]; exact ((Ext.refl _).alloc _)
    have b2_0 : Hid (At (w6.heap.size) 0 (.bool sb4) v7) := by rw [hv7]; exact At.ext (At.n0 (by rfl)) (Ext.refl _)
    have b2_1 : Hid (At (w6.heap.size) 1 (.slice sp4 sl4 sc4) v7) := by rw [hv7]; exact At.ext (At.n0 (by rfl)) (Ext.refl _)
    have b2_2 : Hid (At (w6.heap.size) 2 (.slice tp4 tl4 tc4) v7) := by rw [hv7]; exact At.ext (At.n0 (by rfl)) (Ext.refl _)
    have k2 : Hid (Bx 3 (w6.heap.size) v7) := by rw [hv7]; exact Bx.gr (Bx.n0 3 ⟨rfl, by decide⟩ (by decide) noI_s3) (Ext.gr (Ext.refl _))
    have u2 : Hid (w6.heap.size < v7.heap.size) := b2_0.out.2
    have e7_ : Ext w v7 := Ext.trans e6_ y7
    rw [← hv7]
    clear hv7
    refine (lover_is (q := mkRat 1 2) _ 1 2 (by decide) (by decide) (by decide) (by decide) (by decide) (by decide +kernel)).mono ?_
    rintro e w8 ⟨sb5, sv5, su5, sm5, sd5, rfl, e5, o5, x8⟩
    have e8_ : Ext w w8 := Ext.trans e7_ x8
    obtain ⟨sp5, sl5, sc5, tp5, tl5, tc5, rfl, rfl⟩ := e5.slice
    go_wp2_with fail
    refine (rpow_is (e5.inR (k := 1) (lenR_over (n := 1) (d := 2) (q := mkRat 1 2) (by decide) (by decide) (by decide) (by decide) (by decide +kernel))) (by decide) a HP0.out HP1.out HP2.out).mono ?_
    rintro e w9 ⟨sb6, sv6, su6, sm6, sd6, rfl, e6, o6, x9⟩
    have e9_ : Ext w w9 := Ext.trans e8_ x9
    obtain ⟨sp6, sl6, sc6, tp6, tl6, tc6, rfl, rfl⟩ := e6.slice
    go_wp2_with fail
    obtain ⟨v10, hv10⟩ : ∃ W, W = (w9.alloc (.cells #[.bool sb6, .slice sp6 sl6 sc6, .slice tp6 tl6 tc6] 27)) := ⟨_, rfl⟩
    have y10 : Ext w9 v10 := by rw [hv10]; exact ((Ext.refl _).alloc _)
    have b3_0 : Hid (At (w9.heap.size) 0 (.bool sb6) v10) := by rw [hv10]; exact At.ext (At.n0 (by rfl)) (Ext.refl _)
    have b3_1 : Hid (At (w9.heap.size) 1 (.slice sp6 sl6 sc6) v10) := by rw [hv10]; exact At.ext (At.n0 (by rfl)) (Ext.refl _)
    have b3_2 : Hid (At (w9.heap.size) 2 (.slice tp6 tl6 tc6) v10) := by rw [hv10]; exact At.ext (At.n0 (by rfl)) (Ext.refl _)
    have k3 : Hid (Bx 3 (w9.heap.size) v10) := by rw [hv10]; exact Bx.gr (Bx.n0 3 ⟨rfl, by decide⟩ (by decide) noI_s3) (Ext.gr (Ext.refl _))
    have u3 : Hid (w9.heap.size < v10.heap.size) := b3_0.out.2
    have e10_ : Ext w v10 := Ext.trans e9_ y10
    rw [← hv10]
    clear hv10
    have hkeep1 : AllAt' ([(w2.heap.size, 0, .bool sb2), (w2.heap.size, 1, .slice sp2 sl2 sc2), (w2.heap.size, 2, .slice tp2 tl2 tc2), (w4.heap.size, 0, .bool sb3), (w4.heap.size, 1, .slice sp3 sl3 sc3), (w4.heap.size, 2, .slice tp3 tl3 tc3), (w6.heap.size, 0, .bool sb4), (w6.heap.size, 1, .slice sp4 sl4 sc4), (w6.heap.size, 2, .slice tp4 tl4 tc4), (w9.heap.size, 0, .bool sb6), (w9.heap.size, 1, .slice sp6 sl6 sc6), (w9.heap.size, 2, .slice tp6 tl6 tc6)] : List (Nat × Nat × Value)) v10 := AllAt'.cons (b0_0.out.ext (x4.trans (y5.trans (x6.trans (y7.trans (x8.trans (x9.trans y10))))))) (AllAt'.cons (b0_1.out.ext (x4.trans (y5.trans (x6.trans (y7.trans (x8.trans (x9.trans y10))))))) (AllAt'.cons (b0_2.out.ext (x4.trans (y5.trans (x6.trans (y7.trans (x8.trans (x9.trans y10))))))) (AllAt'.cons (b1_0.out.ext (x6.trans (y7.trans (x8.trans (x9.trans y10))))) (AllAt'.cons (b1_1.out.ext (x6.trans (y7.trans (x8.trans (x9.trans y10))))) (AllAt'.cons (b1_2.out.ext (x6.trans (y7.trans (x8.trans (x9.trans y10))))) (AllAt'.cons (b2_0.out.ext (x8.trans (x9.trans y10))) (AllAt'.cons (b2_1.out.ext (x8.trans (x9.trans y10))) (AllAt'.cons (b2_2.out.ext (x8.trans (x9.trans y10))) (AllAt'.cons b3_0.out (AllAt'.cons b3_1.out (AllAt'.cons b3_2.out (AllAt'.nil _))))))))))))
    have hob1 : ObOk w.heap.size v10 (([(w2.heap.size, 0, .bool sb2), (w2.heap.size, 1, .slice sp2 sl2 sc2), (w2.heap.size, 2, .slice tp2 tl2 tc2), (w4.heap.size, 0, .bool sb3), (w4.heap.size, 1, .slice sp3 sl3 sc3), (w4.heap.size, 2, .slice tp3 tl3 tc3), (w6.heap.size, 0, .bool sb4), (w6.heap.size, 1, .slice sp4 sl4 sc4), (w6.heap.size, 2, .slice tp4 tl4 tc4), (w9.heap.size, 0, .bool sb6), (w9.heap.size, 1, .slice sp6 sl6 sc6), (w9.heap.size, 2, .slice tp6 tl6 tc6)] : List (Nat × Nat × Value)).map (·.1)) ([] : List (Nat × List (Nat × Value))) := trivial
    have hne1 : AllNe (([] : List (Nat × List (Nat × Value))).map (·.1)) := trivial
    (try simp only [List.append_eq, List.cons_append, List.nil_append])
    refine wp_region_gen ⟨[45, 46, 47, 48, 49, 50, 51, 52, 53, 54, 55, 56, 57, 58, 59, 60, 61, 62, 63, 64, 65, 66, 67, 68, 69, 70, 71, 72], fun i => false, fun i => ([none, none, none, none, none, none, none, none, none, none, none, none, none, none, none, none, none, none, none, none, none, none, none, none, none, none, none, none] : List (Option (BoxRef × Nat))).getD i none, fun i => ([Sg.val (.int .i64 0), Sg.val (.bool false), Sg.val (.bool false), Sg.val (.int .i64 0), Sg.val (.bool false), Sg.val (.bool false), Sg.val (.bool false), Sg.val (.int .i64 0), Sg.val (.bool false), Sg.val (.bool false), Sg.val (.bool false), Sg.val (.int .i64 0), Sg.val (.bool false), Sg.val (.bool false), Sg.val (.bool false), Sg.ratO w.heap.size qa, Sg.ratO w.heap.size qb, Sg.ratO w.heap.size (qa * qb), Sg.ratO w.heap.size qc, Sg.val (.bool true), Sg.val (.bool false), Sg.val (.bool false), Sg.val (.bool false), Sg.ratO w.heap.size (mkRat 1 2 ^ a), Sg.ratO w.heap.size qa, Sg.val (.bool true), Sg.val (.bool false), Sg.val (.bool false)] : List Sg).getD i Sg.any, [(w2.heap.size, 0, .bool sb2), (w2.heap.size, 1, .slice sp2 sl2 sc2), (w2.heap.size, 2, .slice tp2 tl2 tc2), (w4.heap.size, 0, .bool sb3), (w4.heap.size, 1, .slice sp3 sl3 sc3), (w4.heap.size, 2, .slice tp3 tl3 tc3), (w6.heap.size, 0, .bool sb4), (w6.heap.size, 1, .slice sp4 sl4 sc4), (w6.heap.size, 2, .slice tp4 tl4 tc4), (w9.heap.size, 0, .bool sb6), (w9.heap.size, 1, .slice sp6 sl6 sc6), (w9.heap.size, 2, .slice tp6 tl6 tc6)], []⟩ w.heap.size (by kernel_rfl) (by kernel_rfl) e10_.size ?hfr hkeep1 hob1 hne1 ?hs ?he
    case hfr =>
      intro i v wk hi hst hv
      exact absurd hi (by simp)
    case hs =>
      refine ⟨?_, ?_, ?_, ?_, ?_, ?_, ?_, ?_, ?_, ?_, ?_, ?_, ?_, ?_, ?_, ?_, ?_, ?_, ?_, ?_, ?_, ?_, ?_, ?_, ?_, ?_, ?_, ?_, trivial⟩
      · refine RStep.op rfl rfl (fun ac wk hp K hK => ?_)
        have t6_ : ac.tmps[6]?.getD undef = .int .i64 0 := hp.slot 6 rfl rfl
        have HP := Lib.hid hp
        clear hp
        go_simp
        refine hK.out _ _ ?_ (Ext.refl _) (fun h => absurd h (by simp))
        exact rfl
      · refine RStep.op rfl rfl (fun ac wk hp K hK => ?_)
        have u0e := hp.get 0 (by decide +kernel) rfl
        have t45_ : ac.tmps[45]?.getD undef = .int .i64 0 := slot_is' u0e
        have HP := Lib.hid hp
        clear hp
        go_simp
        refine hK.out _ _ ?_ (Ext.refl _) (fun h => absurd h (by simp))
        exact rfl
      · refine RStep.op rfl rfl (fun ac wk hp K hK => ?_)
        have u1e := hp.get 1 (by decide +kernel) rfl
        have t46_ : ac.tmps[46]?.getD undef = .bool false := slot_is' u1e
        have HP := Lib.hid hp
        clear hp
        go_simp
        refine hK.out _ _ ?_ (Ext.refl _) (fun h => absurd h (by simp))
        exact rfl
      · refine RStep.yes 2 false rfl rfl (by decide +kernel) rfl rfl (fun ac wk hp K hK => ?_)
        have t8_ : ac.tmps[8]?.getD undef = .int .i64 0 := hp.slot 8 rfl rfl
        have HP := Lib.hid hp
        clear hp
        go_simp
        refine hK.out _ _ ?_ (Ext.refl _) (fun h => absurd h (by simp))
        exact rfl
      · refine RStep.yes 2 false rfl rfl (by decide +kernel) rfl rfl (fun ac wk hp K hK => ?_)
        have u3e := hp.get 3 (by decide +kernel) rfl
        have t48_ : ac.tmps[48]?.getD undef = .int .i64 0 := slot_is' u3e
        have HP := Lib.hid hp
        clear hp
        go_simp
        refine hK.out _ _ ?_ (Ext.refl _) (fun h => absurd h (by simp))
        exact rfl
      · refine RStep.op rfl rfl (fun ac wk hp K hK => ?_)
        have u2e := hp.get 2 (by decide +kernel) rfl
        have t47_ : ac.tmps[47]?.getD undef = .bool false := slot_is' u2e
        have u4e := hp.get 4 (by decide +kernel) rfl
        have t49_ : ac.tmps[49]?.getD undef = .bool false := slot_is' u4e
        have HP := Lib.hid hp
        clear hp
        go_simp
        refine hK.out _ _ ?_ (Ext.refl _) (fun h => absurd h (by simp))
        exact rfl
      · refine RStep.op rfl rfl (fun ac wk hp K hK => ?_)
        have u5e := hp.get 5 (by decide +kernel) rfl
        have t50_ : ac.tmps[50]?.getD undef = .bool false := slot_is' u5e
        have HP := Lib.hid hp
        clear hp
        go_simp
        refine hK.out _ _ ?_ (Ext.refl _) (fun h => absurd h (by simp))
        exact rfl
      · refine RStep.yes 6 false rfl rfl (by decide +kernel) rfl rfl (fun ac wk hp K hK => ?_)
        have t10_ : ac.tmps[10]?.getD undef = .int .i64 0 := hp.slot 10 rfl rfl
        have HP := Lib.hid hp
        clear hp
        go_simp
        refine hK.out _ _ ?_ (Ext.refl _) (fun h => absurd h (by simp))
        exact rfl
      · refine RStep.yes 6 false rfl rfl (by decide +kernel) rfl rfl (fun ac wk hp K hK => ?_)
        have u7e := hp.get 7 (by decide +kernel) rfl
        have t52_ : ac.tmps[52]?.getD undef = .int .i64 0 := slot_is' u7e
        have HP := Lib.hid hp
        clear hp
        go_simp
        refine hK.out _ _ ?_ (Ext.refl _) (fun h => absurd h (by simp))
        exact rfl
      · refine RStep.op rfl rfl (fun ac wk hp K hK => ?_)
        have u6e := hp.get 6 (by decide +kernel) rfl
        have t51_ : ac.tmps[51]?.getD undef = .bool false := slot_is' u6e
        have u8e := hp.get 8 (by decide +kernel) rfl
        have t53_ : ac.tmps[53]?.getD undef = .bool false := slot_is' u8e
        have HP := Lib.hid hp
        clear hp
        go_simp
        refine hK.out _ _ ?_ (Ext.refl _) (fun h => absurd h (by simp))
        exact rfl
      · refine RStep.op rfl rfl (fun ac wk hp K hK => ?_)
        have u9e := hp.get 9 (by decide +kernel) rfl
        have t54_ : ac.tmps[54]?.getD undef = .bool false := slot_is' u9e
        have HP := Lib.hid hp
        clear hp
        go_simp
        refine hK.out _ _ ?_ (Ext.refl _) (fun h => absurd h (by simp))
        exact rfl
      · refine RStep.yes 10 false rfl rfl (by decide +kernel) rfl rfl (fun ac wk hp K hK => ?_)
        have t12_ : ac.tmps[12]?.getD undef = .int .i64 0 := hp.slot 12 rfl rfl
        have HP := Lib.hid hp
        clear hp
        go_simp
        refine hK.out _ _ ?_ (Ext.refl _) (fun h => absurd h (by simp))
        exact rfl
      · refine RStep.yes 10 false rfl rfl (by decide +kernel) rfl rfl (fun ac wk hp K hK => ?_)
        have u11e := hp.get 11 (by decide +kernel) rfl
        have t56_ : ac.tmps[56]?.getD undef = .int .i64 0 := slot_is' u11e
        have HP := Lib.hid hp
        clear hp
        go_simp
        refine hK.out _ _ ?_ (Ext.refl _) (fun h => absurd h (by simp))
        exact rfl
      · refine RStep.op rfl rfl (fun ac wk hp K hK => ?_)
        have u10e := hp.get 10 (by decide +kernel) rfl
        have t55_ : ac.tmps[55]?.getD undef = .bool false := slot_is' u10e
        have u12e := hp.get 12 (by decide +kernel) rfl
        have t57_ : ac.tmps[57]?.getD undef = .bool false := slot_is' u12e
        have HP := Lib.hid hp
        clear hp
        go_simp
        refine hK.out _ _ ?_ (Ext.refl _) (fun h => absurd h (by simp))
        exact rfl
      · refine RStep.op rfl rfl (fun ac wk hp K hK => ?_)
        have u13e := hp.get 13 (by decide +kernel) rfl
        have t58_ : ac.tmps[58]?.getD undef = .bool false := slot_is' u13e
        have HP := Lib.hid hp
        clear hp
        go_simp
        refine hK.out _ _ ?_ (Ext.refl _) (fun h => absurd h (by simp))
        exact rfl
      · refine RStep.yes 14 false rfl rfl (by decide +kernel) rfl rfl (fun ac wk hp K hK => ?_)
        have t5_ : ac.tmps[5]?.getD undef = .pointer (some ⟨w2.heap.size, 0, none⟩) := hp.slot 5 rfl rfl
        have c0_ := hp.cell 0 rfl
        have c1_ := hp.cell 1 rfl
        have c2_ := hp.cell 2 rfl
        have HP := Lib.hid hp
        clear hp
        go_simp
        refine hK.out _ _ ?_ (Ext.refl _) (fun h => absurd h (by simp))
        exact ⟨_, _, _, _, _, _, _, _, _, rfl, (e2.gr ((y3.gr.trans (x4.gr.trans (y5.gr.trans (x6.gr.trans (y7.gr.trans (x8.gr.trans (x9.gr.trans y10.gr))))))).trans HP.out.gr)), ((o2.gr ((y3.gr.trans (x4.gr.trans (y5.gr.trans (x6.gr.trans (y7.gr.trans (x8.gr.trans (x9.gr.trans y10.gr))))))).trans HP.out.gr)).mono e1_.size)⟩
      · refine RStep.yes 14 false rfl rfl (by decide +kernel) rfl rfl (fun ac wk hp K hK => ?_)
        have t7_ : ac.tmps[7]?.getD undef = .pointer (some ⟨w4.heap.size, 0, none⟩) := hp.slot 7 rfl rfl
        have c0_ := hp.cell 3 rfl
        have c1_ := hp.cell 4 rfl
        have c2_ := hp.cell 5 rfl
        have HP := Lib.hid hp
        clear hp
        go_simp
        refine hK.out _ _ ?_ (Ext.refl _) (fun h => absurd h (by simp))
        exact ⟨_, _, _, _, _, _, _, _, _, rfl, (e3.gr ((y5.gr.trans (x6.gr.trans (y7.gr.trans (x8.gr.trans (x9.gr.trans y10.gr))))).trans HP.out.gr)), ((o3.gr ((y5.gr.trans (x6.gr.trans (y7.gr.trans (x8.gr.trans (x9.gr.trans y10.gr))))).trans HP.out.gr)).mono e3_.size)⟩
      · refine RStep.yes 14 false rfl rfl (by decide +kernel) rfl rfl (fun ac wk hp K hK => ?_)
        obtain ⟨u15b, u15p, u15n, u15c, u15q, u15k, u15d, u15m, u15l, u15e, u15i, u15o⟩ := hp.get 15 (by decide +kernel) rfl
        have t60_ : ac.tmps[60]?.getD undef = .agg #[.bool u15b, .slice u15p u15n u15c, .slice u15q u15k u15d] := slot_is' u15e
        obtain ⟨u16b, u16p, u16n, u16c, u16q, u16k, u16d, u16m, u16l, u16e, u16i, u16o⟩ := hp.get 16 (by decide +kernel) rfl
        have t61_ : ac.tmps[61]?.getD undef = .agg #[.bool u16b, .slice u16p u16n u16c, .slice u16q u16k u16d] := slot_is' u16e
        have HP := Lib.hid hp
        clear hp
        go_simp
        refine (rmul_is (u15i.inR (k := 9) HAl.out) (u16i.inR (k := 9) HBl.out) (by decide)).mono ?_
        rintro e wk' ⟨sb7, sv7, su7, sm7, sd7, rfl, e7, o7, ix⟩
        obtain ⟨sp7, sl7, sc7, tp7, tl7, tc7, rfl, rfl⟩ := e7.slice
        refine hK.out _ _ ?_ ix (fun h => absurd h (by simp))
        exact ⟨_, _, _, _, _, _, _, _, _, rfl, e7, (o7.mono (Nat.le_trans e10_.size HP.out.gr.size))⟩
      · refine RStep.yes 14 false rfl rfl (by decide +kernel) rfl rfl (fun ac wk hp K hK => ?_)
        have t9_ : ac.tmps[9]?.getD undef = .pointer (some ⟨w6.heap.size, 0, none⟩) := hp.slot 9 rfl rfl
        have c0_ := hp.cell 6 rfl
        have c1_ := hp.cell 7 rfl
        have c2_ := hp.cell 8 rfl
        have HP := Lib.hid hp
        clear hp
        go_simp
        refine hK.out _ _ ?_ (Ext.refl _) (fun h => absurd h (by simp))
        exact ⟨_, _, _, _, _, _, _, _, _, rfl, (e4.gr ((y7.gr.trans (x8.gr.trans (x9.gr.trans y10.gr))).trans HP.out.gr)), ((o4.gr ((y7.gr.trans (x8.gr.trans (x9.gr.trans y10.gr))).trans HP.out.gr)).mono e5_.size)⟩
      · refine RStep.yes 14 false rfl rfl (by decide +kernel) rfl rfl (fun ac wk hp K hK => ?_)
        obtain ⟨u17b, u17p, u17n, u17c, u17q, u17k, u17d, u17m, u17l, u17e, u17i, u17o⟩ := hp.get 17 (by decide +kernel) rfl
        have t62_ : ac.tmps[62]?.getD undef = .agg #[.bool u17b, .slice u17p u17n u17c, .slice u17q u17k u17d] := slot_is' u17e
        obtain ⟨u18b, u18p, u18n, u18c, u18q, u18k, u18d, u18m, u18l, u18e, u18i, u18o⟩ := hp.get 18 (by decide +kernel) rfl
        have t63_ : ac.tmps[63]?.getD undef = .agg #[.bool u18b, .slice u18p u18n u18c, .slice u18q u18k u18d] := slot_is' u18e
        have HP := Lib.hid hp
        clear hp
        go_simp
        refine (is_is u17i u18i true (decide_eq_true (show ((qa * qb) : Rat) = qc from HM.out))).mono ?_
        rintro e wk' ⟨rfl, ix⟩
        refine hK.out _ _ ?_ ix (fun h => absurd h (by simp))
        exact rfl
      · refine RStep.yes 14 false rfl rfl (by decide +kernel) rfl rfl (fun ac wk hp K hK => ?_)
        have u19e := hp.get 19 (by decide +kernel) rfl
        have t64_ : ac.tmps[64]?.getD undef = .bool true := slot_is' u19e
        have HP := Lib.hid hp
        clear hp
        go_simp
        refine hK.out _ _ ?_ (Ext.refl _) (fun h => absurd h (by simp))
        exact rfl
      · refine RStep.op rfl rfl (fun ac wk hp K hK => ?_)
        have u14e := hp.get 14 (by decide +kernel) rfl
        have t59_ : ac.tmps[59]?.getD undef = .bool false := slot_is' u14e
        have u20e := hp.get 20 (by decide +kernel) rfl
        have t65_ : ac.tmps[65]?.getD undef = .bool false := slot_is' u20e
        have HP := Lib.hid hp
        clear hp
        go_simp
        refine hK.out _ _ ?_ (Ext.refl _) (fun h => absurd h (by simp))
        exact rfl
      · refine RStep.op rfl rfl (fun ac wk hp K hK => ?_)
        have u21e := hp.get 21 (by decide +kernel) rfl
        have t66_ : ac.tmps[66]?.getD undef = .bool false := slot_is' u21e
        have HP := Lib.hid hp
        clear hp
        go_simp
        refine hK.out _ _ ?_ (Ext.refl _) (fun h => absurd h (by simp))
        exact rfl
      · refine RStep.yes 22 false rfl rfl (by decide +kernel) rfl rfl (fun ac wk hp K hK => ?_)
        have t11_ : ac.tmps[11]?.getD undef = .pointer (some ⟨w9.heap.size, 0, none⟩) := hp.slot 11 rfl rfl
        have c0_ := hp.cell 9 rfl
        have c1_ := hp.cell 10 rfl
        have c2_ := hp.cell 11 rfl
        have HP := Lib.hid hp
        clear hp
        go_simp
        refine hK.out _ _ ?_ (Ext.refl _) (fun h => absurd h (by simp))
        exact ⟨_, _, _, _, _, _, _, _, _, rfl, (e6.gr (y10.gr.trans HP.out.gr)), ((o6.gr (y10.gr.trans HP.out.gr)).mono e8_.size)⟩
      · refine RStep.yes 22 false rfl rfl (by decide +kernel) rfl rfl (fun ac wk hp K hK => ?_)
        have t5_ : ac.tmps[5]?.getD undef = .pointer (some ⟨w2.heap.size, 0, none⟩) := hp.slot 5 rfl rfl
        have c0_ := hp.cell 0 rfl
        have c1_ := hp.cell 1 rfl
        have c2_ := hp.cell 2 rfl
        have HP := Lib.hid hp
        clear hp
        go_simp
        refine hK.out _ _ ?_ (Ext.refl _) (fun h => absurd h (by simp))
        exact ⟨_, _, _, _, _, _, _, _, _, rfl, (e2.gr ((y3.gr.trans (x4.gr.trans (y5.gr.trans (x6.gr.trans (y7.gr.trans (x8.gr.trans (x9.gr.trans y10.gr))))))).trans HP.out.gr)), ((o2.gr ((y3.gr.trans (x4.gr.trans (y5.gr.trans (x6.gr.trans (y7.gr.trans (x8.gr.trans (x9.gr.trans y10.gr))))))).trans HP.out.gr)).mono e1_.size)⟩
      · refine RStep.yes 22 false rfl rfl (by decide +kernel) rfl rfl (fun ac wk hp K hK => ?_)
        obtain ⟨u23b, u23p, u23n, u23c, u23q, u23k, u23d, u23m, u23l, u23e, u23i, u23o⟩ := hp.get 23 (by decide +kernel) rfl
        have t68_ : ac.tmps[68]?.getD undef = .agg #[.bool u23b, .slice u23p u23n u23c, .slice u23q u23k u23d] := slot_is' u23e
        obtain ⟨u24b, u24p, u24n, u24c, u24q, u24k, u24d, u24m, u24l, u24e, u24i, u24o⟩ := hp.get 24 (by decide +kernel) rfl
        have t69_ : ac.tmps[69]?.getD undef = .agg #[.bool u24b, .slice u24p u24n u24c, .slice u24q u24k u24d] := slot_is' u24e
        have HP := Lib.hid hp
        clear hp
        go_simp
        refine (is_is u23i u24i true (decide_eq_true (show ((mkRat 1 2 ^ a) : Rat) = qa from HPE.out))).mono ?_
        rintro e wk' ⟨rfl, ix⟩
        refine hK.out _ _ ?_ ix (fun h => absurd h (by simp))
        exact rfl
      · refine RStep.yes 22 false rfl rfl (by decide +kernel) rfl rfl (fun ac wk hp K hK => ?_)
        have u25e := hp.get 25 (by decide +kernel) rfl
        have t70_ : ac.tmps[70]?.getD undef = .bool true := slot_is' u25e
        have HP := Lib.hid hp
        clear hp
        go_simp
        refine hK.out _ _ ?_ (Ext.refl _) (fun h => absurd h (by simp))
        exact rfl
      · refine RStep.op rfl rfl (fun ac wk hp K hK => ?_)
        have u22e := hp.get 22 (by decide +kernel) rfl
        have t67_ : ac.tmps[67]?.getD undef = .bool false := slot_is' u22e
        have u26e := hp.get 26 (by decide +kernel) rfl
        have t71_ : ac.tmps[71]?.getD undef = .bool false := slot_is' u26e
        have HP := Lib.hid hp
        clear hp
        go_simp
        refine hK.out _ _ ?_ (Ext.refl _) (fun h => absurd h (by simp))
        exact rfl
    case he =>
      intro ac v11 hM
      have y1_0e := hM.post 0 rfl rfl
      have y1_1e := hM.post 1 rfl rfl
      have y1_2e := hM.post 2 rfl rfl
      have y1_3e := hM.post 3 rfl rfl
      have y1_4e := hM.post 4 rfl rfl
      have y1_5e := hM.post 5 rfl rfl
      have y1_6e := hM.post 6 rfl rfl
      have y1_7e := hM.post 7 rfl rfl
      have y1_8e := hM.post 8 rfl rfl
      have y1_9e := hM.post 9 rfl rfl
      have y1_10e := hM.post 10 rfl rfl
      have y1_11e := hM.post 11 rfl rfl
      have y1_12e := hM.post 12 rfl rfl
      have y1_13e := hM.post 13 rfl rfl
      have y1_14e := hM.post 14 rfl rfl
      obtain ⟨y1_15b, y1_15p, y1_15n, y1_15c, y1_15q, y1_15k, y1_15d, y1_15m, y1_15l, y1_15e, y1_15i, y1_15o⟩ := hM.post 15 rfl rfl
      obtain ⟨y1_16b, y1_16p, y1_16n, y1_16c, y1_16q, y1_16k, y1_16d, y1_16m, y1_16l, y1_16e, y1_16i, y1_16o⟩ := hM.post 16 rfl rfl
      obtain ⟨y1_17b, y1_17p, y1_17n, y1_17c, y1_17q, y1_17k, y1_17d, y1_17m, y1_17l, y1_17e, y1_17i, y1_17o⟩ := hM.post 17 rfl rfl
      obtain ⟨y1_18b, y1_18p, y1_18n, y1_18c, y1_18q, y1_18k, y1_18d, y1_18m, y1_18l, y1_18e, y1_18i, y1_18o⟩ := hM.post 18 rfl rfl
      have y1_19e := hM.post 19 rfl rfl
      have y1_20e := hM.post 20 rfl rfl
      have y1_21e := hM.post 21 rfl rfl
      have y1_22e := hM.post 22 rfl rfl
      obtain ⟨y1_23b, y1_23p, y1_23n, y1_23c, y1_23q, y1_23k, y1_23d, y1_23m, y1_23l, y1_23e, y1_23i, y1_23o⟩ := hM.post 23 rfl rfl
      obtain ⟨y1_24b, y1_24p, y1_24n, y1_24c, y1_24q, y1_24k, y1_24d, y1_24m, y1_24l, y1_24e, y1_24i, y1_24o⟩ := hM.post 24 rfl rfl
      have y1_25e := hM.post 25 rfl rfl
      have y1_26e := hM.post 26 rfl rfl
      have y1_27e := hM.post 27 rfl rfl
      have b0_0 : Hid (At (w2.heap.size) 0 (.bool sb2) v11) := Lib.hid (hM.keep.at 0 rfl)
      have b0_1 : Hid (At (w2.heap.size) 1 (.slice sp2 sl2 sc2) v11) := Lib.hid (hM.keep.at 1 rfl)
      have b0_2 : Hid (At (w2.heap.size) 2 (.slice tp2 tl2 tc2) v11) := Lib.hid (hM.keep.at 2 rfl)
      have b1_0 : Hid (At (w4.heap.size) 0 (.bool sb3) v11) := Lib.hid (hM.keep.at 3 rfl)
      have b1_1 : Hid (At (w4.heap.size) 1 (.slice sp3 sl3 sc3) v11) := Lib.hid (hM.keep.at 4 rfl)
      have b1_2 : Hid (At (w4.heap.size) 2 (.slice tp3 tl3 tc3) v11) := Lib.hid (hM.keep.at 5 rfl)
      have b2_0 : Hid (At (w6.heap.size) 0 (.bool sb4) v11) := Lib.hid (hM.keep.at 6 rfl)
      have b2_1 : Hid (At (w6.heap.size) 1 (.slice sp4 sl4 sc4) v11) := Lib.hid (hM.keep.at 7 rfl)
      have b2_2 : Hid (At (w6.heap.size) 2 (.slice tp4 tl4 tc4) v11) := Lib.hid (hM.keep.at 8 rfl)
      have b3_0 : Hid (At (w9.heap.size) 0 (.bool sb6) v11) := Lib.hid (hM.keep.at 9 rfl)
      have b3_1 : Hid (At (w9.heap.size) 1 (.slice sp6 sl6 sc6) v11) := Lib.hid (hM.keep.at 10 rfl)
      have b3_2 : Hid (At (w9.heap.size) 2 (.slice tp6 tl6 tc6) v11) := Lib.hid (hM.keep.at 11 rfl)
      have gv11 : Gr v10 v11 := hM.gr
      have e11_ : Ext w v11 := Ext.below e10_ hM.blw
      have z0_ : sl ac 45 = .int .i64 0 := y1_0e
      have z1_ : sl ac 46 = .bool false := y1_1e
      have z2_ : sl ac 47 = .bool false := y1_2e
      have z3_ : sl ac 48 = .int .i64 0 := y1_3e
      have z4_ : sl ac 49 = .bool false := y1_4e
      have z5_ : sl ac 50 = .bool false := y1_5e
      have z6_ : sl ac 51 = .bool false := y1_6e
      have z7_ : sl ac 52 = .int .i64 0 := y1_7e
      have z8_ : sl ac 53 = .bool false := y1_8e
      have z9_ : sl ac 54 = .bool false := y1_9e
      have z10_ : sl ac 55 = .bool false := y1_10e
      have z11_ : sl ac 56 = .int .i64 0 := y1_11e
      have z12_ : sl ac 57 = .bool false := y1_12e
      have z13_ : sl ac 58 = .bool false := y1_13e
      have z14_ : sl ac 59 = .bool false := y1_14e
      have z15_ : sl ac 60 = .agg #[.bool y1_15b, .slice y1_15p y1_15n y1_15c, .slice y1_15q y1_15k y1_15d] := y1_15e
      have z16_ : sl ac 61 = .agg #[.bool y1_16b, .slice y1_16p y1_16n y1_16c, .slice y1_16q y1_16k y1_16d] := y1_16e
      have z17_ : sl ac 62 = .agg #[.bool y1_17b, .slice y1_17p y1_17n y1_17c, .slice y1_17q y1_17k y1_17d] := y1_17e
      have z18_ : sl ac 63 = .agg #[.bool y1_18b, .slice y1_18p y1_18n y1_18c, .slice y1_18q y1_18k y1_18d] := y1_18e
      have z19_ : sl ac 64 = .bool true := y1_19e
      have z20_ : sl ac 65 = .bool false := y1_20e
      have z21_ : sl ac 66 = .bool false := y1_21e
      have z22_ : sl ac 67 = .bool false := y1_22e
      have z23_ : sl ac 68 = .agg #[.bool y1_23b, .slice y1_23p y1_23n y1_23c, .slice y1_23q y1_23k y1_23d] := y1_23e
      have z24_ : sl ac 69 = .agg #[.bool y1_24b, .slice y1_24p y1_24n y1_24c, .slice y1_24q y1_24k y1_24d] := y1_24e
      have z25_ : sl ac 70 = .bool true := y1_25e
      have z26_ : sl ac 71 = .bool false := y1_26e
      have z27_ : sl ac 72 = .bool false := y1_27e
      rw [hM.ag.lay]
      simp only [lay, List.foldl_cons, List.foldl_nil, List.setIfInBounds_toArray, List.set_cons_zero, List.set_cons_succ, z0_, z1_, z2_, z3_, z4_, z5_, z6_, z7_, z8_, z9_, z10_, z11_, z12_, z13_, z14_, z15_, z16_, z17_, z18_, z19_, z20_, z21_, z22_, z23_, z24_, z25_, z26_, z27_]
      clear hM hkeep1 hob1 hne1 z0_ z1_ z2_ z3_ z4_ z5_ z6_ z7_ z8_ z9_ z10_ z11_ z12_ z13_ z14_ z15_ z16_ z17_ z18_ z19_ z20_ z21_ z22_ z23_ z24_ z25_ z26_ z27_ y1_0e y1_1e y1_2e y1_3e y1_4e y1_5e y1_6e y1_7e y1_8e y1_9e y1_10e y1_11e y1_12e y1_13e y1_14e y1_15e y1_16e y1_17e y1_18e y1_19e y1_20e y1_21e y1_22e y1_23e y1_24e y1_25e y1_26e y1_27e
      go_wp2_with fail
      refine (half_is (q := qd) _ ((a : Int) - 1) HDr.out HD.out).mono ?_
      rintro e w12 ⟨sb10, sv10, su10, sm10, sd10, rfl, e10, o10, x12⟩
      have e12_ : Ext w w12 := Ext.trans e11_ x12
      obtain ⟨sp10, sl10, sc10, tp10, tl10, tc10, rfl, rfl⟩ := e10.slice
      go_wp2_with fail
      obtain ⟨v13, hv13⟩ : ∃ W, W = (w12.alloc (.cells #[.bool sb10, .slice sp10 sl10 sc10, .slice tp10 tl10 tc10] 27)) := ⟨_, rfl⟩
      have y13 : Ext w12 v13 := by rw [hv13]; exact ((Ext.refl _).alloc _)
      have b4_0 : Hid (At (w12.heap.size) 0 (.bool sb10) v13) := by rw [hv13]; exact At.ext (At.n0 (by rfl)) (Ext.refl _)
      have b4_1 : Hid (At (w12.heap.size) 1 (.slice sp10 sl10 sc10) v13) := by rw [hv13]; exact At.ext (At.n0 (by rfl)) (Ext.refl _)
      have b4_2 : Hid (At (w12.heap.size) 2 (.slice tp10 tl10 tc10) v13) := by rw [hv13]; exact At.ext (At.n0 (by rfl)) (Ext.refl _)
      have k4 : Hid (Bx 3 (w12.heap.size) v13) := by rw [hv13]; exact Bx.gr (Bx.n0 3 ⟨rfl, by decide⟩ (by decide) noI_s3) (Ext.gr (Ext.refl _))
      have u4 : Hid (w12.heap.size < v13.heap.size) := b4_0.out.2
      have e13_ : Ext w v13 := Ext.trans e12_ y13
      rw [← hv13]
      clear hv13
      have hkeep2 : AllAt' ([(w2.heap.size, 0, .bool sb2), (w2.heap.size, 1, .slice sp2 sl2 sc2), (w2.heap.size, 2, .slice tp2 tl2 tc2), (w4.heap.size, 0, .bool sb3), (w4.heap.size, 1, .slice sp3 sl3 sc3), (w4.heap.size, 2, .slice tp3 tl3 tc3), (w6.heap.size, 0, .bool sb4), (w6.heap.size, 1, .slice sp4 sl4 sc4), (w6.heap.size, 2, .slice tp4 tl4 tc4), (w9.heap.size, 0, .bool sb6), (w9.heap.size, 1, .slice sp6 sl6 sc6), (w9.heap.size, 2, .slice tp6 tl6 tc6), (w12.heap.size, 0, .bool sb10), (w12.heap.size, 1, .slice sp10 sl10 sc10), (w12.heap.size, 2, .slice tp10 tl10 tc10)] : List (Nat × Nat × Value)) v13 := AllAt'.cons (b0_0.out.ext (x12.trans y13)) (AllAt'.cons (b0_1.out.ext (x12.trans y13)) (AllAt'.cons (b0_2.out.ext (x12.trans y13)) (AllAt'.cons (b1_0.out.ext (x12.trans y13)) (AllAt'.cons (b1_1.out.ext (x12.trans y13)) (AllAt'.cons (b1_2.out.ext (x12.trans y13)) (AllAt'.cons (b2_0.out.ext (x12.trans y13)) (AllAt'.cons (b2_1.out.ext (x12.trans y13)) (AllAt'.cons (b2_2.out.ext (x12.trans y13)) (AllAt'.cons (b3_0.out.ext (x12.trans y13)) (AllAt'.cons (b3_1.out.ext (x12.trans y13)) (AllAt'.cons (b3_2.out.ext (x12.trans y13)) (AllAt'.cons b4_0.out (AllAt'.cons b4_1.out (AllAt'.cons b4_2.out (AllAt'.nil _)))))))))))))))
      have hob2 : ObOk w.heap.size v13 (([(w2.heap.size, 0, .bool sb2), (w2.heap.size, 1, .slice sp2 sl2 sc2), (w2.heap.size, 2, .slice tp2 tl2 tc2), (w4.heap.size, 0, .bool sb3), (w4.heap.size, 1, .slice sp3 sl3 sc3), (w4.heap.size, 2, .slice tp3 tl3 tc3), (w6.heap.size, 0, .bool sb4), (w6.heap.size, 1, .slice sp4 sl4 sc4), (w6.heap.size, 2, .slice tp4 tl4 tc4), (w9.heap.size, 0, .bool sb6), (w9.heap.size, 1, .slice sp6 sl6 sc6), (w9.heap.size, 2, .slice tp6 tl6 tc6), (w12.heap.size, 0, .bool sb10), (w12.heap.size, 1, .slice sp10 sl10 sc10), (w12.heap.size, 2, .slice tp10 tl10 tc10)] : List (Nat × Nat × Value)).map (·.1)) ([] : List (Nat × List (Nat × Value))) := trivial
      have hne2 : AllNe (([] : List (Nat × List (Nat × Value))).map (·.1)) := trivial
      (try simp only [List.append_eq, List.cons_append, List.nil_append])
      refine wp_region_gen ⟨[85, 86, 87, 88, 89, 90, 91, 92, 93, 94, 95, 96, 97, 98, 99, 4], fun i => false, fun i => ([none, none, none, none, none, none, none, none, none, none, none, none, none, none, none, none] : List (Option (BoxRef × Nat))).getD i none, fun i => ([Sg.val (.int .i64 0), Sg.val (.bool true), Sg.val (.bool true), Sg.ratO w.heap.size qa, Sg.ratO w.heap.size qa, Sg.ratO w.heap.size (qa + qa), Sg.ratO w.heap.size qd, Sg.val (.bool true), Sg.val (.bool true), Sg.val (.bool true), Sg.ratO w.heap.size qa, Sg.ratO w.heap.size qd, Sg.val (.int .i64 (-1)), Sg.val (.bool true), Sg.val (.bool true), Sg.val (.bool true)] : List Sg).getD i Sg.any, [(w2.heap.size, 0, .bool sb2), (w2.heap.size, 1, .slice sp2 sl2 sc2), (w2.heap.size, 2, .slice tp2 tl2 tc2), (w4.heap.size, 0, .bool sb3), (w4.heap.size, 1, .slice sp3 sl3 sc3), (w4.heap.size, 2, .slice tp3 tl3 tc3), (w6.heap.size, 0, .bool sb4), (w6.heap.size, 1, .slice sp4 sl4 sc4), (w6.heap.size, 2, .slice tp4 tl4 tc4), (w9.heap.size, 0, .bool sb6), (w9.heap.size, 1, .slice sp6 sl6 sc6), (w9.heap.size, 2, .slice tp6 tl6 tc6), (w12.heap.size, 0, .bool sb10), (w12.heap.size, 1, .slice sp10 sl10 sc10), (w12.heap.size, 2, .slice tp10 tl10 tc10)], []⟩ w.heap.size (by kernel_rfl) (by kernel_rfl) e13_.size ?hfr hkeep2 hob2 hne2 ?hs ?he
      case hfr =>
        intro i v wk hi hst hv
        exact absurd hi (by simp)
      case hs =>
        refine ⟨?_, ?_, ?_, ?_, ?_, ?_, ?_, ?_, ?_, ?_, ?_, ?_, ?_, ?_, ?_, ?_, trivial⟩
        · refine RStep.op rfl rfl (fun ac wk hp K hK => ?_)
          have t14_ : ac.tmps[14]?.getD undef = .int .i64 0 := hp.slot 14 rfl rfl
          have HP := Lib.hid hp
          clear hp
          go_simp
          refine hK.out _ _ ?_ (Ext.refl _) (fun h => absurd h (by simp))
          exact rfl
        · refine RStep.op rfl rfl (fun ac wk hp K hK => ?_)
          have u0e := hp.get 0 (by decide +kernel) rfl
          have t85_ : ac.tmps[85]?.getD undef = .int .i64 0 := slot_is' u0e
          have HP := Lib.hid hp
          clear hp
          go_simp
          refine hK.out _ _ ?_ (Ext.refl _) (fun h => absurd h (by simp))
          exact rfl
        · refine RStep.op rfl rfl (fun ac wk hp K hK => ?_)
          have u1e := hp.get 1 (by decide +kernel) rfl
          have t86_ : ac.tmps[86]?.getD undef = .bool true := slot_is' u1e
          have HP := Lib.hid hp
          clear hp
          go_simp
          refine hK.out _ _ ?_ (Ext.refl _) (fun h => absurd h (by simp))
          exact rfl
        · refine RStep.yes 2 true rfl rfl (by decide +kernel) rfl rfl (fun ac wk hp K hK => ?_)
          have t5_ : ac.tmps[5]?.getD undef = .pointer (some ⟨w2.heap.size, 0, none⟩) := hp.slot 5 rfl rfl
          have c0_ := hp.cell 0 rfl
          have c1_ := hp.cell 1 rfl
          have c2_ := hp.cell 2 rfl
          have HP := Lib.hid hp
          clear hp
          go_simp
          refine hK.out _ _ ?_ (Ext.refl _) (fun h => absurd h (by simp))
          exact ⟨_, _, _, _, _, _, _, _, _, rfl, (e2.gr ((y3.gr.trans (x4.gr.trans (y5.gr.trans (x6.gr.trans (y7.gr.trans (x8.gr.trans (x9.gr.trans (y10.gr.trans (gv11.trans (x12.gr.trans y13.gr)))))))))).trans HP.out.gr)), ((o2.gr ((y3.gr.trans (x4.gr.trans (y5.gr.trans (x6.gr.trans (y7.gr.trans (x8.gr.trans (x9.gr.trans (y10.gr.trans (gv11.trans (x12.gr.trans y13.gr)))))))))).trans HP.out.gr)).mono e1_.size)⟩
        · refine RStep.yes 2 true rfl rfl (by decide +kernel) rfl rfl (fun ac wk hp K hK => ?_)
          have t5_ : ac.tmps[5]?.getD undef = .pointer (some ⟨w2.heap.size, 0, none⟩) := hp.slot 5 rfl rfl
          have c0_ := hp.cell 0 rfl
          have c1_ := hp.cell 1 rfl
          have c2_ := hp.cell 2 rfl
          have HP := Lib.hid hp
          clear hp
          go_simp
          refine hK.out _ _ ?_ (Ext.refl _) (fun h => absurd h (by simp))
          exact ⟨_, _, _, _, _, _, _, _, _, rfl, (e2.gr ((y3.gr.trans (x4.gr.trans (y5.gr.trans (x6.gr.trans (y7.gr.trans (x8.gr.trans (x9.gr.trans (y10.gr.trans (gv11.trans (x12.gr.trans y13.gr)))))))))).trans HP.out.gr)), ((o2.gr ((y3.gr.trans (x4.gr.trans (y5.gr.trans (x6.gr.trans (y7.gr.trans (x8.gr.trans (x9.gr.trans (y10.gr.trans (gv11.trans (x12.gr.trans y13.gr)))))))))).trans HP.out.gr)).mono e1_.size)⟩
        · refine RStep.yes 2 true rfl rfl (by decide +kernel) rfl rfl (fun ac wk hp K hK => ?_)
          obtain ⟨u3b, u3p, u3n, u3c, u3q, u3k, u3d, u3m, u3l, u3e, u3i, u3o⟩ := hp.get 3 (by decide +kernel) rfl
          have t88_ : ac.tmps[88]?.getD undef = .agg #[.bool u3b, .slice u3p u3n u3c, .slice u3q u3k u3d] := slot_is' u3e
          obtain ⟨u4b, u4p, u4n, u4c, u4q, u4k, u4d, u4m, u4l, u4e, u4i, u4o⟩ := hp.get 4 (by decide +kernel) rfl
          have t89_ : ac.tmps[89]?.getD undef = .agg #[.bool u4b, .slice u4p u4n u4c, .slice u4q u4k u4d] := slot_is' u4e
          have HP := Lib.hid hp
          clear hp
          go_simp
          refine (radd_is (u3i.inR (k := 9) HAl.out) (u4i.inR (k := 9) HAl.out) (by decide)).mono ?_
          rintro e wk' ⟨sb11, sv11, su11, sm11, sd11, rfl, e11, o11, ix⟩
          obtain ⟨sp11, sl11, sc11, tp11, tl11, tc11, rfl, rfl⟩ := e11.slice
          refine hK.out _ _ ?_ ix (fun h => absurd h (by simp))
          exact ⟨_, _, _, _, _, _, _, _, _, rfl, e11, (o11.mono (Nat.le_trans e13_.size HP.out.gr.size))⟩
        · refine RStep.yes 2 true rfl rfl (by decide +kernel) rfl rfl (fun ac wk hp K hK => ?_)
          have t13_ : ac.tmps[13]?.getD undef = .pointer (some ⟨w12.heap.size, 0, none⟩) := hp.slot 13 rfl rfl
          have c0_ := hp.cell 12 rfl
          have c1_ := hp.cell 13 rfl
          have c2_ := hp.cell 14 rfl
          have HP := Lib.hid hp
          clear hp
          go_simp
          refine hK.out _ _ ?_ (Ext.refl _) (fun h => absurd h (by simp))
          exact ⟨_, _, _, _, _, _, _, _, _, rfl, (e10.gr (y13.gr.trans HP.out.gr)), ((o10.gr (y13.gr.trans HP.out.gr)).mono e11_.size)⟩
        · refine RStep.yes 2 true rfl rfl (by decide +kernel) rfl rfl (fun ac wk hp K hK => ?_)
          obtain ⟨u5b, u5p, u5n, u5c, u5q, u5k, u5d, u5m, u5l, u5e, u5i, u5o⟩ := hp.get 5 (by decide +kernel) rfl
          have t90_ : ac.tmps[90]?.getD undef = .agg #[.bool u5b, .slice u5p u5n u5c, .slice u5q u5k u5d] := slot_is' u5e
          obtain ⟨u6b, u6p, u6n, u6c, u6q, u6k, u6d, u6m, u6l, u6e, u6i, u6o⟩ := hp.get 6 (by decide +kernel) rfl
          have t91_ : ac.tmps[91]?.getD undef = .agg #[.bool u6b, .slice u6p u6n u6c, .slice u6q u6k u6d] := slot_is' u6e
          have HP := Lib.hid hp
          clear hp
          go_simp
          refine (is_is u5i u6i true (decide_eq_true (show ((qa + qa) : Rat) = qd from HAD.out))).mono ?_
          rintro e wk' ⟨rfl, ix⟩
          refine hK.out _ _ ?_ ix (fun h => absurd h (by simp))
          exact rfl
        · refine RStep.op rfl rfl (fun ac wk hp K hK => ?_)
          have u2e := hp.get 2 (by decide +kernel) rfl
          have t87_ : ac.tmps[87]?.getD undef = .bool true := slot_is' u2e
          have u7e := hp.get 7 (by decide +kernel) rfl
          have t92_ : ac.tmps[92]?.getD undef = .bool true := slot_is' u7e
          have HP := Lib.hid hp
          clear hp
          go_simp
          refine hK.out _ _ ?_ (Ext.refl _) (fun h => absurd h (by simp))
          exact rfl
        · refine RStep.op rfl rfl (fun ac wk hp K hK => ?_)
          have u8e := hp.get 8 (by decide +kernel) rfl
          have t93_ : ac.tmps[93]?.getD undef = .bool true := slot_is' u8e
          have HP := Lib.hid hp
          clear hp
          go_simp
          refine hK.out _ _ ?_ (Ext.refl _) (fun h => absurd h (by simp))
          exact rfl
        · refine RStep.yes 9 true rfl rfl (by decide +kernel) rfl rfl (fun ac wk hp K hK => ?_)
          have t5_ : ac.tmps[5]?.getD undef = .pointer (some ⟨w2.heap.size, 0, none⟩) := hp.slot 5 rfl rfl
          have c0_ := hp.cell 0 rfl
          have c1_ := hp.cell 1 rfl
          have c2_ := hp.cell 2 rfl
          have HP := Lib.hid hp
          clear hp
          go_simp
          refine hK.out _ _ ?_ (Ext.refl _) (fun h => absurd h (by simp))
          exact ⟨_, _, _, _, _, _, _, _, _, rfl, (e2.gr ((y3.gr.trans (x4.gr.trans (y5.gr.trans (x6.gr.trans (y7.gr.trans (x8.gr.trans (x9.gr.trans (y10.gr.trans (gv11.trans (x12.gr.trans y13.gr)))))))))).trans HP.out.gr)), ((o2.gr ((y3.gr.trans (x4.gr.trans (y5.gr.trans (x6.gr.trans (y7.gr.trans (x8.gr.trans (x9.gr.trans (y10.gr.trans (gv11.trans (x12.gr.trans y13.gr)))))))))).trans HP.out.gr)).mono e1_.size)⟩
        · refine RStep.yes 9 true rfl rfl (by decide +kernel) rfl rfl (fun ac wk hp K hK => ?_)
          have t13_ : ac.tmps[13]?.getD undef = .pointer (some ⟨w12.heap.size, 0, none⟩) := hp.slot 13 rfl rfl
          have c0_ := hp.cell 12 rfl
          have c1_ := hp.cell 13 rfl
          have c2_ := hp.cell 14 rfl
          have HP := Lib.hid hp
          clear hp
          go_simp
          refine hK.out _ _ ?_ (Ext.refl _) (fun h => absurd h (by simp))
          exact ⟨_, _, _, _, _, _, _, _, _, rfl, (e10.gr (y13.gr.trans HP.out.gr)), ((o10.gr (y13.gr.trans HP.out.gr)).mono e11_.size)⟩
        · refine RStep.yes 9 true rfl rfl (by decide +kernel) rfl rfl (fun ac wk hp K hK => ?_)
          obtain ⟨u10b, u10p, u10n, u10c, u10q, u10k, u10d, u10m, u10l, u10e, u10i, u10o⟩ := hp.get 10 (by decide +kernel) rfl
          have t95_ : ac.tmps[95]?.getD undef = .agg #[.bool u10b, .slice u10p u10n u10c, .slice u10q u10k u10d] := slot_is' u10e
          obtain ⟨u11b, u11p, u11n, u11c, u11q, u11k, u11d, u11m, u11l, u11e, u11i, u11o⟩ := hp.get 11 (by decide +kernel) rfl
          have t96_ : ac.tmps[96]?.getD undef = .agg #[.bool u11b, .slice u11p u11n u11c, .slice u11q u11k u11d] := slot_is' u11e
          have HP := Lib.hid hp
          clear hp
          go_simp
          refine (rcmp_is (u10i.inR (k := 9) HAl.out) (u11i.inR (k := 9) HDl.out) (by decide) (s := (-1)) HCM.out).mono ?_
          rintro e wk' ⟨rfl, ix⟩
          refine hK.out _ _ ?_ ix (fun h => absurd h (by simp))
          exact rfl
        · refine RStep.yes 9 true rfl rfl (by decide +kernel) rfl rfl (fun ac wk hp K hK => ?_)
          have u12e := hp.get 12 (by decide +kernel) rfl
          have t97_ : ac.tmps[97]?.getD undef = .int .i64 (-1) := slot_is' u12e
          have HP := Lib.hid hp
          clear hp
          go_simp
          refine hK.out _ _ ?_ (Ext.refl _) (fun h => absurd h (by simp))
          exact rfl
        · refine RStep.op rfl rfl (fun ac wk hp K hK => ?_)
          have u9e := hp.get 9 (by decide +kernel) rfl
          have t94_ : ac.tmps[94]?.getD undef = .bool true := slot_is' u9e
          have u13e := hp.get 13 (by decide +kernel) rfl
          have t98_ : ac.tmps[98]?.getD undef = .bool true := slot_is' u13e
          have HP := Lib.hid hp
          clear hp
          go_simp
          refine hK.out _ _ ?_ (Ext.refl _) (fun h => absurd h (by simp))
          exact rfl
        · refine RStep.op rfl rfl (fun ac wk hp K hK => ?_)
          have u14e := hp.get 14 (by decide +kernel) rfl
          have t99_ : ac.tmps[99]?.getD undef = .bool true := slot_is' u14e
          have HP := Lib.hid hp
          clear hp
          go_simp
          refine hK.out _ _ ?_ (Ext.refl _) (fun h => absurd h (by simp))
          exact rfl
      case he =>
        intro ac v14 hM
        have y2_0e := hM.post 0 rfl rfl
        have y2_1e := hM.post 1 rfl rfl
        have y2_2e := hM.post 2 rfl rfl
        obtain ⟨y2_3b, y2_3p, y2_3n, y2_3c, y2_3q, y2_3k, y2_3d, y2_3m, y2_3l, y2_3e, y2_3i, y2_3o⟩ := hM.post 3 rfl rfl
        obtain ⟨y2_4b, y2_4p, y2_4n, y2_4c, y2_4q, y2_4k, y2_4d, y2_4m, y2_4l, y2_4e, y2_4i, y2_4o⟩ := hM.post 4 rfl rfl
        obtain ⟨y2_5b, y2_5p, y2_5n, y2_5c, y2_5q, y2_5k, y2_5d, y2_5m, y2_5l, y2_5e, y2_5i, y2_5o⟩ := hM.post 5 rfl rfl
        obtain ⟨y2_6b, y2_6p, y2_6n, y2_6c, y2_6q, y2_6k, y2_6d, y2_6m, y2_6l, y2_6e, y2_6i, y2_6o⟩ := hM.post 6 rfl rfl
        have y2_7e := hM.post 7 rfl rfl
        have y2_8e := hM.post 8 rfl rfl
        have y2_9e := hM.post 9 rfl rfl
        obtain ⟨y2_10b, y2_10p, y2_10n, y2_10c, y2_10q, y2_10k, y2_10d, y2_10m, y2_10l, y2_10e, y2_10i, y2_10o⟩ := hM.post 10 rfl rfl
        obtain ⟨y2_11b, y2_11p, y2_11n, y2_11c, y2_11q, y2_11k, y2_11d, y2_11m, y2_11l, y2_11e, y2_11i, y2_11o⟩ := hM.post 11 rfl rfl
        have y2_12e := hM.post 12 rfl rfl
        have y2_13e := hM.post 13 rfl rfl
        have y2_14e := hM.post 14 rfl rfl
        have y2_15e := hM.post 15 rfl rfl
        have b0_0 : Hid (At (w2.heap.size) 0 (.bool sb2) v14) := Lib.hid (hM.keep.at 0 rfl)
        have b0_1 : Hid (At (w2.heap.size) 1 (.slice sp2 sl2 sc2) v14) := Lib.hid (hM.keep.at 1 rfl)
        have b0_2 : Hid (At (w2.heap.size) 2 (.slice tp2 tl2 tc2) v14) := Lib.hid (hM.keep.at 2 rfl)
        have b1_0 : Hid (At (w4.heap.size) 0 (.bool sb3) v14) := Lib.hid (hM.keep.at 3 rfl)
        have b1_1 : Hid (At (w4.heap.size) 1 (.slice sp3 sl3 sc3) v14) := Lib.hid (hM.keep.at 4 rfl)
        have b1_2 : Hid (At (w4.heap.size) 2 (.slice tp3 tl3 tc3) v14) := Lib.hid (hM.keep.at 5 rfl)
        have b2_0 : Hid (At (w6.heap.size) 0 (.bool sb4) v14) := Lib.hid (hM.keep.at 6 rfl)
        have b2_1 : Hid (At (w6.heap.size) 1 (.slice sp4 sl4 sc4) v14) := Lib.hid (hM.keep.at 7 rfl)
        have b2_2 : Hid (At (w6.heap.size) 2 (.slice tp4 tl4 tc4) v14) := Lib.hid (hM.keep.at 8 rfl)
        have b3_0 : Hid (At (w9.heap.size) 0 (.bool sb6) v14) := Lib.hid (hM.keep.at 9 rfl)
        have b3_1 : Hid (At (w9.heap.size) 1 (.slice sp6 sl6 sc6) v14) := Lib.hid (hM.keep.at 10 rfl)
        have b3_2 : Hid (At (w9.heap.size) 2 (.slice tp6 tl6 tc6) v14) := Lib.hid (hM.keep.at 11 rfl)
        have b4_0 : Hid (At (w12.heap.size) 0 (.bool sb10) v14) := Lib.hid (hM.keep.at 12 rfl)
        have b4_1 : Hid (At (w12.heap.size) 1 (.slice sp10 sl10 sc10) v14) := Lib.hid (hM.keep.at 13 rfl)
        have b4_2 : Hid (At (w12.heap.size) 2 (.slice tp10 tl10 tc10) v14) := Lib.hid (hM.keep.at 14 rfl)
        have gv14 : Gr v13 v14 := hM.gr
        have e14_ : Ext w v14 := Ext.below e13_ hM.blw
        have z0_ : sl ac 85 = .int .i64 0 := y2_0e
        have z1_ : sl ac 86 = .bool true := y2_1e
        have z2_ : sl ac 87 = .bool true := y2_2e
        have z3_ : sl ac 88 = .agg #[.bool y2_3b, .slice y2_3p y2_3n y2_3c, .slice y2_3q y2_3k y2_3d] := y2_3e
        have z4_ : sl ac 89 = .agg #[.bool y2_4b, .slice y2_4p y2_4n y2_4c, .slice y2_4q y2_4k y2_4d] := y2_4e
        have z5_ : sl ac 90 = .agg #[.bool y2_5b, .slice y2_5p y2_5n y2_5c, .slice y2_5q y2_5k y2_5d] := y2_5e
        have z6_ : sl ac 91 = .agg #[.bool y2_6b, .slice y2_6p y2_6n y2_6c, .slice y2_6q y2_6k y2_6d] := y2_6e
        have z7_ : sl ac 92 = .bool true := y2_7e
        have z8_ : sl ac 93 = .bool true := y2_8e
        have z9_ : sl ac 94 = .bool true := y2_9e
        have z10_ : sl ac 95 = .agg #[.bool y2_10b, .slice y2_10p y2_10n y2_10c, .slice y2_10q y2_10k y2_10d] := y2_10e
        have z11_ : sl ac 96 = .agg #[.bool y2_11b, .slice y2_11p y2_11n y2_11c, .slice y2_11q y2_11k y2_11d] := y2_11e
        have z12_ : sl ac 97 = .int .i64 (-1) := y2_12e
        have z13_ : sl ac 98 = .bool true := y2_13e
        have z14_ : sl ac 99 = .bool true := y2_14e
        have z15_ : sl ac 4 = .bool true := y2_15e
        rw [hM.ag.lay]
        simp only [lay, List.foldl_cons, List.foldl_nil, List.setIfInBounds_toArray, List.set_cons_zero, List.set_cons_succ, z0_, z1_, z2_, z3_, z4_, z5_, z6_, z7_, z8_, z9_, z10_, z11_, z12_, z13_, z14_, z15_]
        clear hM hkeep2 hob2 hne2 z0_ z1_ z2_ z3_ z4_ z5_ z6_ z7_ z8_ z9_ z10_ z11_ z12_ z13_ z14_ z15_ y2_0e y2_1e y2_2e y2_3e y2_4e y2_5e y2_6e y2_7e y2_8e y2_9e y2_10e y2_11e y2_12e y2_13e y2_14e y2_15e
        go_wp2_with fail
        go_ret
        exact ⟨rfl, e14_⟩

end Go.Proofs.YtjjpmjhaodpgcaaGreatDoor
