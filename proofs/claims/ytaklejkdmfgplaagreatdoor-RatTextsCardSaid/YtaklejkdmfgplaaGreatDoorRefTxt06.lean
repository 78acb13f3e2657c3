/- The contracts of tombolaref06.Show, Read. -/
import Derived.Test.YtaklejkdmfgplaaGreatDoorRefSpoil
import Derived.Test.YtaklejkdmfgplaaGreatDoorLawTxtR
namespace Go.Proofs.YtaklejkdmfgplaaGreatDoor
open Go Go.RowKit

theorem refread_z (s : ByteArray) (w : World) (hs : s.size ≤ 500) (k : Int) (z : Int) (hk : ((errI s.data.toList : Nat) : Int) = k) (hz : readI s.data.toList = z) :
    Calls Tryz.prog 80 #[.string s] w fun e w' => ∃ b v m, e = .returned (.tuple #[.agg #[.bool b, v], .int .i64 k]) ∧ IsI w' b v m z ∧ OwnL w.heap.size w' v (dig m) ∧ Ext w w' := by
  subst hk hz
  exact (refiread_calls s w hs).mono fun _ _ ⟨v, h1, h2, h3⟩ => ⟨_, v, _, h1, ⟨rfl, rfl, h2.limbs⟩, h2, h3⟩
theorem rmay06_mk {w : World} {b : Bool} {v u : Value} {m d : Nat} {z : Int} (h : IsI w b v m z) (hu : Limbs w u (dig d)) (hl1 : (dig m).length ≤ 900) (hl2 : (dig d).length ≤ 900) (c : Bool) (hc : decide (d ≠ 0 ∧ Nat.gcd z.natAbs d = 1) = c) :
    Calls Tryz.prog 35 #[.agg #[.bool b, v, u]] w fun e w' => e = .returned (.bool c) ∧ Ext w w' := by
  refine rmay06_raw (k := 901) h.2.2 hu rfl (by omega) (by omega) (by decide) (by decide) c ?_
  rw [← hc, h.iv, val_dig, Bool.eq_iff_iff, decide_eq_true_eq, decide_eq_true_eq, dig_inj, dig_inj]
  constructor
  · rintro ⟨h0, -, h2, h3⟩
    refine ⟨h0, ?_⟩
    rw [mk_den h0] at h3
    have hg : 0 < Nat.gcd z.natAbs d := Nat.gcd_pos_of_pos_right _ (Nat.pos_of_ne_zero h0)
    have e := Nat.div_mul_cancel (Nat.gcd_dvd_right z.natAbs d)
    rw [h3] at e
    have e2 : d * Nat.gcd z.natAbs d = d * 1 := by omega
    exact Nat.eq_of_mul_eq_mul_left (Nat.pos_of_ne_zero h0) e2
  · rintro ⟨h0, hg⟩
    have hn : (mkRat z d).num = z := by rw [mk_num h0, hg]; simp
    have hd : (mkRat z d).den = d := by rw [mk_den h0, hg]; simp
    rw [hn, hd]
    exact ⟨h0, h.1, h.2.1, rfl⟩
theorem byte_eq {s t : ByteArray} (h : s.data.toList = t.data.toList) : s = t := by
  rw [← Lib.mk_data s, ← Lib.mk_data t, h]
/-- what stands ahead of the first byte of 47 -/
theorem slash_pos {l : List UInt8} {n : Nat} (_hn : n < l.length) (h : Lib.indexByte l 47 = n) : bn l n = 47 := by
  have h1 := (Lib.indexByte_some h).1
  unfold bn; rw [h1]; rfl
theorem slash_none {l : List UInt8} {n : Nat} (h : Lib.indexByte l 47 = -1 ∨ Lib.indexByte l 47 = n) {i : Nat} (hi : i < n) (hl : n ≤ l.length) : bn l i ≠ 47 := by
  intro e
  have h0 : i < l.length := by omega
  have e1 : l[i]? = some 47 := by
    unfold bn at e
    rw [List.getElem?_eq_getElem h0] at e ⊢
    rw [UInt8.toNat_inj.1 (show (l[i]).toNat = (47 : UInt8).toNat from e)]
  rcases h with h | h
  · exact Lib.indexByte_none h i e1
  · exact (Lib.indexByte_some h).2 i hi e1

set_option maxHeartbeats 1000000 in
set_option maxRecDepth 100000 in
theorem rshow06_is {w : World} {ba : Bool} {va ua : Value} {k : Nat} {q : Rat} (ha : InR w ba va ua k q) (hk : k ≤ 1000) (t : ByteArray) (ht : t.data.toList = showR q) :
    Calls Tryz.prog 39 #[.agg #[.bool ba, va, ua]] w fun e w' => e = .returned (.string t) ∧ Ext w w' := by
  obtain ⟨pa, qa, ra, pa', qa', ra', rfl, rfl⟩ := ha.slice
  have LQ := Lib.hid ha.len
  have hk1 := LQ.out.pos
  obtain ⟨s, hs⟩ := str_of (showL q.num.natAbs)
  obtain ⟨u, hu⟩ := str_of (showL q.den)
  have HS := Lib.hid hs
  have HU := Lib.hid hu
  have HLM : Hid ((dig q.num.natAbs).length ≤ 65536) := by show _ ≤ _; have := dig_len_le LQ.out.1; omega
  have HLD : Hid ((dig q.den).length ≤ 65536) := by show _ ≤ _; have := dig_len_le LQ.out.2; omega
  have HK := Lib.hid hk
  have hsz : (s.size : Int) ≤ 20000 := by
    have h1 := showL_lenB LQ.out.1 hk1
    have h2 : s.size = (showL q.num.natAbs).length := by rw [Lib.size_eq s, hs]
    omega
  have husz : (u.size : Int) ≤ 20000 := by
    have h1 := showL_lenB LQ.out.2 hk1
    have h2 : u.size = (showL q.den).length := by rw [Lib.size_eq u, hu]
    omega
  by_cases hd : q.den = 1
  · have HD : Hid (decide (dig q.den = [1]) = true) := by show _ = _; rw [hd, dig_one one_lt_Bs (by decide)]; simp
    clear husz HU HLD hu
    by_cases hng : q.num < 0
    case pos =>
      have HNG : Hid (decide (q.num < 0) = true) := by show _ = _; simp [hng]
      have HT : Hid (((⟨#[45]⟩ : ByteArray) ++ s) = t) := by
        show _ = _
        refine byte_eq ?_
        rw [ht]; unfold showR showI; rw [if_pos hng, if_pos hd]; simp [ByteArray.data_append, hs]
      clear ht hs hd hng hk hk1
      go_enter Tryz.func39, Tryz.ntmps39
      go_wp2_with fail
      obtain ⟨v1, hv1⟩ : ∃ W, W = (w.alloc (.cells #[.bool ba, .slice pa qa ra, .slice pa' qa' ra'] 36)) := ⟨_, rfl⟩
      have y1 : Ext w v1 := by rw [hv1]; exact ((Ext.refl _).alloc _)
      have b0_0 : Hid (At (w.heap.size) 0 (.bool ba) v1) := by rw [hv1]; exact At.ext (At.n0 (by rfl)) (Ext.refl _)
      have b0_1 : Hid (At (w.heap.size) 1 (.slice pa qa ra) v1) := by rw [hv1]; exact At.ext (At.n0 (by rfl)) (Ext.refl _)
      have b0_2 : Hid (At (w.heap.size) 2 (.slice pa' qa' ra') v1) := by rw [hv1]; exact At.ext (At.n0 (by rfl)) (Ext.refl _)
      have k0 : Hid (Bx 3 (w.heap.size) v1) := by rw [hv1]; exact Bx.gr (Bx.n0 3 ⟨rfl, by decide⟩ (by decide) noI_s3) (Ext.gr (Ext.refl _))
      have u0 : Hid (w.heap.size < v1.heap.size) := b0_0.out.2
      have e1_ : Ext w v1 := y1
      rw [← hv1]
      clear hv1
      refine (count06_is (ha.ext y1) (by have h1 := HK.out; omega)).mono ?_
      rintro e w2 ⟨sb1, sv1, su1, sm1, sd1, rfl, e1, o1, x2⟩
      have e2_ : Ext w w2 := Ext.trans e1_ x2
      obtain ⟨sp1, sl1, sc1, tp1, tl1, tc1, rfl, rfl⟩ := e1.slice
      have hsb : sb1 = true := e1.1.symm.trans HNG.out
      subst hsb
      have g0_0 := (b0_0.out.ext x2).1
      have g0_1 := (b0_1.out.ext x2).1
      have g0_2 := (b0_2.out.ext x2).1
      have z0_0 := (k0.out.gr x2.gr).free 0
      have z0_1 := (k0.out.gr x2.gr).free 1
      have z0_2 := (k0.out.gr x2.gr).free 2
      have f0 : w.heap.size < w2.heap.size := (b0_0.out.ext x2).2
      have ff0 : w.heap.size < w2.heap.size + 1 := Nat.lt_succ_of_lt f0
      go_wp2_with fail
      obtain ⟨v3, hv3⟩ : ∃ W, W = (((w2.setCell ⟨w.heap.size, 0, none⟩ (.bool true)).setCell ⟨w.heap.size, 1, none⟩ (.slice sp1 sl1 sc1)).setCell ⟨w.heap.size, 2, none⟩ (.slice tp1 tl1 tc1)) := ⟨_, rfl⟩
      have sv3 : v3 = setRow (w.heap.size) 0 [.bool true, .slice sp1 sl1 sc1, .slice tp1 tl1 tc1] w2 := hv3
      have uv3 := setRow_bx' (o := 0) (cs := [.bool true, .slice sp1 sl1 sc1, .slice tp1 tl1 tc1]) (k0.out.gr x2.gr) (by simp) noI_s3
      have y3 : Gr w2 v3 := by rw [sv3]; exact setRow_gr' (o := 0) (cs := [.bool true, .slice sp1 sl1 sc1, .slice tp1 tl1 tc1]) (k0.out.gr x2.gr) (by simp) noI_s3
      have t3 : Hid (∀ t o u, t ≠ (w.heap.size) → At t o u w2 → At t o u v3) := fun t o u h k => by rw [sv3]; exact k.setRow h _ _
      have e3_ : Ext w v3 := by rw [sv3]; exact setRow_below _ _ (by omega) _ _ e2_
      have b0_0 : Hid (At (w.heap.size) 0 (.bool true) v3) := by rw [sv3]; exact uv3.2.1 0 _ rfl
      have b0_1 : Hid (At (w.heap.size) 1 (.slice sp1 sl1 sc1) v3) := by rw [sv3]; exact uv3.2.1 1 _ rfl
      have b0_2 : Hid (At (w.heap.size) 2 (.slice tp1 tl1 tc1) v3) := by rw [sv3]; exact uv3.2.1 2 _ rfl
      have k0 : Hid (Bx 3 (w.heap.size) v3) := by rw [sv3]; exact uv3.1
      rw [← hv3]
      clear hv3 sv3 uv3
      refine (refshow_str (e1.gr y3).2.2.2.1 (by rw [← e1.2.1]; exact HLM.out) s (by rw [val_dig, ← e1.2.1]; exact HS.out)).mono ?_
      rintro e w4 ⟨rfl, x4⟩
      have e4_ : Ext w w4 := Ext.trans e3_ x4
      clear g0_0 g0_1 g0_2 z0_0 z0_1 z0_2 f0 ff0
      have g0_0 := (b0_0.out.ext x4).1
      have g0_2 := (b0_2.out.ext x4).1
      have f0 : w.heap.size < w4.heap.size := (b0_0.out.ext x4).2
      have ff0 : w.heap.size < w4.heap.size + 1 := Nat.lt_succ_of_lt f0
      go_wp2_with fail
      obtain ⟨v5, hv5⟩ : ∃ W, W = (w4.alloc (.cells #[.int .u64 1] 54)) := ⟨_, rfl⟩
      have y5 : Ext w4 v5 := by rw [hv5]; exact ((Ext.refl _).alloc _)
      have r1 : Hid (Limbs v5 (.slice (some ⟨w4.heap.size, 0, none⟩) 1 1) [1]) := by rw [hv5]; exact (lit_n0 [1] (by decide) rfl 1 rfl (by decide)).ext (Ext.refl _)
      have ro1 : Hid (OwnL w.heap.size v5 (.slice (some ⟨w4.heap.size, 0, none⟩) 1 1) [1]) := by rw [hv5]; exact OwnL.ext (lito_n0 [1] (by decide) rfl 1 rfl (by decide) (by first | omega | exact e2_.size | exact e3_.size | exact e4_.size | exact e5_.size)) (Ext.refl _)
      have e5_ : Ext w v5 := Ext.trans e4_ y5
      rw [← hv5]
      clear hv5
      refine (same_bool (e1.gr (y3.trans (x4.gr.trans y5.gr))).2.2.2.2 r1.out true (by rw [← e1.2.2.1]; exact HD.out)).mono ?_
      rintro e w6 ⟨rfl, x6⟩
      have e6_ : Ext w w6 := Ext.trans e5_ x6
      clear g0_0 g0_2 f0 ff0
      go_wp2_with fail
      go_ret
      exact ⟨ret_eq (congrArg Value.string HT.out), e6_⟩
    case neg =>
      have HNG : Hid (decide (q.num < 0) = false) := by show _ = _; simp [hng]
      have HT : Hid (s = t) := by
        show _ = _
        refine byte_eq ?_
        rw [ht]; unfold showR showI; rw [if_neg hng, if_pos hd]; simp [hs]
      clear ht hs hd hng hk hk1
      go_enter Tryz.func39, Tryz.ntmps39
      go_wp2_with fail
      obtain ⟨v1, hv1⟩ : ∃ W, W = (w.alloc (.cells #[.bool ba, .slice pa qa ra, .slice pa' qa' ra'] 36)) := ⟨_, rfl⟩
      have y1 : Ext w v1 := by rw [hv1]; exact ((Ext.refl _).alloc _)
      have b0_0 : Hid (At (w.heap.size) 0 (.bool ba) v1) := by rw [hv1]; exact At.ext (At.n0 (by rfl)) (Ext.refl _)
      have b0_1 : Hid (At (w.heap.size) 1 (.slice pa qa ra) v1) := by rw [hv1]; exact At.ext (At.n0 (by rfl)) (Ext.refl _)
      have b0_2 : Hid (At (w.heap.size) 2 (.slice pa' qa' ra') v1) := by rw [hv1]; exact At.ext (At.n0 (by rfl)) (Ext.refl _)
      have k0 : Hid (Bx 3 (w.heap.size) v1) := by rw [hv1]; exact Bx.gr (Bx.n0 3 ⟨rfl, by decide⟩ (by decide) noI_s3) (Ext.gr (Ext.refl _))
      have u0 : Hid (w.heap.size < v1.heap.size) := b0_0.out.2
      have e1_ : Ext w v1 := y1
      rw [← hv1]
      clear hv1
      refine (count06_is (ha.ext y1) (by have h1 := HK.out; omega)).mono ?_
      rintro e w2 ⟨sb1, sv1, su1, sm1, sd1, rfl, e1, o1, x2⟩
      have e2_ : Ext w w2 := Ext.trans e1_ x2
      obtain ⟨sp1, sl1, sc1, tp1, tl1, tc1, rfl, rfl⟩ := e1.slice
      have hsb : sb1 = false := e1.1.symm.trans HNG.out
      subst hsb
      have g0_0 := (b0_0.out.ext x2).1
      have g0_1 := (b0_1.out.ext x2).1
      have g0_2 := (b0_2.out.ext x2).1
      have z0_0 := (k0.out.gr x2.gr).free 0
      have z0_1 := (k0.out.gr x2.gr).free 1
      have z0_2 := (k0.out.gr x2.gr).free 2
      have f0 : w.heap.size < w2.heap.size := (b0_0.out.ext x2).2
      have ff0 : w.heap.size < w2.heap.size + 1 := Nat.lt_succ_of_lt f0
      go_wp2_with fail
      obtain ⟨v3, hv3⟩ : ∃ W, W = (((w2.setCell ⟨w.heap.size, 0, none⟩ (.bool false)).setCell ⟨w.heap.size, 1, none⟩ (.slice sp1 sl1 sc1)).setCell ⟨w.heap.size, 2, none⟩ (.slice tp1 tl1 tc1)) := ⟨_, rfl⟩
      have sv3 : v3 = setRow (w.heap.size) 0 [.bool false, .slice sp1 sl1 sc1, .slice tp1 tl1 tc1] w2 := hv3
      have uv3 := setRow_bx' (o := 0) (cs := [.bool false, .slice sp1 sl1 sc1, .slice tp1 tl1 tc1]) (k0.out.gr x2.gr) (by simp) noI_s3
      have y3 : Gr w2 v3 := by rw [sv3]; exact setRow_gr' (o := 0) (cs := [.bool false, .slice sp1 sl1 sc1, .slice tp1 tl1 tc1]) (k0.out.gr x2.gr) (by simp) noI_s3
      have t3 : Hid (∀ t o u, t ≠ (w.heap.size) → At t o u w2 → At t o u v3) := fun t o u h k => by rw [sv3]; exact k.setRow h _ _
      have e3_ : Ext w v3 := by rw [sv3]; exact setRow_below _ _ (by omega) _ _ e2_
      have b0_0 : Hid (At (w.heap.size) 0 (.bool false) v3) := by rw [sv3]; exact uv3.2.1 0 _ rfl
      have b0_1 : Hid (At (w.heap.size) 1 (.slice sp1 sl1 sc1) v3) := by rw [sv3]; exact uv3.2.1 1 _ rfl
      have b0_2 : Hid (At (w.heap.size) 2 (.slice tp1 tl1 tc1) v3) := by rw [sv3]; exact uv3.2.1 2 _ rfl
      have k0 : Hid (Bx 3 (w.heap.size) v3) := by rw [sv3]; exact uv3.1
      rw [← hv3]
      clear hv3 sv3 uv3
      refine (refshow_str (e1.gr y3).2.2.2.1 (by rw [← e1.2.1]; exact HLM.out) s (by rw [val_dig, ← e1.2.1]; exact HS.out)).mono ?_
      rintro e w4 ⟨rfl, x4⟩
      have e4_ : Ext w w4 := Ext.trans e3_ x4
      clear g0_0 g0_1 g0_2 z0_0 z0_1 z0_2 f0 ff0
      have g0_0 := (b0_0.out.ext x4).1
      have g0_2 := (b0_2.out.ext x4).1
      have f0 : w.heap.size < w4.heap.size := (b0_0.out.ext x4).2
      have ff0 : w.heap.size < w4.heap.size + 1 := Nat.lt_succ_of_lt f0
      go_wp2_with fail
      obtain ⟨v5, hv5⟩ : ∃ W, W = (w4.alloc (.cells #[.int .u64 1] 54)) := ⟨_, rfl⟩
      have y5 : Ext w4 v5 := by rw [hv5]; exact ((Ext.refl _).alloc _)
      have r1 : Hid (Limbs v5 (.slice (some ⟨w4.heap.size, 0, none⟩) 1 1) [1]) := by rw [hv5]; exact (lit_n0 [1] (by decide) rfl 1 rfl (by decide)).ext (Ext.refl _)
      have ro1 : Hid (OwnL w.heap.size v5 (.slice (some ⟨w4.heap.size, 0, none⟩) 1 1) [1]) := by rw [hv5]; exact OwnL.ext (lito_n0 [1] (by decide) rfl 1 rfl (by decide) (by first | omega | exact e2_.size | exact e3_.size | exact e4_.size | exact e5_.size)) (Ext.refl _)
      have e5_ : Ext w v5 := Ext.trans e4_ y5
      rw [← hv5]
      clear hv5
      refine (same_bool (e1.gr (y3.trans (x4.gr.trans y5.gr))).2.2.2.2 r1.out true (by rw [← e1.2.2.1]; exact HD.out)).mono ?_
      rintro e w6 ⟨rfl, x6⟩
      have e6_ : Ext w w6 := Ext.trans e5_ x6
      clear g0_0 g0_2 f0 ff0
      go_wp2_with fail
      go_ret
      exact ⟨ret_eq (congrArg Value.string HT.out), e6_⟩
  · have HD : Hid (decide (dig q.den = [1]) = false) := by
      show _ = _
      rw [decide_eq_false_iff_not, ← dig_one one_lt_Bs (by decide), dig_inj]; exact hd
    by_cases hng : q.num < 0
    case pos =>
      have HNG : Hid (decide (q.num < 0) = true) := by show _ = _; simp [hng]
      have HT : Hid ((((⟨#[45]⟩ : ByteArray) ++ s) ++ (⟨#[47]⟩ : ByteArray) ++ u) = t) := by
        show _ = _
        refine byte_eq ?_
        rw [ht]; unfold showR showI; rw [if_pos hng, if_neg hd]; simp [ByteArray.data_append, hs, hu]
      clear ht hs hd hng hk hk1 hu
      go_enter Tryz.func39, Tryz.ntmps39
      go_wp2_with fail
      obtain ⟨v1, hv1⟩ : ∃ W, W = (w.alloc (.cells #[.bool ba, .slice pa qa ra, .slice pa' qa' ra'] 36)) := ⟨_, rfl⟩
      have y1 : Ext w v1 := by rw [hv1]; exact ((Ext.refl _).alloc _)
      have b0_0 : Hid (At (w.heap.size) 0 (.bool ba) v1) := by rw [hv1]; exact At.ext (At.n0 (by rfl)) (Ext.refl _)
      have b0_1 : Hid (At (w.heap.size) 1 (.slice pa qa ra) v1) := by rw [hv1]; exact At.ext (At.n0 (by rfl)) (Ext.refl _)
      have b0_2 : Hid (At (w.heap.size) 2 (.slice pa' qa' ra') v1) := by rw [hv1]; exact At.ext (At.n0 (by rfl)) (Ext.refl _)
      have k0 : Hid (Bx 3 (w.heap.size) v1) := by rw [hv1]; exact Bx.gr (Bx.n0 3 ⟨rfl, by decide⟩ (by decide) noI_s3) (Ext.gr (Ext.refl _))
      have u0 : Hid (w.heap.size < v1.heap.size) := b0_0.out.2
      have e1_ : Ext w v1 := y1
      rw [← hv1]
      clear hv1
      refine (count06_is (ha.ext y1) (by have h1 := HK.out; omega)).mono ?_
      rintro e w2 ⟨sb1, sv1, su1, sm1, sd1, rfl, e1, o1, x2⟩
      have e2_ : Ext w w2 := Ext.trans e1_ x2
      obtain ⟨sp1, sl1, sc1, tp1, tl1, tc1, rfl, rfl⟩ := e1.slice
      have hsb : sb1 = true := e1.1.symm.trans HNG.out
      subst hsb
      have g0_0 := (b0_0.out.ext x2).1
      have g0_1 := (b0_1.out.ext x2).1
      have g0_2 := (b0_2.out.ext x2).1
      have z0_0 := (k0.out.gr x2.gr).free 0
      have z0_1 := (k0.out.gr x2.gr).free 1
      have z0_2 := (k0.out.gr x2.gr).free 2
      have f0 : w.heap.size < w2.heap.size := (b0_0.out.ext x2).2
      have ff0 : w.heap.size < w2.heap.size + 1 := Nat.lt_succ_of_lt f0
      go_wp2_with fail
      obtain ⟨v3, hv3⟩ : ∃ W, W = (((w2.setCell ⟨w.heap.size, 0, none⟩ (.bool true)).setCell ⟨w.heap.size, 1, none⟩ (.slice sp1 sl1 sc1)).setCell ⟨w.heap.size, 2, none⟩ (.slice tp1 tl1 tc1)) := ⟨_, rfl⟩
      have sv3 : v3 = setRow (w.heap.size) 0 [.bool true, .slice sp1 sl1 sc1, .slice tp1 tl1 tc1] w2 := hv3
      have uv3 := setRow_bx' (o := 0) (cs := [.bool true, .slice sp1 sl1 sc1, .slice tp1 tl1 tc1]) (k0.out.gr x2.gr) (by simp) noI_s3
      have y3 : Gr w2 v3 := by rw [sv3]; exact setRow_gr' (o := 0) (cs := [.bool true, .slice sp1 sl1 sc1, .slice tp1 tl1 tc1]) (k0.out.gr x2.gr) (by simp) noI_s3
      have t3 : Hid (∀ t o u, t ≠ (w.heap.size) → At t o u w2 → At t o u v3) := fun t o u h k => by rw [sv3]; exact k.setRow h _ _
      have e3_ : Ext w v3 := by rw [sv3]; exact setRow_below _ _ (by omega) _ _ e2_
      have b0_0 : Hid (At (w.heap.size) 0 (.bool true) v3) := by rw [sv3]; exact uv3.2.1 0 _ rfl
      have b0_1 : Hid (At (w.heap.size) 1 (.slice sp1 sl1 sc1) v3) := by rw [sv3]; exact uv3.2.1 1 _ rfl
      have b0_2 : Hid (At (w.heap.size) 2 (.slice tp1 tl1 tc1) v3) := by rw [sv3]; exact uv3.2.1 2 _ rfl
      have k0 : Hid (Bx 3 (w.heap.size) v3) := by rw [sv3]; exact uv3.1
      rw [← hv3]
      clear hv3 sv3 uv3
      refine (refshow_str (e1.gr y3).2.2.2.1 (by rw [← e1.2.1]; exact HLM.out) s (by rw [val_dig, ← e1.2.1]; exact HS.out)).mono ?_
      rintro e w4 ⟨rfl, x4⟩
      have e4_ : Ext w w4 := Ext.trans e3_ x4
      clear g0_0 g0_1 g0_2 z0_0 z0_1 z0_2 f0 ff0
      have g0_0 := (b0_0.out.ext x4).1
      have g0_2 := (b0_2.out.ext x4).1
      have f0 : w.heap.size < w4.heap.size := (b0_0.out.ext x4).2
      have ff0 : w.heap.size < w4.heap.size + 1 := Nat.lt_succ_of_lt f0
      go_wp2_with fail
      obtain ⟨v5, hv5⟩ : ∃ W, W = (w4.alloc (.cells #[.int .u64 1] 54)) := ⟨_, rfl⟩
      have y5 : Ext w4 v5 := by rw [hv5]; exact ((Ext.refl _).alloc _)
      have r1 : Hid (Limbs v5 (.slice (some ⟨w4.heap.size, 0, none⟩) 1 1) [1]) := by rw [hv5]; exact (lit_n0 [1] (by decide) rfl 1 rfl (by decide)).ext (Ext.refl _)
      have ro1 : Hid (OwnL w.heap.size v5 (.slice (some ⟨w4.heap.size, 0, none⟩) 1 1) [1]) := by rw [hv5]; exact OwnL.ext (lito_n0 [1] (by decide) rfl 1 rfl (by decide) (by first | omega | exact e2_.size | exact e3_.size | exact e4_.size | exact e5_.size)) (Ext.refl _)
      have e5_ : Ext w v5 := Ext.trans e4_ y5
      rw [← hv5]
      clear hv5
      refine (same_bool (e1.gr (y3.trans (x4.gr.trans y5.gr))).2.2.2.2 r1.out false (by rw [← e1.2.2.1]; exact HD.out)).mono ?_
      rintro e w6 ⟨rfl, x6⟩
      have e6_ : Ext w w6 := Ext.trans e5_ x6
      clear g0_0 g0_2 f0 ff0
      have g0_2 := (b0_2.out.ext (x4.trans (y5.trans x6))).1
      have f0 : w.heap.size < w6.heap.size := (b0_0.out.ext (x4.trans (y5.trans x6))).2
      have ff0 : w.heap.size < w6.heap.size + 1 := Nat.lt_succ_of_lt f0
      go_wp2_with fail
      refine (refshow_str (e1.gr (y3.trans (x4.gr.trans (y5.gr.trans x6.gr)))).2.2.2.2 (by rw [← e1.2.2.1]; exact HLD.out) u (by rw [val_dig, ← e1.2.2.1]; exact HU.out)).mono ?_
      rintro e w7 ⟨rfl, x7⟩
      have e7_ : Ext w w7 := Ext.trans e6_ x7
      clear g0_2 f0 ff0
      go_wp2_with fail
      go_ret
      exact ⟨ret_eq (congrArg Value.string HT.out), e7_⟩
    case neg =>
      have HNG : Hid (decide (q.num < 0) = false) := by show _ = _; simp [hng]
      have HT : Hid ((s ++ (⟨#[47]⟩ : ByteArray) ++ u) = t) := by
        show _ = _
        refine byte_eq ?_
        rw [ht]; unfold showR showI; rw [if_neg hng, if_neg hd]; simp [ByteArray.data_append, hs, hu]
      clear ht hs hd hng hk hk1 hu
      go_enter Tryz.func39, Tryz.ntmps39
      go_wp2_with fail
      obtain ⟨v1, hv1⟩ : ∃ W, W = (w.alloc (.cells #[.bool ba, .slice pa qa ra, .slice pa' qa' ra'] 36)) := ⟨_, rfl⟩
      have y1 : Ext w v1 := by rw [hv1]; exact ((Ext.refl _).alloc _)
      have b0_0 : Hid (At (w.heap.size) 0 (.bool ba) v1) := by rw [hv1]; exact At.ext (At.n0 (by rfl)) (Ext.refl _)
      have b0_1 : Hid (At (w.heap.size) 1 (.slice pa qa ra) v1) := by rw [hv1]; exact At.ext (At.n0 (by rfl)) (Ext.refl _)
      have b0_2 : Hid (At (w.heap.size) 2 (.slice pa' qa' ra') v1) := by rw [hv1]; exact At.ext (At.n0 (by rfl)) (Ext.refl _)
      have k0 : Hid (Bx 3 (w.heap.size) v1) := by rw [hv1]; exact Bx.gr (Bx.n0 3 ⟨rfl, by decide⟩ (by decide) noI_s3) (Ext.gr (Ext.refl _))
      have u0 : Hid (w.heap.size < v1.heap.size) := b0_0.out.2
      have e1_ : Ext w v1 := y1
      rw [← hv1]
      clear hv1
      refine (count06_is (ha.ext y1) (by have h1 := HK.out; omega)).mono ?_
      rintro e w2 ⟨sb1, sv1, su1, sm1, sd1, rfl, e1, o1, x2⟩
      have e2_ : Ext w w2 := Ext.trans e1_ x2
      obtain ⟨sp1, sl1, sc1, tp1, tl1, tc1, rfl, rfl⟩ := e1.slice
      have hsb : sb1 = false := e1.1.symm.trans HNG.out
      subst hsb
      have g0_0 := (b0_0.out.ext x2).1
      have g0_1 := (b0_1.out.ext x2).1
      have g0_2 := (b0_2.out.ext x2).1
      have z0_0 := (k0.out.gr x2.gr).free 0
      have z0_1 := (k0.out.gr x2.gr).free 1
      have z0_2 := (k0.out.gr x2.gr).free 2
      have f0 : w.heap.size < w2.heap.size := (b0_0.out.ext x2).2
      have ff0 : w.heap.size < w2.heap.size + 1 := Nat.lt_succ_of_lt f0
      go_wp2_with fail
      obtain ⟨v3, hv3⟩ : ∃ W, W = (((w2.setCell ⟨w.heap.size, 0, none⟩ (.bool false)).setCell ⟨w.heap.size, 1, none⟩ (.slice sp1 sl1 sc1)).setCell ⟨w.heap.size, 2, none⟩ (.slice tp1 tl1 tc1)) := ⟨_, rfl⟩
      have sv3 : v3 = setRow (w.heap.size) 0 [.bool false, .slice sp1 sl1 sc1, .slice tp1 tl1 tc1] w2 := hv3
      have uv3 := setRow_bx' (o := 0) (cs := [.bool false, .slice sp1 sl1 sc1, .slice tp1 tl1 tc1]) (k0.out.gr x2.gr) (by simp) noI_s3
      have y3 : Gr w2 v3 := by rw [sv3]; exact setRow_gr' (o := 0) (cs := [.bool false, .slice sp1 sl1 sc1, .slice tp1 tl1 tc1]) (k0.out.gr x2.gr) (by simp) noI_s3
      have t3 : Hid (∀ t o u, t ≠ (w.heap.size) → At t o u w2 → At t o u v3) := fun t o u h k => by rw [sv3]; exact k.setRow h _ _
      have e3_ : Ext w v3 := by rw [sv3]; exact setRow_below _ _ (by omega) _ _ e2_
      have b0_0 : Hid (At (w.heap.size) 0 (.bool false) v3) := by rw [sv3]; exact uv3.2.1 0 _ rfl
      have b0_1 : Hid (At (w.heap.size) 1 (.slice sp1 sl1 sc1) v3) := by rw [sv3]; exact uv3.2.1 1 _ rfl
      have b0_2 : Hid (At (w.heap.size) 2 (.slice tp1 tl1 tc1) v3) := by rw [sv3]; exact uv3.2.1 2 _ rfl
      have k0 : Hid (Bx 3 (w.heap.size) v3) := by rw [sv3]; exact uv3.1
      rw [← hv3]
      clear hv3 sv3 uv3
      refine (refshow_str (e1.gr y3).2.2.2.1 (by rw [← e1.2.1]; exact HLM.out) s (by rw [val_dig, ← e1.2.1]; exact HS.out)).mono ?_
      rintro e w4 ⟨rfl, x4⟩
      have e4_ : Ext w w4 := Ext.trans e3_ x4
      clear g0_0 g0_1 g0_2 z0_0 z0_1 z0_2 f0 ff0
      have g0_0 := (b0_0.out.ext x4).1
      have g0_2 := (b0_2.out.ext x4).1
      have f0 : w.heap.size < w4.heap.size := (b0_0.out.ext x4).2
      have ff0 : w.heap.size < w4.heap.size + 1 := Nat.lt_succ_of_lt f0
      go_wp2_with fail
      obtain ⟨v5, hv5⟩ : ∃ W, W = (w4.alloc (.cells #[.int .u64 1] 54)) := ⟨_, rfl⟩
      have y5 : Ext w4 v5 := by rw [hv5]; exact ((Ext.refl _).alloc _)
      have r1 : Hid (Limbs v5 (.slice (some ⟨w4.heap.size, 0, none⟩) 1 1) [1]) := by rw [hv5]; exact (lit_n0 [1] (by decide) rfl 1 rfl (by decide)).ext (Ext.refl _)
      have ro1 : Hid (OwnL w.heap.size v5 (.slice (some ⟨w4.heap.size, 0, none⟩) 1 1) [1]) := by rw [hv5]; exact OwnL.ext (lito_n0 [1] (by decide) rfl 1 rfl (by decide) (by first | omega | exact e2_.size | exact e3_.size | exact e4_.size | exact e5_.size)) (Ext.refl _)
      have e5_ : Ext w v5 := Ext.trans e4_ y5
      rw [← hv5]
      clear hv5
      refine (same_bool (e1.gr (y3.trans (x4.gr.trans y5.gr))).2.2.2.2 r1.out false (by rw [← e1.2.2.1]; exact HD.out)).mono ?_
      rintro e w6 ⟨rfl, x6⟩
      have e6_ : Ext w w6 := Ext.trans e5_ x6
      clear g0_0 g0_2 f0 ff0
      have g0_2 := (b0_2.out.ext (x4.trans (y5.trans x6))).1
      have f0 : w.heap.size < w6.heap.size := (b0_0.out.ext (x4.trans (y5.trans x6))).2
      have ff0 : w.heap.size < w6.heap.size + 1 := Nat.lt_succ_of_lt f0
      go_wp2_with fail
      refine (refshow_str (e1.gr (y3.trans (x4.gr.trans (y5.gr.trans x6.gr)))).2.2.2.2 (by rw [← e1.2.2.1]; exact HLD.out) u (by rw [val_dig, ← e1.2.2.1]; exact HU.out)).mono ?_
      rintro e w7 ⟨rfl, x7⟩
      have e7_ : Ext w w7 := Ext.trans e6_ x7
      clear g0_2 f0 ff0
      go_wp2_with fail
      go_ret
      exact ⟨ret_eq (congrArg Value.string HT.out), e7_⟩

set_option maxHeartbeats 1000000 in
set_option maxRecDepth 100000 in
theorem rread06_e1 (s : ByteArray) (w : World) (hs : s.size ≤ 500) (hi : Lib.indexByte s.data.toList 47 = -1) (k : Int) (hk : ((errI s.data.toList : Nat) : Int) = k) (h0 : (k != 0) = true) :
    Calls Tryz.prog 36 #[.string s] w (RetRE w k) := by
  have hget : ∀ i (h : i < s.size), ((s[i]'h).toNat : Int) = (bn s.data.toList i : Int) := fun i h => bn_get s i h
  have hsi : (s.size : Int) ≤ 500 := by omega
  have HL : Hid (s.size ≤ s.size) := Nat.le_refl _
  have HNE : Hid (∀ i, i < s.size → bn s.data.toList i ≠ 47) := fun i h => slash_none (.inl hi) h (by rw [← Lib.size_eq s]; exact Nat.le_refl _)
  have HS1 := Lib.hid hs
  have HE := Lib.hid hk
  obtain ⟨z, hz⟩ : ∃ z, readI s.data.toList = z := ⟨_, rfl⟩
  have HZ := Lib.hid hz
  clear hi hs hk hz
  go_enter Tryz.func36, Tryz.ntmps36
  go_wp2_with fail
  obtain ⟨v1, hv1⟩ : ∃ W, W = (w.alloc (.cells #[.bool false, .slice none 0 0, .slice none 0 0] 36)) := ⟨_, rfl⟩
  have y1 : Ext w v1 := by rw [hv1]; exact ((Ext.refl _).alloc _)
  have b0_0 : Hid (At (w.heap.size) 0 (.bool false) v1) := by rw [hv1]; exact At.ext (At.n0 (by rfl)) (Ext.refl _)
  have b0_1 : Hid (At (w.heap.size) 1 (.slice none 0 0) v1) := by rw [hv1]; exact At.ext (At.n0 (by rfl)) (Ext.refl _)
  have b0_2 : Hid (At (w.heap.size) 2 (.slice none 0 0) v1) := by rw [hv1]; exact At.ext (At.n0 (by rfl)) (Ext.refl _)
  have k0 : Hid (Bx 3 (w.heap.size) v1) := by rw [hv1]; exact Bx.gr (Bx.n0 3 ⟨rfl, by decide⟩ (by decide) noI_s3) (Ext.gr (Ext.refl _))
  have u0 : Hid (w.heap.size < v1.heap.size) := b0_0.out.2
  have e1_ : Ext w v1 := y1
  rw [← hv1]
  clear hv1
  go_loop [4] (fun v4 => ∃ i : Nat, v4 = .int .i64 (i : Int) ∧ i ≤ s.size) (fun v4 => s.size - (intOf v4).toNat)
  case atStart => exact ⟨0, rfl, Nat.zero_le _⟩
  case round =>
    obtain ⟨i, rfl, hi⟩ := hrel
    by_cases hin : i < s.size
    · have LT := Lib.hid hin
      have hb := HNE.out i hin
      have his : i < s.size := by have := HL.out; omega
      have t1 : ((bn s.data.toList i : Int) != 47) = true := by rw [bne_iff_ne]; omega
      clear hi hin hb
      go_wp2_with fail
      exact ⟨⟨i + 1, by go_num, LT.out⟩, by simp [intOf]; omega⟩
    obtain rfl : i = s.size := by omega
    clear hin hi
    go_wp2_with fail
    refine (refread_z s _ HS1.out k z HE.out HZ.out).mono ?_
    rintro e w2 ⟨sb1, sv1, sm1, rfl, e1, o1, x2⟩
    have e2_ : Ext w w2 := Ext.trans e1_ x2
    obtain ⟨sp1, sl1, sc1, rfl⟩ := e1.slice
    have g0_0 := (b0_0.out.ext x2).1
    have g0_1 := (b0_1.out.ext x2).1
    have g0_2 := (b0_2.out.ext x2).1
    have z0_0 := (k0.out.gr x2.gr).free 0
    have z0_1 := (k0.out.gr x2.gr).free 1
    have z0_2 := (k0.out.gr x2.gr).free 2
    have f0 : w.heap.size < w2.heap.size := (b0_0.out.ext x2).2
    have ff0 : w.heap.size < w2.heap.size + 1 := Nat.lt_succ_of_lt f0
    go_wp2_with fail
    obtain ⟨v3, hv3⟩ : ∃ W, W = (((w2.setCell ⟨w.heap.size, 0, none⟩ (.bool false)).setCell ⟨w.heap.size, 1, none⟩ (.slice none 0 0)).setCell ⟨w.heap.size, 2, none⟩ (.slice none 0 0)) := ⟨_, rfl⟩
    have sv3 : v3 = setRow (w.heap.size) 0 [.bool false, .slice none 0 0, .slice none 0 0] w2 := hv3
    have uv3 := setRow_bx' (o := 0) (cs := [.bool false, .slice none 0 0, .slice none 0 0]) (k0.out.gr x2.gr) (by simp) noI_s3
    have y3 : Gr w2 v3 := by rw [sv3]; exact setRow_gr' (o := 0) (cs := [.bool false, .slice none 0 0, .slice none 0 0]) (k0.out.gr x2.gr) (by simp) noI_s3
    have t3 : Hid (∀ t o u, t ≠ (w.heap.size) → At t o u w2 → At t o u v3) := fun t o u h k => by rw [sv3]; exact k.setRow h _ _
    have e3_ : Ext w v3 := by rw [sv3]; exact setRow_below _ _ (by omega) _ _ e2_
    have zz3 : v3.heap.size = w2.heap.size := by rw [sv3, setRow_size]
    have b0_0 : Hid (At (w.heap.size) 0 (.bool false) v3) := by rw [sv3]; exact uv3.2.1 0 _ rfl
    have b0_1 : Hid (At (w.heap.size) 1 (.slice none 0 0) v3) := by rw [sv3]; exact uv3.2.1 1 _ rfl
    have b0_2 : Hid (At (w.heap.size) 2 (.slice none 0 0) v3) := by rw [sv3]; exact uv3.2.1 2 _ rfl
    have k0 : Hid (Bx 3 (w.heap.size) v3) := by rw [sv3]; exact uv3.1
    rw [← hv3]
    clear hv3 sv3 uv3
    obtain ⟨v4, hv4⟩ : ∃ W, W = (v3.alloc (.cells #[.bool sb1, .slice sp1 sl1 sc1] 25)) := ⟨_, rfl⟩
    have y4 : Ext v3 v4 := by rw [hv4]; exact ((Ext.refl _).alloc _)
    have b1_0 : Hid (At (w2.heap.size) 0 (.bool sb1) v4) := by rw [← zz3, hv4]; exact At.ext (At.n0 (by rfl)) (Ext.refl _)
    have b1_1 : Hid (At (w2.heap.size) 1 (.slice sp1 sl1 sc1) v4) := by rw [← zz3, hv4]; exact At.ext (At.n0 (by rfl)) (Ext.refl _)
    have k1 : Hid (Bx 2 (w2.heap.size) v4) := by rw [← zz3, hv4]; exact Bx.gr (Bx.n0 2 ⟨rfl, by decide⟩ (by decide) noI_s2) (Ext.gr (Ext.refl _))
    have u1 : Hid (w2.heap.size < v4.heap.size) := b1_0.out.2
    have e4_ : Ext w v4 := Ext.trans e3_ y4
    rw [← hv4]
    clear hv4
    have c0 := (b0_0.out.ext y4).1
    have c1 := (b0_1.out.ext y4).1
    have c2 := (b0_2.out.ext y4).1
    refine bodyPost_ret (v := .tuple #[.agg #[.bool false, .slice none 0 0, .slice none 0 0], .int .i64 k]) (by simp [results, Tryz.results36, go_sem, c0, c1, c2]) rfl ?_
    exact ⟨rfl, e4_⟩

set_option maxHeartbeats 1000000 in
set_option maxRecDepth 100000 in
theorem rread06_o1 (s : ByteArray) (w : World) (hs : s.size ≤ 500) (hi : Lib.indexByte s.data.toList 47 = -1) (z : Int) (hk : ((errI s.data.toList : Nat) : Int) = 0) (hz : readI s.data.toList = z) :
    Calls Tryz.prog 36 #[.string s] w (RetR0 w (z : Rat)) := by
  have hget : ∀ i (h : i < s.size), ((s[i]'h).toNat : Int) = (bn s.data.toList i : Int) := fun i h => bn_get s i h
  have hsi : (s.size : Int) ≤ 500 := by omega
  have HL : Hid (s.size ≤ s.size) := Nat.le_refl _
  have HNE : Hid (∀ i, i < s.size → bn s.data.toList i ≠ 47) := fun i h => slash_none (.inl hi) h (by rw [← Lib.size_eq s]; exact Nat.le_refl _)
  have HS1 := Lib.hid hs
  have HE := Lib.hid hk
  have HZ := Lib.hid hz
  clear hi hs hk hz
  go_enter Tryz.func36, Tryz.ntmps36
  go_wp2_with fail
  obtain ⟨v1, hv1⟩ : ∃ W, W = (w.alloc (.cells #[.bool false, .slice none 0 0, .slice none 0 0] 36)) := ⟨_, rfl⟩
  have y1 : Ext w v1 := by rw [hv1]; exact ((Ext.refl _).alloc _)
  have b0_0 : Hid (At (w.heap.size) 0 (.bool false) v1) := by rw [hv1]; exact At.ext (At.n0 (by rfl)) (Ext.refl _)
  have b0_1 : Hid (At (w.heap.size) 1 (.slice none 0 0) v1) := by rw [hv1]; exact At.ext (At.n0 (by rfl)) (Ext.refl _)
  have b0_2 : Hid (At (w.heap.size) 2 (.slice none 0 0) v1) := by rw [hv1]; exact At.ext (At.n0 (by rfl)) (Ext.refl _)
  have k0 : Hid (Bx 3 (w.heap.size) v1) := by rw [hv1]; exact Bx.gr (Bx.n0 3 ⟨rfl, by decide⟩ (by decide) noI_s3) (Ext.gr (Ext.refl _))
  have u0 : Hid (w.heap.size < v1.heap.size) := b0_0.out.2
  have e1_ : Ext w v1 := y1
  rw [← hv1]
  clear hv1
  go_loop [4] (fun v4 => ∃ i : Nat, v4 = .int .i64 (i : Int) ∧ i ≤ s.size) (fun v4 => s.size - (intOf v4).toNat)
  case atStart => exact ⟨0, rfl, Nat.zero_le _⟩
  case round =>
    obtain ⟨i, rfl, hi⟩ := hrel
    by_cases hin : i < s.size
    · have LT := Lib.hid hin
      have hb := HNE.out i hin
      have his : i < s.size := by have := HL.out; omega
      have t1 : ((bn s.data.toList i : Int) != 47) = true := by rw [bne_iff_ne]; omega
      clear hi hin hb
      go_wp2_with fail
      exact ⟨⟨i + 1, by go_num, LT.out⟩, by simp [intOf]; omega⟩
    obtain rfl : i = s.size := by omega
    clear hin hi
    go_wp2_with fail
    refine (refread_z s _ HS1.out 0 z HE.out HZ.out).mono ?_
    rintro e w2 ⟨sb1, sv1, sm1, rfl, e1, o1, x2⟩
    have e2_ : Ext w w2 := Ext.trans e1_ x2
    obtain ⟨sp1, sl1, sc1, rfl⟩ := e1.slice
    have g0_0 := (b0_0.out.ext x2).1
    have g0_1 := (b0_1.out.ext x2).1
    have g0_2 := (b0_2.out.ext x2).1
    have z0_0 := (k0.out.gr x2.gr).free 0
    have z0_1 := (k0.out.gr x2.gr).free 1
    have z0_2 := (k0.out.gr x2.gr).free 2
    have f0 : w.heap.size < w2.heap.size := (b0_0.out.ext x2).2
    have ff0 : w.heap.size < w2.heap.size + 1 := Nat.lt_succ_of_lt f0
    go_wp2_with fail
    obtain ⟨v3, hv3⟩ : ∃ W, W = (((w2.setCell ⟨w.heap.size, 0, none⟩ (.bool sb1)).setCell ⟨w.heap.size, 1, none⟩ (.slice sp1 sl1 sc1)).setCell ⟨w.heap.size, 2, none⟩ (.slice (some ⟨w2.heap.size + 1, 0, none⟩) 1 1)) := ⟨_, rfl⟩
    have sv3 : v3 = setRow (w.heap.size) 0 [.bool sb1, .slice sp1 sl1 sc1, .slice (some ⟨w2.heap.size + 1, 0, none⟩) 1 1] w2 := hv3
    have uv3 := setRow_bx' (o := 0) (cs := [.bool sb1, .slice sp1 sl1 sc1, .slice (some ⟨w2.heap.size + 1, 0, none⟩) 1 1]) (k0.out.gr x2.gr) (by simp) noI_s3
    have y3 : Gr w2 v3 := by rw [sv3]; exact setRow_gr' (o := 0) (cs := [.bool sb1, .slice sp1 sl1 sc1, .slice (some ⟨w2.heap.size + 1, 0, none⟩) 1 1]) (k0.out.gr x2.gr) (by simp) noI_s3
    have t3 : Hid (∀ t o u, t ≠ (w.heap.size) → At t o u w2 → At t o u v3) := fun t o u h k => by rw [sv3]; exact k.setRow h _ _
    have e3_ : Ext w v3 := by rw [sv3]; exact setRow_below _ _ (by omega) _ _ e2_
    have zz3 : v3.heap.size = w2.heap.size := by rw [sv3, setRow_size]
    have b0_0 : Hid (At (w.heap.size) 0 (.bool sb1) v3) := by rw [sv3]; exact uv3.2.1 0 _ rfl
    have b0_1 : Hid (At (w.heap.size) 1 (.slice sp1 sl1 sc1) v3) := by rw [sv3]; exact uv3.2.1 1 _ rfl
    have b0_2 : Hid (At (w.heap.size) 2 (.slice (some ⟨w2.heap.size + 1, 0, none⟩) 1 1) v3) := by rw [sv3]; exact uv3.2.1 2 _ rfl
    have k0 : Hid (Bx 3 (w.heap.size) v3) := by rw [sv3]; exact uv3.1
    rw [← hv3]
    clear hv3 sv3 uv3
    obtain ⟨v4, hv4⟩ : ∃ W, W = ((v3.alloc (.cells #[.bool sb1, .slice sp1 sl1 sc1] 25)).alloc (.cells #[.int .u64 1] 54)) := ⟨_, rfl⟩
    have y4 : Ext v3 v4 := by rw [hv4]; exact (((Ext.refl _).alloc _).alloc _)
    have b1_0 : Hid (At (w2.heap.size) 0 (.bool sb1) v4) := by rw [← zz3, hv4]; exact At.ext (At.n0 (by rfl)) ((Ext.refl _).alloc _)
    have b1_1 : Hid (At (w2.heap.size) 1 (.slice sp1 sl1 sc1) v4) := by rw [← zz3, hv4]; exact At.ext (At.n0 (by rfl)) ((Ext.refl _).alloc _)
    have k1 : Hid (Bx 2 (w2.heap.size) v4) := by rw [← zz3, hv4]; exact Bx.gr (Bx.n0 2 ⟨rfl, by decide⟩ (by decide) noI_s2) (Ext.gr ((Ext.refl _).alloc _))
    have u1 : Hid (w2.heap.size < v4.heap.size) := b1_0.out.2
    have r2 : Hid (Limbs v4 (.slice (some ⟨w2.heap.size + 1, 0, none⟩) 1 1) [1]) := by rw [← zz3, hv4]; exact (lit_n1 [1] (by decide) rfl 1 rfl (by decide)).ext (Ext.refl _)
    have ro2 : Hid (OwnL w.heap.size v4 (.slice (some ⟨w2.heap.size + 1, 0, none⟩) 1 1) [1]) := by rw [← zz3, hv4]; exact OwnL.ext (lito_n1 [1] (by decide) rfl 1 rfl (by decide) (by first | omega | exact e1_.size | exact e2_.size | exact e3_.size | exact e4_.size)) (Ext.refl _)
    have e4_ : Ext w v4 := Ext.trans e3_ y4
    rw [← hv4]
    clear hv4
    have c0 := (b0_0.out.ext y4).1
    have c1 := (b0_1.out.ext y4).1
    have c2 := (b0_2.out.ext y4).1
    refine bodyPost_ret (v := .tuple #[.agg #[.bool sb1, .slice sp1 sl1 sc1, .slice (some ⟨w2.heap.size + 1, 0, none⟩) 1 1], .int .i64 0]) (by simp [results, Tryz.results36, go_sem, c0, c1, c2]) rfl ?_
    exact ⟨_, _, _, _, _, rfl, isR_mk (q := (z : Rat)) (e1.gr (y3.trans y4.gr)) (lit_dig r2.out (by decide) (by decide)) rfl, ⟨((o1.gr (y3.trans y4.gr)).mono e1_.size), by rw [dig_one one_lt_Bs (by decide)]; exact ro2.out⟩, e4_⟩

set_option maxHeartbeats 1000000 in
set_option maxRecDepth 100000 in
theorem rread06_e2 (s : ByteArray) (w : World) (n : Nat) (hs : s.size ≤ 500) (hl : n < s.size) (hi : Lib.indexByte s.data.toList 47 = n) (k : Int) (hk : ((errI (s.data.toList.take n) : Nat) : Int) = k) (h0 : (k != 0) = true) :
    Calls Tryz.prog 36 #[.string s] w (RetRE w k) := by
  have hget : ∀ i (h : i < s.size), ((s[i]'h).toNat : Int) = (bn s.data.toList i : Int) := fun i h => bn_get s i h
  have hsi : (s.size : Int) ≤ 500 := by omega
  have HL := Lib.hid hl
  have HNE : Hid (∀ i, i < n → bn s.data.toList i ≠ 47) := fun i h => slash_none (.inr hi) h (by rw [← Lib.size_eq s]; omega)
  have H47 : Hid (bn s.data.toList n = 47) := slash_pos (by rw [← Lib.size_eq s]; exact hl) hi
  have HS1 : Hid ((s.extract 0 n).size ≤ 500) := by show _ ≤ _; rw [Lib.size_eq, extract_take']; simp; omega
  have HS2 : Hid ((s.extract (n + 1) s.size).size ≤ maxLen) := by show _ ≤ _; rw [Lib.size_eq, extract_from_toList]; simp [maxLen]; omega
  obtain ⟨z, hz⟩ : ∃ z, readI (s.data.toList.take n) = z := ⟨_, rfl⟩
  obtain ⟨d, hd⟩ : ∃ d, readN (s.data.toList.drop (n + 1)) = d := ⟨_, rfl⟩
  have HZ : Hid (readI (s.extract 0 n).data.toList = z) := by show _ = _; rw [extract_take']; exact hz
  have HD : Hid (readN (s.extract (n + 1) s.size).data.toList = d) := by show _ = _; rw [extract_from_toList]; exact hd
  have HE0 : ∀ k : Int, ((errI (s.data.toList.take n) : Nat) : Int) = k → Hid (((errI (s.extract 0 n).data.toList : Nat) : Int) = k) := fun k h => by show _ = _; rw [extract_take']; exact h
  have HF0 : ∀ k : Int, ((errR (s.data.toList.drop (n + 1)) : Nat) : Int) = k → Hid (((errR (s.extract (n + 1) s.size).data.toList : Nat) : Int) = k) := fun k h => by show _ = _; rw [extract_from_toList]; exact h
  have HE := HE0 k hk
  clear hi hs hl hz hd HE0 HF0 hk
  go_enter Tryz.func36, Tryz.ntmps36
  go_wp2_with fail
  obtain ⟨v1, hv1⟩ : ∃ W, W = (w.alloc (.cells #[.bool false, .slice none 0 0, .slice none 0 0] 36)) := ⟨_, rfl⟩
  have y1 : Ext w v1 := by rw [hv1]; exact ((Ext.refl _).alloc _)
  have b0_0 : Hid (At (w.heap.size) 0 (.bool false) v1) := by rw [hv1]; exact At.ext (At.n0 (by rfl)) (Ext.refl _)
  have b0_1 : Hid (At (w.heap.size) 1 (.slice none 0 0) v1) := by rw [hv1]; exact At.ext (At.n0 (by rfl)) (Ext.refl _)
  have b0_2 : Hid (At (w.heap.size) 2 (.slice none 0 0) v1) := by rw [hv1]; exact At.ext (At.n0 (by rfl)) (Ext.refl _)
  have k0 : Hid (Bx 3 (w.heap.size) v1) := by rw [hv1]; exact Bx.gr (Bx.n0 3 ⟨rfl, by decide⟩ (by decide) noI_s3) (Ext.gr (Ext.refl _))
  have u0 : Hid (w.heap.size < v1.heap.size) := b0_0.out.2
  have e1_ : Ext w v1 := y1
  rw [← hv1]
  clear hv1
  go_loop [4] (fun v4 => ∃ i : Nat, v4 = .int .i64 (i : Int) ∧ i ≤ n) (fun v4 => s.size - (intOf v4).toNat)
  case atStart => exact ⟨0, rfl, Nat.zero_le _⟩
  case round =>
    obtain ⟨i, rfl, hi⟩ := hrel
    by_cases hin : i < n
    · have LT := Lib.hid hin
      have hb := HNE.out i hin
      have his : i < s.size := by have := HL.out; omega
      have t1 : ((bn s.data.toList i : Int) != 47) = true := by rw [bne_iff_ne]; omega
      clear hi hin hb
      go_wp2_with fail
      exact ⟨⟨i + 1, by go_num, LT.out⟩, by simp [intOf]; omega⟩
    obtain rfl : n = i := by omega
    clear hin hi
    have hil := HL.out
    have t1 : ((bn s.data.toList n : Int) != 47) = false := by rw [bne_eq_false_iff_eq]; have := H47.out; omega
    go_wp2_with fail
    refine (refread_z (s.extract 0 n) _ HS1.out k z HE.out HZ.out).mono ?_
    rintro e w2 ⟨sb1, sv1, sm1, rfl, e1, o1, x2⟩
    have e2_ : Ext w w2 := Ext.trans e1_ x2
    obtain ⟨sp1, sl1, sc1, rfl⟩ := e1.slice
    have g0_0 := (b0_0.out.ext x2).1
    have g0_1 := (b0_1.out.ext x2).1
    have g0_2 := (b0_2.out.ext x2).1
    have z0_0 := (k0.out.gr x2.gr).free 0
    have z0_1 := (k0.out.gr x2.gr).free 1
    have z0_2 := (k0.out.gr x2.gr).free 2
    have f0 : w.heap.size < w2.heap.size := (b0_0.out.ext x2).2
    have ff0 : w.heap.size < w2.heap.size + 1 := Nat.lt_succ_of_lt f0
    go_wp2_with fail
    obtain ⟨v3, hv3⟩ : ∃ W, W = (((w2.setCell ⟨w.heap.size, 0, none⟩ (.bool false)).setCell ⟨w.heap.size, 1, none⟩ (.slice none 0 0)).setCell ⟨w.heap.size, 2, none⟩ (.slice none 0 0)) := ⟨_, rfl⟩
    have sv3 : v3 = setRow (w.heap.size) 0 [.bool false, .slice none 0 0, .slice none 0 0] w2 := hv3
    have uv3 := setRow_bx' (o := 0) (cs := [.bool false, .slice none 0 0, .slice none 0 0]) (k0.out.gr x2.gr) (by simp) noI_s3
    have y3 : Gr w2 v3 := by rw [sv3]; exact setRow_gr' (o := 0) (cs := [.bool false, .slice none 0 0, .slice none 0 0]) (k0.out.gr x2.gr) (by simp) noI_s3
    have t3 : Hid (∀ t o u, t ≠ (w.heap.size) → At t o u w2 → At t o u v3) := fun t o u h k => by rw [sv3]; exact k.setRow h _ _
    have e3_ : Ext w v3 := by rw [sv3]; exact setRow_below _ _ (by omega) _ _ e2_
    have zz3 : v3.heap.size = w2.heap.size := by rw [sv3, setRow_size]
    have b0_0 : Hid (At (w.heap.size) 0 (.bool false) v3) := by rw [sv3]; exact uv3.2.1 0 _ rfl
    have b0_1 : Hid (At (w.heap.size) 1 (.slice none 0 0) v3) := by rw [sv3]; exact uv3.2.1 1 _ rfl
    have b0_2 : Hid (At (w.heap.size) 2 (.slice none 0 0) v3) := by rw [sv3]; exact uv3.2.1 2 _ rfl
    have k0 : Hid (Bx 3 (w.heap.size) v3) := by rw [sv3]; exact uv3.1
    rw [← hv3]
    clear hv3 sv3 uv3
    obtain ⟨v4, hv4⟩ : ∃ W, W = (v3.alloc (.cells #[.bool sb1, .slice sp1 sl1 sc1] 25)) := ⟨_, rfl⟩
    have y4 : Ext v3 v4 := by rw [hv4]; exact ((Ext.refl _).alloc _)
    have b1_0 : Hid (At (w2.heap.size) 0 (.bool sb1) v4) := by rw [← zz3, hv4]; exact At.ext (At.n0 (by rfl)) (Ext.refl _)
    have b1_1 : Hid (At (w2.heap.size) 1 (.slice sp1 sl1 sc1) v4) := by rw [← zz3, hv4]; exact At.ext (At.n0 (by rfl)) (Ext.refl _)
    have k1 : Hid (Bx 2 (w2.heap.size) v4) := by rw [← zz3, hv4]; exact Bx.gr (Bx.n0 2 ⟨rfl, by decide⟩ (by decide) noI_s2) (Ext.gr (Ext.refl _))
    have u1 : Hid (w2.heap.size < v4.heap.size) := b1_0.out.2
    have e4_ : Ext w v4 := Ext.trans e3_ y4
    rw [← hv4]
    clear hv4
    have c0 := (b0_0.out.ext y4).1
    have c1 := (b0_1.out.ext y4).1
    have c2 := (b0_2.out.ext y4).1
    refine bodyPost_ret (v := .tuple #[.agg #[.bool false, .slice none 0 0, .slice none 0 0], .int .i64 k]) (by simp [results, Tryz.results36, go_sem, c0, c1, c2]) rfl ?_
    exact ⟨rfl, e4_⟩

set_option maxHeartbeats 1000000 in
set_option maxRecDepth 100000 in
theorem rread06_e3 (s : ByteArray) (w : World) (n : Nat) (hs : s.size ≤ 500) (hl : n < s.size) (hi : Lib.indexByte s.data.toList 47 = n) (k : Int) (hk : ((errI (s.data.toList.take n) : Nat) : Int) = 0) (hf : ((errR (s.data.toList.drop (n + 1)) : Nat) : Int) = k) (h0 : (k != 0) = true) :
    Calls Tryz.prog 36 #[.string s] w (RetRE w k) := by
  have hget : ∀ i (h : i < s.size), ((s[i]'h).toNat : Int) = (bn s.data.toList i : Int) := fun i h => bn_get s i h
  have hsi : (s.size : Int) ≤ 500 := by omega
  have HL := Lib.hid hl
  have HNE : Hid (∀ i, i < n → bn s.data.toList i ≠ 47) := fun i h => slash_none (.inr hi) h (by rw [← Lib.size_eq s]; omega)
  have H47 : Hid (bn s.data.toList n = 47) := slash_pos (by rw [← Lib.size_eq s]; exact hl) hi
  have HS1 : Hid ((s.extract 0 n).size ≤ 500) := by show _ ≤ _; rw [Lib.size_eq, extract_take']; simp; omega
  have HS2 : Hid ((s.extract (n + 1) s.size).size ≤ maxLen) := by show _ ≤ _; rw [Lib.size_eq, extract_from_toList]; simp [maxLen]; omega
  obtain ⟨z, hz⟩ : ∃ z, readI (s.data.toList.take n) = z := ⟨_, rfl⟩
  obtain ⟨d, hd⟩ : ∃ d, readN (s.data.toList.drop (n + 1)) = d := ⟨_, rfl⟩
  have HZ : Hid (readI (s.extract 0 n).data.toList = z) := by show _ = _; rw [extract_take']; exact hz
  have HD : Hid (readN (s.extract (n + 1) s.size).data.toList = d) := by show _ = _; rw [extract_from_toList]; exact hd
  have HE0 : ∀ k : Int, ((errI (s.data.toList.take n) : Nat) : Int) = k → Hid (((errI (s.extract 0 n).data.toList : Nat) : Int) = k) := fun k h => by show _ = _; rw [extract_take']; exact h
  have HF0 : ∀ k : Int, ((errR (s.data.toList.drop (n + 1)) : Nat) : Int) = k → Hid (((errR (s.extract (n + 1) s.size).data.toList : Nat) : Int) = k) := fun k h => by show _ = _; rw [extract_from_toList]; exact h
  have HE := HE0 0 hk
  have HF := HF0 k hf
  clear hi hs hl hz hd HE0 HF0 hk hf
  go_enter Tryz.func36, Tryz.ntmps36
  go_wp2_with fail
  obtain ⟨v1, hv1⟩ : ∃ W, W = (w.alloc (.cells #[.bool false, .slice none 0 0, .slice none 0 0] 36)) := ⟨_, rfl⟩
  have y1 : Ext w v1 := by rw [hv1]; exact ((Ext.refl _).alloc _)
  have b0_0 : Hid (At (w.heap.size) 0 (.bool false) v1) := by rw [hv1]; exact At.ext (At.n0 (by rfl)) (Ext.refl _)
  have b0_1 : Hid (At (w.heap.size) 1 (.slice none 0 0) v1) := by rw [hv1]; exact At.ext (At.n0 (by rfl)) (Ext.refl _)
  have b0_2 : Hid (At (w.heap.size) 2 (.slice none 0 0) v1) := by rw [hv1]; exact At.ext (At.n0 (by rfl)) (Ext.refl _)
  have k0 : Hid (Bx 3 (w.heap.size) v1) := by rw [hv1]; exact Bx.gr (Bx.n0 3 ⟨rfl, by decide⟩ (by decide) noI_s3) (Ext.gr (Ext.refl _))
  have u0 : Hid (w.heap.size < v1.heap.size) := b0_0.out.2
  have e1_ : Ext w v1 := y1
  rw [← hv1]
  clear hv1
  go_loop [4] (fun v4 => ∃ i : Nat, v4 = .int .i64 (i : Int) ∧ i ≤ n) (fun v4 => s.size - (intOf v4).toNat)
  case atStart => exact ⟨0, rfl, Nat.zero_le _⟩
  case round =>
    obtain ⟨i, rfl, hi⟩ := hrel
    by_cases hin : i < n
    · have LT := Lib.hid hin
      have hb := HNE.out i hin
      have his : i < s.size := by have := HL.out; omega
      have t1 : ((bn s.data.toList i : Int) != 47) = true := by rw [bne_iff_ne]; omega
      clear hi hin hb
      go_wp2_with fail
      exact ⟨⟨i + 1, by go_num, LT.out⟩, by simp [intOf]; omega⟩
    obtain rfl : n = i := by omega
    clear hin hi
    have hil := HL.out
    have t1 : ((bn s.data.toList n : Int) != 47) = false := by rw [bne_eq_false_iff_eq]; have := H47.out; omega
    go_wp2_with fail
    refine (refread_z (s.extract 0 n) _ HS1.out 0 z HE.out HZ.out).mono ?_
    rintro e w2 ⟨sb1, sv1, sm1, rfl, e1, o1, x2⟩
    have e2_ : Ext w w2 := Ext.trans e1_ x2
    obtain ⟨sp1, sl1, sc1, rfl⟩ := e1.slice
    go_wp2_with fail
    obtain ⟨v3, hv3⟩ : ∃ W, W = (w2.alloc (.cells #[.bool sb1, .slice sp1 sl1 sc1] 25)) := ⟨_, rfl⟩
    have y3 : Ext w2 v3 := by rw [hv3]; exact ((Ext.refl _).alloc _)
    have b1_0 : Hid (At (w2.heap.size) 0 (.bool sb1) v3) := by rw [hv3]; exact At.ext (At.n0 (by rfl)) (Ext.refl _)
    have b1_1 : Hid (At (w2.heap.size) 1 (.slice sp1 sl1 sc1) v3) := by rw [hv3]; exact At.ext (At.n0 (by rfl)) (Ext.refl _)
    have k1 : Hid (Bx 2 (w2.heap.size) v3) := by rw [hv3]; exact Bx.gr (Bx.n0 2 ⟨rfl, by decide⟩ (by decide) noI_s2) (Ext.gr (Ext.refl _))
    have u1 : Hid (w2.heap.size < v3.heap.size) := b1_0.out.2
    have e3_ : Ext w v3 := Ext.trans e2_ y3
    rw [← hv3]
    clear hv3
    refine (refread_str (s.extract (n + 1) s.size) _ HS2.out k d HF.out HD.out).mono ?_
    rintro e w4 ⟨sv2, rfl, o2, x4⟩
    have e4_ : Ext w w4 := Ext.trans e3_ x4
    obtain ⟨sp2, sl2, sc2, rfl⟩ := o2.slice'
    have g0_0 := (b0_0.out.ext (x2.trans (y3.trans x4))).1
    have g0_1 := (b0_1.out.ext (x2.trans (y3.trans x4))).1
    have g0_2 := (b0_2.out.ext (x2.trans (y3.trans x4))).1
    have z0_0 := (k0.out.gr (x2.gr.trans (y3.gr.trans x4.gr))).free 0
    have z0_1 := (k0.out.gr (x2.gr.trans (y3.gr.trans x4.gr))).free 1
    have z0_2 := (k0.out.gr (x2.gr.trans (y3.gr.trans x4.gr))).free 2
    have f0 : w.heap.size < w4.heap.size := (b0_0.out.ext (x2.trans (y3.trans x4))).2
    have ff0 : w.heap.size < w4.heap.size + 1 := Nat.lt_succ_of_lt f0
    go_wp2_with fail
    obtain ⟨v5, hv5⟩ : ∃ W, W = (((w4.setCell ⟨w.heap.size, 0, none⟩ (.bool false)).setCell ⟨w.heap.size, 1, none⟩ (.slice none 0 0)).setCell ⟨w.heap.size, 2, none⟩ (.slice none 0 0)) := ⟨_, rfl⟩
    have sv5 : v5 = setRow (w.heap.size) 0 [.bool false, .slice none 0 0, .slice none 0 0] w4 := hv5
    have uv5 := setRow_bx' (o := 0) (cs := [.bool false, .slice none 0 0, .slice none 0 0]) (k0.out.gr (x2.gr.trans (y3.gr.trans x4.gr))) (by simp) noI_s3
    have y5 : Gr w4 v5 := by rw [sv5]; exact setRow_gr' (o := 0) (cs := [.bool false, .slice none 0 0, .slice none 0 0]) (k0.out.gr (x2.gr.trans (y3.gr.trans x4.gr))) (by simp) noI_s3
    have t5 : Hid (∀ t o u, t ≠ (w.heap.size) → At t o u w4 → At t o u v5) := fun t o u h k => by rw [sv5]; exact k.setRow h _ _
    have e5_ : Ext w v5 := by rw [sv5]; exact setRow_below _ _ (by omega) _ _ e4_
    have b0_0 : Hid (At (w.heap.size) 0 (.bool false) v5) := by rw [sv5]; exact uv5.2.1 0 _ rfl
    have b0_1 : Hid (At (w.heap.size) 1 (.slice none 0 0) v5) := by rw [sv5]; exact uv5.2.1 1 _ rfl
    have b0_2 : Hid (At (w.heap.size) 2 (.slice none 0 0) v5) := by rw [sv5]; exact uv5.2.1 2 _ rfl
    have k0 : Hid (Bx 3 (w.heap.size) v5) := by rw [sv5]; exact uv5.1
    rw [← hv5]
    clear hv5 sv5 uv5
    have c0 := b0_0.out.1
    have c1 := b0_1.out.1
    have c2 := b0_2.out.1
    refine bodyPost_ret (v := .tuple #[.agg #[.bool false, .slice none 0 0, .slice none 0 0], .int .i64 k]) (by simp [results, Tryz.results36, go_sem, c0, c1, c2]) rfl ?_
    exact ⟨rfl, e5_⟩

set_option maxHeartbeats 1000000 in
set_option maxRecDepth 100000 in
theorem rread06_e4 (s : ByteArray) (w : World) (n : Nat) (hs : s.size ≤ 500) (hl : n < s.size) (hi : Lib.indexByte s.data.toList 47 = n) (hk : ((errI (s.data.toList.take n) : Nat) : Int) = 0) (hf : ((errR (s.data.toList.drop (n + 1)) : Nat) : Int) = 0) (h1 : readN (s.data.toList.drop (n + 1)) = 0) :
    Calls Tryz.prog 36 #[.string s] w (RetRE w 3) := by
  have hget : ∀ i (h : i < s.size), ((s[i]'h).toNat : Int) = (bn s.data.toList i : Int) := fun i h => bn_get s i h
  have hsi : (s.size : Int) ≤ 500 := by omega
  have HL := Lib.hid hl
  have HNE : Hid (∀ i, i < n → bn s.data.toList i ≠ 47) := fun i h => slash_none (.inr hi) h (by rw [← Lib.size_eq s]; omega)
  have H47 : Hid (bn s.data.toList n = 47) := slash_pos (by rw [← Lib.size_eq s]; exact hl) hi
  have HS1 : Hid ((s.extract 0 n).size ≤ 500) := by show _ ≤ _; rw [Lib.size_eq, extract_take']; simp; omega
  have HS2 : Hid ((s.extract (n + 1) s.size).size ≤ maxLen) := by show _ ≤ _; rw [Lib.size_eq, extract_from_toList]; simp [maxLen]; omega
  obtain ⟨z, hz⟩ : ∃ z, readI (s.data.toList.take n) = z := ⟨_, rfl⟩
  obtain ⟨d, hd⟩ : ∃ d, readN (s.data.toList.drop (n + 1)) = d := ⟨_, rfl⟩
  have HZ : Hid (readI (s.extract 0 n).data.toList = z) := by show _ = _; rw [extract_take']; exact hz
  have HD : Hid (readN (s.extract (n + 1) s.size).data.toList = d) := by show _ = _; rw [extract_from_toList]; exact hd
  have HE0 : ∀ k : Int, ((errI (s.data.toList.take n) : Nat) : Int) = k → Hid (((errI (s.extract 0 n).data.toList : Nat) : Int) = k) := fun k h => by show _ = _; rw [extract_take']; exact h
  have HF0 : ∀ k : Int, ((errR (s.data.toList.drop (n + 1)) : Nat) : Int) = k → Hid (((errR (s.extract (n + 1) s.size).data.toList : Nat) : Int) = k) := fun k h => by show _ = _; rw [extract_from_toList]; exact h
  have HZL : Hid (LenI s.size z) := by
    show LenI _ _
    rw [← hz]; exact readI_lt (by simp; have := Lib.size_eq s; omega) (by omega)
  have HM0 : Hid (∀ m, z.natAbs = m → (dig m).length ≤ 900) := fun m hm => by subst hm; exact Nat.le_trans (dig_len_le (k := s.size) HZL.out) (by omega)
  have HLD : Hid ((dig d).length ≤ 900) := by
    show _ ≤ _
    rw [← hd]
    refine Nat.le_trans (dig_len_le (k := s.size) (readN_lt ?_ (by omega))) (by omega)
    rw [List.length_drop, ← Lib.size_eq s]; omega
  have HE := HE0 0 hk
  have HF := HF0 0 hf
  have HN : Hid (d = 0) := by show _ = _; rw [← hd]; exact h1
  clear hi hs hl hz hd HE0 HF0 hk hf h1
  go_enter Tryz.func36, Tryz.ntmps36
  go_wp2_with fail
  obtain ⟨v1, hv1⟩ : ∃ W, W = (w.alloc (.cells #[.bool false, .slice none 0 0, .slice none 0 0] 36)) := ⟨_, rfl⟩
  have y1 : Ext w v1 := by rw [hv1]; exact ((Ext.refl _).alloc _)
  have b0_0 : Hid (At (w.heap.size) 0 (.bool false) v1) := by rw [hv1]; exact At.ext (At.n0 (by rfl)) (Ext.refl _)
  have b0_1 : Hid (At (w.heap.size) 1 (.slice none 0 0) v1) := by rw [hv1]; exact At.ext (At.n0 (by rfl)) (Ext.refl _)
  have b0_2 : Hid (At (w.heap.size) 2 (.slice none 0 0) v1) := by rw [hv1]; exact At.ext (At.n0 (by rfl)) (Ext.refl _)
  have k0 : Hid (Bx 3 (w.heap.size) v1) := by rw [hv1]; exact Bx.gr (Bx.n0 3 ⟨rfl, by decide⟩ (by decide) noI_s3) (Ext.gr (Ext.refl _))
  have u0 : Hid (w.heap.size < v1.heap.size) := b0_0.out.2
  have e1_ : Ext w v1 := y1
  rw [← hv1]
  clear hv1
  go_loop [4] (fun v4 => ∃ i : Nat, v4 = .int .i64 (i : Int) ∧ i ≤ n) (fun v4 => s.size - (intOf v4).toNat)
  case atStart => exact ⟨0, rfl, Nat.zero_le _⟩
  case round =>
    obtain ⟨i, rfl, hi⟩ := hrel
    by_cases hin : i < n
    · have LT := Lib.hid hin
      have hb := HNE.out i hin
      have his : i < s.size := by have := HL.out; omega
      have t1 : ((bn s.data.toList i : Int) != 47) = true := by rw [bne_iff_ne]; omega
      clear hi hin hb
      go_wp2_with fail
      exact ⟨⟨i + 1, by go_num, LT.out⟩, by simp [intOf]; omega⟩
    obtain rfl : n = i := by omega
    clear hin hi
    have hil := HL.out
    have t1 : ((bn s.data.toList n : Int) != 47) = false := by rw [bne_eq_false_iff_eq]; have := H47.out; omega
    go_wp2_with fail
    refine (refread_z (s.extract 0 n) _ HS1.out 0 z HE.out HZ.out).mono ?_
    rintro e w2 ⟨sb1, sv1, sm1, rfl, e1, o1, x2⟩
    have e2_ : Ext w w2 := Ext.trans e1_ x2
    obtain ⟨sp1, sl1, sc1, rfl⟩ := e1.slice
    go_wp2_with fail
    obtain ⟨v3, hv3⟩ : ∃ W, W = (w2.alloc (.cells #[.bool sb1, .slice sp1 sl1 sc1] 25)) := ⟨_, rfl⟩
    have y3 : Ext w2 v3 := by rw [hv3]; exact ((Ext.refl _).alloc _)
    have b1_0 : Hid (At (w2.heap.size) 0 (.bool sb1) v3) := by rw [hv3]; exact At.ext (At.n0 (by rfl)) (Ext.refl _)
    have b1_1 : Hid (At (w2.heap.size) 1 (.slice sp1 sl1 sc1) v3) := by rw [hv3]; exact At.ext (At.n0 (by rfl)) (Ext.refl _)
    have k1 : Hid (Bx 2 (w2.heap.size) v3) := by rw [hv3]; exact Bx.gr (Bx.n0 2 ⟨rfl, by decide⟩ (by decide) noI_s2) (Ext.gr (Ext.refl _))
    have u1 : Hid (w2.heap.size < v3.heap.size) := b1_0.out.2
    have e3_ : Ext w v3 := Ext.trans e2_ y3
    rw [← hv3]
    clear hv3
    refine (refread_str (s.extract (n + 1) s.size) _ HS2.out 0 d HF.out HD.out).mono ?_
    rintro e w4 ⟨sv2, rfl, o2, x4⟩
    have e4_ : Ext w w4 := Ext.trans e3_ x4
    obtain ⟨sp2, sl2, sc2, rfl⟩ := o2.slice'
    have hs2 := len_z o2 HN.out
    subst hs2
    have g1_0 := (b1_0.out.ext x4).1
    have g1_1 := (b1_1.out.ext x4).1
    have g0_0 := (b0_0.out.ext (x2.trans (y3.trans x4))).1
    have g0_1 := (b0_1.out.ext (x2.trans (y3.trans x4))).1
    have g0_2 := (b0_2.out.ext (x2.trans (y3.trans x4))).1
    have z0_0 := (k0.out.gr (x2.gr.trans (y3.gr.trans x4.gr))).free 0
    have z0_1 := (k0.out.gr (x2.gr.trans (y3.gr.trans x4.gr))).free 1
    have z0_2 := (k0.out.gr (x2.gr.trans (y3.gr.trans x4.gr))).free 2
    have f1 : w2.heap.size < w4.heap.size := (b1_0.out.ext x4).2
    have f0 : w.heap.size < w4.heap.size := (b0_0.out.ext (x2.trans (y3.trans x4))).2
    have n0_1 : w.heap.size ≠ w2.heap.size := (by (try dsimp only); have h1 := u0.out; have h2 := x2.gr.size; have h3 := Nat.le_refl 0; omega)
    have n1_0 : w2.heap.size ≠ w.heap.size := Ne.symm n0_1
    have ff1 : w2.heap.size < w4.heap.size + 1 := Nat.lt_succ_of_lt f1
    have ff0 : w.heap.size < w4.heap.size + 1 := Nat.lt_succ_of_lt f0
    go_wp2_with fail
    obtain ⟨v5, hv5⟩ : ∃ W, W = (((w4.setCell ⟨w.heap.size, 0, none⟩ (.bool false)).setCell ⟨w.heap.size, 1, none⟩ (.slice none 0 0)).setCell ⟨w.heap.size, 2, none⟩ (.slice none 0 0)) := ⟨_, rfl⟩
    have sv5 : v5 = setRow (w.heap.size) 0 [.bool false, .slice none 0 0, .slice none 0 0] w4 := hv5
    have uv5 := setRow_bx' (o := 0) (cs := [.bool false, .slice none 0 0, .slice none 0 0]) (k0.out.gr (x2.gr.trans (y3.gr.trans x4.gr))) (by simp) noI_s3
    have y5 : Gr w4 v5 := by rw [sv5]; exact setRow_gr' (o := 0) (cs := [.bool false, .slice none 0 0, .slice none 0 0]) (k0.out.gr (x2.gr.trans (y3.gr.trans x4.gr))) (by simp) noI_s3
    have t5 : Hid (∀ t o u, t ≠ (w.heap.size) → At t o u w4 → At t o u v5) := fun t o u h k => by rw [sv5]; exact k.setRow h _ _
    have e5_ : Ext w v5 := by rw [sv5]; exact setRow_below _ _ (by omega) _ _ e4_
    have zz5 : v5.heap.size = w4.heap.size := by rw [sv5, setRow_size]
    have b0_0 : Hid (At (w.heap.size) 0 (.bool false) v5) := by rw [sv5]; exact uv5.2.1 0 _ rfl
    have b0_1 : Hid (At (w.heap.size) 1 (.slice none 0 0) v5) := by rw [sv5]; exact uv5.2.1 1 _ rfl
    have b0_2 : Hid (At (w.heap.size) 2 (.slice none 0 0) v5) := by rw [sv5]; exact uv5.2.1 2 _ rfl
    have k0 : Hid (Bx 3 (w.heap.size) v5) := by rw [sv5]; exact uv5.1
    rw [← hv5]
    clear hv5 sv5 uv5
    obtain ⟨v6, hv6⟩ : ∃ W, W = (v5.alloc (.cells #[.bool sb1, .slice sp1 sl1 sc1, .slice sp2 0 sc2] 36)) := ⟨_, rfl⟩
    have y6 : Ext v5 v6 := by rw [hv6]; exact ((Ext.refl _).alloc _)
    have b2_0 : Hid (At (w4.heap.size) 0 (.bool sb1) v6) := by rw [← zz5, hv6]; exact At.ext (At.n0 (by rfl)) (Ext.refl _)
    have b2_1 : Hid (At (w4.heap.size) 1 (.slice sp1 sl1 sc1) v6) := by rw [← zz5, hv6]; exact At.ext (At.n0 (by rfl)) (Ext.refl _)
    have b2_2 : Hid (At (w4.heap.size) 2 (.slice sp2 0 sc2) v6) := by rw [← zz5, hv6]; exact At.ext (At.n0 (by rfl)) (Ext.refl _)
    have k2 : Hid (Bx 3 (w4.heap.size) v6) := by rw [← zz5, hv6]; exact Bx.gr (Bx.n0 3 ⟨rfl, by decide⟩ (by decide) noI_s3) (Ext.gr (Ext.refl _))
    have u2 : Hid (w4.heap.size < v6.heap.size) := b2_0.out.2
    have e6_ : Ext w v6 := Ext.trans e5_ y6
    rw [← hv6]
    clear hv6
    have c0 := (b0_0.out.ext y6).1
    have c1 := (b0_1.out.ext y6).1
    have c2 := (b0_2.out.ext y6).1
    refine bodyPost_ret (v := .tuple #[.agg #[.bool false, .slice none 0 0, .slice none 0 0], .int .i64 3]) (by simp [results, Tryz.results36, go_sem, c0, c1, c2]) rfl ?_
    exact ⟨rfl, e6_⟩

set_option maxHeartbeats 1000000 in
set_option maxRecDepth 100000 in
theorem rread06_e5 (s : ByteArray) (w : World) (n : Nat) (hs : s.size ≤ 500) (hl : n < s.size) (hi : Lib.indexByte s.data.toList 47 = n) (hk : ((errI (s.data.toList.take n) : Nat) : Int) = 0) (hf : ((errR (s.data.toList.drop (n + 1)) : Nat) : Int) = 0) (h1 : readN (s.data.toList.drop (n + 1)) = 1) :
    Calls Tryz.prog 36 #[.string s] w (RetRE w 3) := by
  have hget : ∀ i (h : i < s.size), ((s[i]'h).toNat : Int) = (bn s.data.toList i : Int) := fun i h => bn_get s i h
  have hsi : (s.size : Int) ≤ 500 := by omega
  have HL := Lib.hid hl
  have HNE : Hid (∀ i, i < n → bn s.data.toList i ≠ 47) := fun i h => slash_none (.inr hi) h (by rw [← Lib.size_eq s]; omega)
  have H47 : Hid (bn s.data.toList n = 47) := slash_pos (by rw [← Lib.size_eq s]; exact hl) hi
  have HS1 : Hid ((s.extract 0 n).size ≤ 500) := by show _ ≤ _; rw [Lib.size_eq, extract_take']; simp; omega
  have HS2 : Hid ((s.extract (n + 1) s.size).size ≤ maxLen) := by show _ ≤ _; rw [Lib.size_eq, extract_from_toList]; simp [maxLen]; omega
  obtain ⟨z, hz⟩ : ∃ z, readI (s.data.toList.take n) = z := ⟨_, rfl⟩
  obtain ⟨d, hd⟩ : ∃ d, readN (s.data.toList.drop (n + 1)) = d := ⟨_, rfl⟩
  have HZ : Hid (readI (s.extract 0 n).data.toList = z) := by show _ = _; rw [extract_take']; exact hz
  have HD : Hid (readN (s.extract (n + 1) s.size).data.toList = d) := by show _ = _; rw [extract_from_toList]; exact hd
  have HE0 : ∀ k : Int, ((errI (s.data.toList.take n) : Nat) : Int) = k → Hid (((errI (s.extract 0 n).data.toList : Nat) : Int) = k) := fun k h => by show _ = _; rw [extract_take']; exact h
  have HF0 : ∀ k : Int, ((errR (s.data.toList.drop (n + 1)) : Nat) : Int) = k → Hid (((errR (s.extract (n + 1) s.size).data.toList : Nat) : Int) = k) := fun k h => by show _ = _; rw [extract_from_toList]; exact h
  have HZL : Hid (LenI s.size z) := by
    show LenI _ _
    rw [← hz]; exact readI_lt (by simp; have := Lib.size_eq s; omega) (by omega)
  have HM0 : Hid (∀ m, z.natAbs = m → (dig m).length ≤ 900) := fun m hm => by subst hm; exact Nat.le_trans (dig_len_le (k := s.size) HZL.out) (by omega)
  have HLD : Hid ((dig d).length ≤ 900) := by
    show _ ≤ _
    rw [← hd]
    refine Nat.le_trans (dig_len_le (k := s.size) (readN_lt ?_ (by omega))) (by omega)
    rw [List.length_drop, ← Lib.size_eq s]; omega
  have HE := HE0 0 hk
  have HF := HF0 0 hf
  have HN : Hid (d ≠ 0) := by rw [← hd, h1]; exact Nat.one_ne_zero
  have HQ1 : Hid (decide (dig d = [1]) = true) := by show _ = _; rw [← dig_one one_lt_Bs (by decide)]; rw [← hd, h1]; simp
  clear hi hs hl hz hd HE0 HF0 hk hf h1
  go_enter Tryz.func36, Tryz.ntmps36
  go_wp2_with fail
  obtain ⟨v1, hv1⟩ : ∃ W, W = (w.alloc (.cells #[.bool false, .slice none 0 0, .slice none 0 0] 36)) := ⟨_, rfl⟩
  have y1 : Ext w v1 := by rw [hv1]; exact ((Ext.refl _).alloc _)
  have b0_0 : Hid (At (w.heap.size) 0 (.bool false) v1) := by rw [hv1]; exact At.ext (At.n0 (by rfl)) (Ext.refl _)
  have b0_1 : Hid (At (w.heap.size) 1 (.slice none 0 0) v1) := by rw [hv1]; exact At.ext (At.n0 (by rfl)) (Ext.refl _)
  have b0_2 : Hid (At (w.heap.size) 2 (.slice none 0 0) v1) := by rw [hv1]; exact At.ext (At.n0 (by rfl)) (Ext.refl _)
  have k0 : Hid (Bx 3 (w.heap.size) v1) := by rw [hv1]; exact Bx.gr (Bx.n0 3 ⟨rfl, by decide⟩ (by decide) noI_s3) (Ext.gr (Ext.refl _))
  have u0 : Hid (w.heap.size < v1.heap.size) := b0_0.out.2
  have e1_ : Ext w v1 := y1
  rw [← hv1]
  clear hv1
  go_loop [4] (fun v4 => ∃ i : Nat, v4 = .int .i64 (i : Int) ∧ i ≤ n) (fun v4 => s.size - (intOf v4).toNat)
  case atStart => exact ⟨0, rfl, Nat.zero_le _⟩
  case round =>
    obtain ⟨i, rfl, hi⟩ := hrel
    by_cases hin : i < n
    · have LT := Lib.hid hin
      have hb := HNE.out i hin
      have his : i < s.size := by have := HL.out; omega
      have t1 : ((bn s.data.toList i : Int) != 47) = true := by rw [bne_iff_ne]; omega
      clear hi hin hb
      go_wp2_with fail
      exact ⟨⟨i + 1, by go_num, LT.out⟩, by simp [intOf]; omega⟩
    obtain rfl : n = i := by omega
    clear hin hi
    have hil := HL.out
    have t1 : ((bn s.data.toList n : Int) != 47) = false := by rw [bne_eq_false_iff_eq]; have := H47.out; omega
    go_wp2_with fail
    refine (refread_z (s.extract 0 n) _ HS1.out 0 z HE.out HZ.out).mono ?_
    rintro e w2 ⟨sb1, sv1, sm1, rfl, e1, o1, x2⟩
    have e2_ : Ext w w2 := Ext.trans e1_ x2
    obtain ⟨sp1, sl1, sc1, rfl⟩ := e1.slice
    go_wp2_with fail
    obtain ⟨v3, hv3⟩ : ∃ W, W = (w2.alloc (.cells #[.bool sb1, .slice sp1 sl1 sc1] 25)) := ⟨_, rfl⟩
    have y3 : Ext w2 v3 := by rw [hv3]; exact ((Ext.refl _).alloc _)
    have b1_0 : Hid (At (w2.heap.size) 0 (.bool sb1) v3) := by rw [hv3]; exact At.ext (At.n0 (by rfl)) (Ext.refl _)
    have b1_1 : Hid (At (w2.heap.size) 1 (.slice sp1 sl1 sc1) v3) := by rw [hv3]; exact At.ext (At.n0 (by rfl)) (Ext.refl _)
    have k1 : Hid (Bx 2 (w2.heap.size) v3) := by rw [hv3]; exact Bx.gr (Bx.n0 2 ⟨rfl, by decide⟩ (by decide) noI_s2) (Ext.gr (Ext.refl _))
    have u1 : Hid (w2.heap.size < v3.heap.size) := b1_0.out.2
    have e3_ : Ext w v3 := Ext.trans e2_ y3
    rw [← hv3]
    clear hv3
    refine (refread_str (s.extract (n + 1) s.size) _ HS2.out 0 d HF.out HD.out).mono ?_
    rintro e w4 ⟨sv2, rfl, o2, x4⟩
    have e4_ : Ext w w4 := Ext.trans e3_ x4
    obtain ⟨sp2, sl2, sc2, rfl⟩ := o2.slice'
    have hs2 := len_nz o2 HN.out
    have g1_0 := (b1_0.out.ext x4).1
    have g1_1 := (b1_1.out.ext x4).1
    have f1 : w2.heap.size < w4.heap.size := (b1_0.out.ext x4).2
    have ff1 : w2.heap.size < w4.heap.size + 1 := Nat.lt_succ_of_lt f1
    go_wp2_with fail
    obtain ⟨v5, hv5⟩ : ∃ W, W = ((w4.alloc (.cells #[.bool sb1, .slice sp1 sl1 sc1, .slice sp2 sl2 sc2] 36)).alloc (.cells #[.int .u64 1] 54)) := ⟨_, rfl⟩
    have y5 : Ext w4 v5 := by rw [hv5]; exact (((Ext.refl _).alloc _).alloc _)
    have b2_0 : Hid (At (w4.heap.size) 0 (.bool sb1) v5) := by rw [hv5]; exact At.ext (At.n0 (by rfl)) ((Ext.refl _).alloc _)
    have b2_1 : Hid (At (w4.heap.size) 1 (.slice sp1 sl1 sc1) v5) := by rw [hv5]; exact At.ext (At.n0 (by rfl)) ((Ext.refl _).alloc _)
    have b2_2 : Hid (At (w4.heap.size) 2 (.slice sp2 sl2 sc2) v5) := by rw [hv5]; exact At.ext (At.n0 (by rfl)) ((Ext.refl _).alloc _)
    have k2 : Hid (Bx 3 (w4.heap.size) v5) := by rw [hv5]; exact Bx.gr (Bx.n0 3 ⟨rfl, by decide⟩ (by decide) noI_s3) (Ext.gr ((Ext.refl _).alloc _))
    have u2 : Hid (w4.heap.size < v5.heap.size) := b2_0.out.2
    have r3 : Hid (Limbs v5 (.slice (some ⟨w4.heap.size + 1, 0, none⟩) 1 1) [1]) := by rw [hv5]; exact (lit_n1 [1] (by decide) rfl 1 rfl (by decide)).ext (Ext.refl _)
    have ro3 : Hid (OwnL w.heap.size v5 (.slice (some ⟨w4.heap.size + 1, 0, none⟩) 1 1) [1]) := by rw [hv5]; exact OwnL.ext (lito_n1 [1] (by decide) rfl 1 rfl (by decide) (by first | omega | exact e2_.size | exact e3_.size | exact e4_.size | exact e5_.size)) (Ext.refl _)
    have e5_ : Ext w v5 := Ext.trans e4_ y5
    rw [← hv5]
    clear hv5
    refine (same_bool (o2.limbs.ext y5) r3.out true HQ1.out).mono ?_
    rintro e w6 ⟨rfl, x6⟩
    have e6_ : Ext w w6 := Ext.trans e5_ x6
    clear g1_0 g1_1 f1 ff1
    have g0_0 := (b0_0.out.ext (x2.trans (y3.trans (x4.trans (y5.trans x6))))).1
    have g0_1 := (b0_1.out.ext (x2.trans (y3.trans (x4.trans (y5.trans x6))))).1
    have g0_2 := (b0_2.out.ext (x2.trans (y3.trans (x4.trans (y5.trans x6))))).1
    have z0_0 := (k0.out.gr (x2.gr.trans (y3.gr.trans (x4.gr.trans (y5.gr.trans x6.gr))))).free 0
    have z0_1 := (k0.out.gr (x2.gr.trans (y3.gr.trans (x4.gr.trans (y5.gr.trans x6.gr))))).free 1
    have z0_2 := (k0.out.gr (x2.gr.trans (y3.gr.trans (x4.gr.trans (y5.gr.trans x6.gr))))).free 2
    have f0 : w.heap.size < w6.heap.size := (b0_0.out.ext (x2.trans (y3.trans (x4.trans (y5.trans x6))))).2
    have ff0 : w.heap.size < w6.heap.size + 1 := Nat.lt_succ_of_lt f0
    go_wp2_with fail
    obtain ⟨v7, hv7⟩ : ∃ W, W = (((w6.setCell ⟨w.heap.size, 0, none⟩ (.bool false)).setCell ⟨w.heap.size, 1, none⟩ (.slice none 0 0)).setCell ⟨w.heap.size, 2, none⟩ (.slice none 0 0)) := ⟨_, rfl⟩
    have sv7 : v7 = setRow (w.heap.size) 0 [.bool false, .slice none 0 0, .slice none 0 0] w6 := hv7
    have uv7 := setRow_bx' (o := 0) (cs := [.bool false, .slice none 0 0, .slice none 0 0]) (k0.out.gr (x2.gr.trans (y3.gr.trans (x4.gr.trans (y5.gr.trans x6.gr))))) (by simp) noI_s3
    have y7 : Gr w6 v7 := by rw [sv7]; exact setRow_gr' (o := 0) (cs := [.bool false, .slice none 0 0, .slice none 0 0]) (k0.out.gr (x2.gr.trans (y3.gr.trans (x4.gr.trans (y5.gr.trans x6.gr))))) (by simp) noI_s3
    have t7 : Hid (∀ t o u, t ≠ (w.heap.size) → At t o u w6 → At t o u v7) := fun t o u h k => by rw [sv7]; exact k.setRow h _ _
    have e7_ : Ext w v7 := by rw [sv7]; exact setRow_below _ _ (by omega) _ _ e6_
    have b0_0 : Hid (At (w.heap.size) 0 (.bool false) v7) := by rw [sv7]; exact uv7.2.1 0 _ rfl
    have b0_1 : Hid (At (w.heap.size) 1 (.slice none 0 0) v7) := by rw [sv7]; exact uv7.2.1 1 _ rfl
    have b0_2 : Hid (At (w.heap.size) 2 (.slice none 0 0) v7) := by rw [sv7]; exact uv7.2.1 2 _ rfl
    have k0 : Hid (Bx 3 (w.heap.size) v7) := by rw [sv7]; exact uv7.1
    rw [← hv7]
    clear hv7 sv7 uv7
    have c0 := b0_0.out.1
    have c1 := b0_1.out.1
    have c2 := b0_2.out.1
    refine bodyPost_ret (v := .tuple #[.agg #[.bool false, .slice none 0 0, .slice none 0 0], .int .i64 3]) (by simp [results, Tryz.results36, go_sem, c0, c1, c2]) rfl ?_
    exact ⟨rfl, e7_⟩

set_option maxHeartbeats 1000000 in
set_option maxRecDepth 100000 in
theorem rread06_e6 (s : ByteArray) (w : World) (n : Nat) (hs : s.size ≤ 500) (hl : n < s.size) (hi : Lib.indexByte s.data.toList 47 = n) (hk : ((errI (s.data.toList.take n) : Nat) : Int) = 0) (hf : ((errR (s.data.toList.drop (n + 1)) : Nat) : Int) = 0) (h1 : readN (s.data.toList.drop (n + 1)) ≠ 1) (h2 : readN (s.data.toList.drop (n + 1)) ≠ 0) (h3 : ¬ (readN (s.data.toList.drop (n + 1)) ≠ 0 ∧ Nat.gcd (readI (s.data.toList.take n)).natAbs (readN (s.data.toList.drop (n + 1))) = 1)) :
    Calls Tryz.prog 36 #[.string s] w (RetRE w 3) := by
  have hget : ∀ i (h : i < s.size), ((s[i]'h).toNat : Int) = (bn s.data.toList i : Int) := fun i h => bn_get s i h
  have hsi : (s.size : Int) ≤ 500 := by omega
  have HL := Lib.hid hl
  have HNE : Hid (∀ i, i < n → bn s.data.toList i ≠ 47) := fun i h => slash_none (.inr hi) h (by rw [← Lib.size_eq s]; omega)
  have H47 : Hid (bn s.data.toList n = 47) := slash_pos (by rw [← Lib.size_eq s]; exact hl) hi
  have HS1 : Hid ((s.extract 0 n).size ≤ 500) := by show _ ≤ _; rw [Lib.size_eq, extract_take']; simp; omega
  have HS2 : Hid ((s.extract (n + 1) s.size).size ≤ maxLen) := by show _ ≤ _; rw [Lib.size_eq, extract_from_toList]; simp [maxLen]; omega
  obtain ⟨z, hz⟩ : ∃ z, readI (s.data.toList.take n) = z := ⟨_, rfl⟩
  obtain ⟨d, hd⟩ : ∃ d, readN (s.data.toList.drop (n + 1)) = d := ⟨_, rfl⟩
  have HZ : Hid (readI (s.extract 0 n).data.toList = z) := by show _ = _; rw [extract_take']; exact hz
  have HD : Hid (readN (s.extract (n + 1) s.size).data.toList = d) := by show _ = _; rw [extract_from_toList]; exact hd
  have HE0 : ∀ k : Int, ((errI (s.data.toList.take n) : Nat) : Int) = k → Hid (((errI (s.extract 0 n).data.toList : Nat) : Int) = k) := fun k h => by show _ = _; rw [extract_take']; exact h
  have HF0 : ∀ k : Int, ((errR (s.data.toList.drop (n + 1)) : Nat) : Int) = k → Hid (((errR (s.extract (n + 1) s.size).data.toList : Nat) : Int) = k) := fun k h => by show _ = _; rw [extract_from_toList]; exact h
  have HZL : Hid (LenI s.size z) := by
    show LenI _ _
    rw [← hz]; exact readI_lt (by simp; have := Lib.size_eq s; omega) (by omega)
  have HM0 : Hid (∀ m, z.natAbs = m → (dig m).length ≤ 900) := fun m hm => by subst hm; exact Nat.le_trans (dig_len_le (k := s.size) HZL.out) (by omega)
  have HLD : Hid ((dig d).length ≤ 900) := by
    show _ ≤ _
    rw [← hd]
    refine Nat.le_trans (dig_len_le (k := s.size) (readN_lt ?_ (by omega))) (by omega)
    rw [List.length_drop, ← Lib.size_eq s]; omega
  have HE := HE0 0 hk
  have HF := HF0 0 hf
  have HN : Hid (d ≠ 0) := fun e => h2 (by rw [hd]; exact e)
  have HQ1 : Hid (decide (dig d = [1]) = false) := by show _ = _; rw [← dig_one one_lt_Bs (by decide)]; rw [decide_eq_false_iff_not, dig_inj, ← hd]; exact h1
  have HQ2 : Hid (decide (d ≠ 0 ∧ Nat.gcd z.natAbs d = 1) = false) := by show _ = _; rw [← hd, ← hz]; exact decide_eq_false h3
  clear hi hs hl hz hd HE0 HF0 hk hf h1 h2 h3
  go_enter Tryz.func36, Tryz.ntmps36
  go_wp2_with fail
  obtain ⟨v1, hv1⟩ : ∃ W, W = (w.alloc (.cells #[.bool false, .slice none 0 0, .slice none 0 0] 36)) := ⟨_, rfl⟩
  have y1 : Ext w v1 := by rw [hv1]; exact ((Ext.refl _).alloc _)
  have b0_0 : Hid (At (w.heap.size) 0 (.bool false) v1) := by rw [hv1]; exact At.ext (At.n0 (by rfl)) (Ext.refl _)
  have b0_1 : Hid (At (w.heap.size) 1 (.slice none 0 0) v1) := by rw [hv1]; exact At.ext (At.n0 (by rfl)) (Ext.refl _)
  have b0_2 : Hid (At (w.heap.size) 2 (.slice none 0 0) v1) := by rw [hv1]; exact At.ext (At.n0 (by rfl)) (Ext.refl _)
  have k0 : Hid (Bx 3 (w.heap.size) v1) := by rw [hv1]; exact Bx.gr (Bx.n0 3 ⟨rfl, by decide⟩ (by decide) noI_s3) (Ext.gr (Ext.refl _))
  have u0 : Hid (w.heap.size < v1.heap.size) := b0_0.out.2
  have e1_ : Ext w v1 := y1
  rw [← hv1]
  clear hv1
  go_loop [4] (fun v4 => ∃ i : Nat, v4 = .int .i64 (i : Int) ∧ i ≤ n) (fun v4 => s.size - (intOf v4).toNat)
  case atStart => exact ⟨0, rfl, Nat.zero_le _⟩
  case round =>
    obtain ⟨i, rfl, hi⟩ := hrel
    by_cases hin : i < n
    · have LT := Lib.hid hin
      have hb := HNE.out i hin
      have his : i < s.size := by have := HL.out; omega
      have t1 : ((bn s.data.toList i : Int) != 47) = true := by rw [bne_iff_ne]; omega
      clear hi hin hb
      go_wp2_with fail
      exact ⟨⟨i + 1, by go_num, LT.out⟩, by simp [intOf]; omega⟩
    obtain rfl : n = i := by omega
    clear hin hi
    have hil := HL.out
    have t1 : ((bn s.data.toList n : Int) != 47) = false := by rw [bne_eq_false_iff_eq]; have := H47.out; omega
    go_wp2_with fail
    refine (refread_z (s.extract 0 n) _ HS1.out 0 z HE.out HZ.out).mono ?_
    rintro e w2 ⟨sb1, sv1, sm1, rfl, e1, o1, x2⟩
    have e2_ : Ext w w2 := Ext.trans e1_ x2
    obtain ⟨sp1, sl1, sc1, rfl⟩ := e1.slice
    go_wp2_with fail
    obtain ⟨v3, hv3⟩ : ∃ W, W = (w2.alloc (.cells #[.bool sb1, .slice sp1 sl1 sc1] 25)) := ⟨_, rfl⟩
    have y3 : Ext w2 v3 := by rw [hv3]; exact ((Ext.refl _).alloc _)
    have b1_0 : Hid (At (w2.heap.size) 0 (.bool sb1) v3) := by rw [hv3]; exact At.ext (At.n0 (by rfl)) (Ext.refl _)
    have b1_1 : Hid (At (w2.heap.size) 1 (.slice sp1 sl1 sc1) v3) := by rw [hv3]; exact At.ext (At.n0 (by rfl)) (Ext.refl _)
    have k1 : Hid (Bx 2 (w2.heap.size) v3) := by rw [hv3]; exact Bx.gr (Bx.n0 2 ⟨rfl, by decide⟩ (by decide) noI_s2) (Ext.gr (Ext.refl _))
    have u1 : Hid (w2.heap.size < v3.heap.size) := b1_0.out.2
    have e3_ : Ext w v3 := Ext.trans e2_ y3
    rw [← hv3]
    clear hv3
    refine (refread_str (s.extract (n + 1) s.size) _ HS2.out 0 d HF.out HD.out).mono ?_
    rintro e w4 ⟨sv2, rfl, o2, x4⟩
    have e4_ : Ext w w4 := Ext.trans e3_ x4
    obtain ⟨sp2, sl2, sc2, rfl⟩ := o2.slice'
    have hs2 := len_nz o2 HN.out
    have g1_0 := (b1_0.out.ext x4).1
    have g1_1 := (b1_1.out.ext x4).1
    have f1 : w2.heap.size < w4.heap.size := (b1_0.out.ext x4).2
    have ff1 : w2.heap.size < w4.heap.size + 1 := Nat.lt_succ_of_lt f1
    go_wp2_with fail
    obtain ⟨v5, hv5⟩ : ∃ W, W = ((w4.alloc (.cells #[.bool sb1, .slice sp1 sl1 sc1, .slice sp2 sl2 sc2] 36)).alloc (.cells #[.int .u64 1] 54)) := ⟨_, rfl⟩
    have y5 : Ext w4 v5 := by rw [hv5]; exact (((Ext.refl _).alloc _).alloc _)
    have b2_0 : Hid (At (w4.heap.size) 0 (.bool sb1) v5) := by rw [hv5]; exact At.ext (At.n0 (by rfl)) ((Ext.refl _).alloc _)
    have b2_1 : Hid (At (w4.heap.size) 1 (.slice sp1 sl1 sc1) v5) := by rw [hv5]; exact At.ext (At.n0 (by rfl)) ((Ext.refl _).alloc _)
    have b2_2 : Hid (At (w4.heap.size) 2 (.slice sp2 sl2 sc2) v5) := by rw [hv5]; exact At.ext (At.n0 (by rfl)) ((Ext.refl _).alloc _)
    have k2 : Hid (Bx 3 (w4.heap.size) v5) := by rw [hv5]; exact Bx.gr (Bx.n0 3 ⟨rfl, by decide⟩ (by decide) noI_s3) (Ext.gr ((Ext.refl _).alloc _))
    have u2 : Hid (w4.heap.size < v5.heap.size) := b2_0.out.2
    have r3 : Hid (Limbs v5 (.slice (some ⟨w4.heap.size + 1, 0, none⟩) 1 1) [1]) := by rw [hv5]; exact (lit_n1 [1] (by decide) rfl 1 rfl (by decide)).ext (Ext.refl _)
    have ro3 : Hid (OwnL w.heap.size v5 (.slice (some ⟨w4.heap.size + 1, 0, none⟩) 1 1) [1]) := by rw [hv5]; exact OwnL.ext (lito_n1 [1] (by decide) rfl 1 rfl (by decide) (by first | omega | exact e2_.size | exact e3_.size | exact e4_.size | exact e5_.size)) (Ext.refl _)
    have e5_ : Ext w v5 := Ext.trans e4_ y5
    rw [← hv5]
    clear hv5
    refine (same_bool (o2.limbs.ext y5) r3.out false HQ1.out).mono ?_
    rintro e w6 ⟨rfl, x6⟩
    have e6_ : Ext w w6 := Ext.trans e5_ x6
    clear g1_0 g1_1 f1 ff1
    have g2_0 := (b2_0.out.ext x6).1
    have g2_1 := (b2_1.out.ext x6).1
    have g2_2 := (b2_2.out.ext x6).1
    have f2 : w4.heap.size < w6.heap.size := (b2_0.out.ext x6).2
    have ff2 : w4.heap.size < w6.heap.size + 1 := Nat.lt_succ_of_lt f2
    go_wp2_with fail
    refine (rmay06_mk (e1.ext (y3.trans (x4.trans (y5.trans x6)))) (o2.limbs.ext (y5.trans x6)) (HM0.out _ e1.2.1) HLD.out false HQ2.out).mono ?_
    rintro e w7 ⟨rfl, x7⟩
    have e7_ : Ext w w7 := Ext.trans e6_ x7
    clear g2_0 g2_1 g2_2 f2 ff2
    have g0_0 := (b0_0.out.ext (x2.trans (y3.trans (x4.trans (y5.trans (x6.trans x7)))))).1
    have g0_1 := (b0_1.out.ext (x2.trans (y3.trans (x4.trans (y5.trans (x6.trans x7)))))).1
    have g0_2 := (b0_2.out.ext (x2.trans (y3.trans (x4.trans (y5.trans (x6.trans x7)))))).1
    have z0_0 := (k0.out.gr (x2.gr.trans (y3.gr.trans (x4.gr.trans (y5.gr.trans (x6.gr.trans x7.gr)))))).free 0
    have z0_1 := (k0.out.gr (x2.gr.trans (y3.gr.trans (x4.gr.trans (y5.gr.trans (x6.gr.trans x7.gr)))))).free 1
    have z0_2 := (k0.out.gr (x2.gr.trans (y3.gr.trans (x4.gr.trans (y5.gr.trans (x6.gr.trans x7.gr)))))).free 2
    have f0 : w.heap.size < w7.heap.size := (b0_0.out.ext (x2.trans (y3.trans (x4.trans (y5.trans (x6.trans x7)))))).2
    have ff0 : w.heap.size < w7.heap.size + 1 := Nat.lt_succ_of_lt f0
    go_wp2_with fail
    obtain ⟨v8, hv8⟩ : ∃ W, W = (((w7.setCell ⟨w.heap.size, 0, none⟩ (.bool false)).setCell ⟨w.heap.size, 1, none⟩ (.slice none 0 0)).setCell ⟨w.heap.size, 2, none⟩ (.slice none 0 0)) := ⟨_, rfl⟩
    have sv8 : v8 = setRow (w.heap.size) 0 [.bool false, .slice none 0 0, .slice none 0 0] w7 := hv8
    have uv8 := setRow_bx' (o := 0) (cs := [.bool false, .slice none 0 0, .slice none 0 0]) (k0.out.gr (x2.gr.trans (y3.gr.trans (x4.gr.trans (y5.gr.trans (x6.gr.trans x7.gr)))))) (by simp) noI_s3
    have y8 : Gr w7 v8 := by rw [sv8]; exact setRow_gr' (o := 0) (cs := [.bool false, .slice none 0 0, .slice none 0 0]) (k0.out.gr (x2.gr.trans (y3.gr.trans (x4.gr.trans (y5.gr.trans (x6.gr.trans x7.gr)))))) (by simp) noI_s3
    have t8 : Hid (∀ t o u, t ≠ (w.heap.size) → At t o u w7 → At t o u v8) := fun t o u h k => by rw [sv8]; exact k.setRow h _ _
    have e8_ : Ext w v8 := by rw [sv8]; exact setRow_below _ _ (by omega) _ _ e7_
    have b0_0 : Hid (At (w.heap.size) 0 (.bool false) v8) := by rw [sv8]; exact uv8.2.1 0 _ rfl
    have b0_1 : Hid (At (w.heap.size) 1 (.slice none 0 0) v8) := by rw [sv8]; exact uv8.2.1 1 _ rfl
    have b0_2 : Hid (At (w.heap.size) 2 (.slice none 0 0) v8) := by rw [sv8]; exact uv8.2.1 2 _ rfl
    have k0 : Hid (Bx 3 (w.heap.size) v8) := by rw [sv8]; exact uv8.1
    rw [← hv8]
    clear hv8 sv8 uv8
    have c0 := b0_0.out.1
    have c1 := b0_1.out.1
    have c2 := b0_2.out.1
    refine bodyPost_ret (v := .tuple #[.agg #[.bool false, .slice none 0 0, .slice none 0 0], .int .i64 3]) (by simp [results, Tryz.results36, go_sem, c0, c1, c2]) rfl ?_
    exact ⟨rfl, e8_⟩

set_option maxHeartbeats 1000000 in
set_option maxRecDepth 100000 in
theorem rread06_o2 (s : ByteArray) (w : World) (n : Nat) (hs : s.size ≤ 500) (hl : n < s.size) (hi : Lib.indexByte s.data.toList 47 = n) (hk : ((errI (s.data.toList.take n) : Nat) : Int) = 0) (hf : ((errR (s.data.toList.drop (n + 1)) : Nat) : Int) = 0) (h1 : readN (s.data.toList.drop (n + 1)) ≠ 1) (h2 : readN (s.data.toList.drop (n + 1)) ≠ 0 ∧ Nat.gcd (readI (s.data.toList.take n)).natAbs (readN (s.data.toList.drop (n + 1))) = 1) {q : Rat} (hq : mkRat (readI (s.data.toList.take n)) (readN (s.data.toList.drop (n + 1))) = q) :
    Calls Tryz.prog 36 #[.string s] w (RetR0 w q) := by
  have hget : ∀ i (h : i < s.size), ((s[i]'h).toNat : Int) = (bn s.data.toList i : Int) := fun i h => bn_get s i h
  have hsi : (s.size : Int) ≤ 500 := by omega
  have HL := Lib.hid hl
  have HNE : Hid (∀ i, i < n → bn s.data.toList i ≠ 47) := fun i h => slash_none (.inr hi) h (by rw [← Lib.size_eq s]; omega)
  have H47 : Hid (bn s.data.toList n = 47) := slash_pos (by rw [← Lib.size_eq s]; exact hl) hi
  have HS1 : Hid ((s.extract 0 n).size ≤ 500) := by show _ ≤ _; rw [Lib.size_eq, extract_take']; simp; omega
  have HS2 : Hid ((s.extract (n + 1) s.size).size ≤ maxLen) := by show _ ≤ _; rw [Lib.size_eq, extract_from_toList]; simp [maxLen]; omega
  obtain ⟨z, hz⟩ : ∃ z, readI (s.data.toList.take n) = z := ⟨_, rfl⟩
  obtain ⟨d, hd⟩ : ∃ d, readN (s.data.toList.drop (n + 1)) = d := ⟨_, rfl⟩
  have HZ : Hid (readI (s.extract 0 n).data.toList = z) := by show _ = _; rw [extract_take']; exact hz
  have HD : Hid (readN (s.extract (n + 1) s.size).data.toList = d) := by show _ = _; rw [extract_from_toList]; exact hd
  have HE0 : ∀ k : Int, ((errI (s.data.toList.take n) : Nat) : Int) = k → Hid (((errI (s.extract 0 n).data.toList : Nat) : Int) = k) := fun k h => by show _ = _; rw [extract_take']; exact h
  have HF0 : ∀ k : Int, ((errR (s.data.toList.drop (n + 1)) : Nat) : Int) = k → Hid (((errR (s.extract (n + 1) s.size).data.toList : Nat) : Int) = k) := fun k h => by show _ = _; rw [extract_from_toList]; exact h
  have HZL : Hid (LenI s.size z) := by
    show LenI _ _
    rw [← hz]; exact readI_lt (by simp; have := Lib.size_eq s; omega) (by omega)
  have HM0 : Hid (∀ m, z.natAbs = m → (dig m).length ≤ 900) := fun m hm => by subst hm; exact Nat.le_trans (dig_len_le (k := s.size) HZL.out) (by omega)
  have HLD : Hid ((dig d).length ≤ 900) := by
    show _ ≤ _
    rw [← hd]
    refine Nat.le_trans (dig_len_le (k := s.size) (readN_lt ?_ (by omega))) (by omega)
    rw [List.length_drop, ← Lib.size_eq s]; omega
  have HE := HE0 0 hk
  have HF := HF0 0 hf
  have HN : Hid (d ≠ 0) := fun e => h2.1 (by rw [hd]; exact e)
  have HQ1 : Hid (decide (dig d = [1]) = false) := by show _ = _; rw [← dig_one one_lt_Bs (by decide)]; rw [decide_eq_false_iff_not, dig_inj, ← hd]; exact h1
  have HQ2 : Hid (decide (d ≠ 0 ∧ Nat.gcd z.natAbs d = 1) = true) := by show _ = _; rw [← hd, ← hz]; exact decide_eq_true h2
  rw [hd, hz] at h2 hq
  have HQD : Hid (d = q.den) := by show _ = _; rw [← hq, mk_den h2.1, h2.2]; simp
  have HQN : Hid (z = q.num) := by show _ = _; rw [← hq, mk_num h2.1, h2.2]; simp
  clear hi hs hl hz hd HE0 HF0 hk hf h1 h2 hq
  go_enter Tryz.func36, Tryz.ntmps36
  go_wp2_with fail
  obtain ⟨v1, hv1⟩ : ∃ W, W = (w.alloc (.cells #[.bool false, .slice none 0 0, .slice none 0 0] 36)) := ⟨_, rfl⟩
  have y1 : Ext w v1 := by rw [hv1]; exact ((Ext.refl _).alloc _)
  have b0_0 : Hid (At (w.heap.size) 0 (.bool false) v1) := by rw [hv1]; exact At.ext (At.n0 (by rfl)) (Ext.refl _)
  have b0_1 : Hid (At (w.heap.size) 1 (.slice none 0 0) v1) := by rw [hv1]; exact At.ext (At.n0 (by rfl)) (Ext.refl _)
  have b0_2 : Hid (At (w.heap.size) 2 (.slice none 0 0) v1) := by rw [hv1]; exact At.ext (At.n0 (by rfl)) (Ext.refl _)
  have k0 : Hid (Bx 3 (w.heap.size) v1) := by rw [hv1]; exact Bx.gr (Bx.n0 3 ⟨rfl, by decide⟩ (by decide) noI_s3) (Ext.gr (Ext.refl _))
  have u0 : Hid (w.heap.size < v1.heap.size) := b0_0.out.2
  have e1_ : Ext w v1 := y1
  rw [← hv1]
  clear hv1
  go_loop [4] (fun v4 => ∃ i : Nat, v4 = .int .i64 (i : Int) ∧ i ≤ n) (fun v4 => s.size - (intOf v4).toNat)
  case atStart => exact ⟨0, rfl, Nat.zero_le _⟩
  case round =>
    obtain ⟨i, rfl, hi⟩ := hrel
    by_cases hin : i < n
    · have LT := Lib.hid hin
      have hb := HNE.out i hin
      have his : i < s.size := by have := HL.out; omega
      have t1 : ((bn s.data.toList i : Int) != 47) = true := by rw [bne_iff_ne]; omega
      clear hi hin hb
      go_wp2_with fail
      exact ⟨⟨i + 1, by go_num, LT.out⟩, by simp [intOf]; omega⟩
    obtain rfl : n = i := by omega
    clear hin hi
    have hil := HL.out
    have t1 : ((bn s.data.toList n : Int) != 47) = false := by rw [bne_eq_false_iff_eq]; have := H47.out; omega
    go_wp2_with fail
    refine (refread_z (s.extract 0 n) _ HS1.out 0 z HE.out HZ.out).mono ?_
    rintro e w2 ⟨sb1, sv1, sm1, rfl, e1, o1, x2⟩
    have e2_ : Ext w w2 := Ext.trans e1_ x2
    obtain ⟨sp1, sl1, sc1, rfl⟩ := e1.slice
    go_wp2_with fail
    obtain ⟨v3, hv3⟩ : ∃ W, W = (w2.alloc (.cells #[.bool sb1, .slice sp1 sl1 sc1] 25)) := ⟨_, rfl⟩
    have y3 : Ext w2 v3 := by rw [hv3]; exact ((Ext.refl _).alloc _)
    have b1_0 : Hid (At (w2.heap.size) 0 (.bool sb1) v3) := by rw [hv3]; exact At.ext (At.n0 (by rfl)) (Ext.refl _)
    have b1_1 : Hid (At (w2.heap.size) 1 (.slice sp1 sl1 sc1) v3) := by rw [hv3]; exact At.ext (At.n0 (by rfl)) (Ext.refl _)
    have k1 : Hid (Bx 2 (w2.heap.size) v3) := by rw [hv3]; exact Bx.gr (Bx.n0 2 ⟨rfl, by decide⟩ (by decide) noI_s2) (Ext.gr (Ext.refl _))
    have u1 : Hid (w2.heap.size < v3.heap.size) := b1_0.out.2
    have e3_ : Ext w v3 := Ext.trans e2_ y3
    rw [← hv3]
    clear hv3
    refine (refread_str (s.extract (n + 1) s.size) _ HS2.out 0 d HF.out HD.out).mono ?_
    rintro e w4 ⟨sv2, rfl, o2, x4⟩
    have e4_ : Ext w w4 := Ext.trans e3_ x4
    obtain ⟨sp2, sl2, sc2, rfl⟩ := o2.slice'
    have hs2 := len_nz o2 HN.out
    have g1_0 := (b1_0.out.ext x4).1
    have g1_1 := (b1_1.out.ext x4).1
    have f1 : w2.heap.size < w4.heap.size := (b1_0.out.ext x4).2
    have ff1 : w2.heap.size < w4.heap.size + 1 := Nat.lt_succ_of_lt f1
    go_wp2_with fail
    obtain ⟨v5, hv5⟩ : ∃ W, W = ((w4.alloc (.cells #[.bool sb1, .slice sp1 sl1 sc1, .slice sp2 sl2 sc2] 36)).alloc (.cells #[.int .u64 1] 54)) := ⟨_, rfl⟩
    have y5 : Ext w4 v5 := by rw [hv5]; exact (((Ext.refl _).alloc _).alloc _)
    have b2_0 : Hid (At (w4.heap.size) 0 (.bool sb1) v5) := by rw [hv5]; exact At.ext (At.n0 (by rfl)) ((Ext.refl _).alloc _)
    have b2_1 : Hid (At (w4.heap.size) 1 (.slice sp1 sl1 sc1) v5) := by rw [hv5]; exact At.ext (At.n0 (by rfl)) ((Ext.refl _).alloc _)
    have b2_2 : Hid (At (w4.heap.size) 2 (.slice sp2 sl2 sc2) v5) := by rw [hv5]; exact At.ext (At.n0 (by rfl)) ((Ext.refl _).alloc _)
    have k2 : Hid (Bx 3 (w4.heap.size) v5) := by rw [hv5]; exact Bx.gr (Bx.n0 3 ⟨rfl, by decide⟩ (by decide) noI_s3) (Ext.gr ((Ext.refl _).alloc _))
    have u2 : Hid (w4.heap.size < v5.heap.size) := b2_0.out.2
    have r3 : Hid (Limbs v5 (.slice (some ⟨w4.heap.size + 1, 0, none⟩) 1 1) [1]) := by rw [hv5]; exact (lit_n1 [1] (by decide) rfl 1 rfl (by decide)).ext (Ext.refl _)
    have ro3 : Hid (OwnL w.heap.size v5 (.slice (some ⟨w4.heap.size + 1, 0, none⟩) 1 1) [1]) := by rw [hv5]; exact OwnL.ext (lito_n1 [1] (by decide) rfl 1 rfl (by decide) (by first | omega | exact e2_.size | exact e3_.size | exact e4_.size | exact e5_.size)) (Ext.refl _)
    have e5_ : Ext w v5 := Ext.trans e4_ y5
    rw [← hv5]
    clear hv5
    refine (same_bool (o2.limbs.ext y5) r3.out false HQ1.out).mono ?_
    rintro e w6 ⟨rfl, x6⟩
    have e6_ : Ext w w6 := Ext.trans e5_ x6
    clear g1_0 g1_1 f1 ff1
    have g2_0 := (b2_0.out.ext x6).1
    have g2_1 := (b2_1.out.ext x6).1
    have g2_2 := (b2_2.out.ext x6).1
    have f2 : w4.heap.size < w6.heap.size := (b2_0.out.ext x6).2
    have ff2 : w4.heap.size < w6.heap.size + 1 := Nat.lt_succ_of_lt f2
    go_wp2_with fail
    refine (rmay06_mk (e1.ext (y3.trans (x4.trans (y5.trans x6)))) (o2.limbs.ext (y5.trans x6)) (HM0.out _ e1.2.1) HLD.out true HQ2.out).mono ?_
    rintro e w7 ⟨rfl, x7⟩
    have e7_ : Ext w w7 := Ext.trans e6_ x7
    clear g2_0 g2_1 g2_2 f2 ff2
    have g2_0 := (b2_0.out.ext (x6.trans x7)).1
    have g2_1 := (b2_1.out.ext (x6.trans x7)).1
    have g2_2 := (b2_2.out.ext (x6.trans x7)).1
    have g0_0 := (b0_0.out.ext (x2.trans (y3.trans (x4.trans (y5.trans (x6.trans x7)))))).1
    have g0_1 := (b0_1.out.ext (x2.trans (y3.trans (x4.trans (y5.trans (x6.trans x7)))))).1
    have g0_2 := (b0_2.out.ext (x2.trans (y3.trans (x4.trans (y5.trans (x6.trans x7)))))).1
    have z0_0 := (k0.out.gr (x2.gr.trans (y3.gr.trans (x4.gr.trans (y5.gr.trans (x6.gr.trans x7.gr)))))).free 0
    have z0_1 := (k0.out.gr (x2.gr.trans (y3.gr.trans (x4.gr.trans (y5.gr.trans (x6.gr.trans x7.gr)))))).free 1
    have z0_2 := (k0.out.gr (x2.gr.trans (y3.gr.trans (x4.gr.trans (y5.gr.trans (x6.gr.trans x7.gr)))))).free 2
    have f2 : w4.heap.size < w7.heap.size := (b2_0.out.ext (x6.trans x7)).2
    have f0 : w.heap.size < w7.heap.size := (b0_0.out.ext (x2.trans (y3.trans (x4.trans (y5.trans (x6.trans x7)))))).2
    have n0_2 : w.heap.size ≠ w4.heap.size := (by (try dsimp only); have h1 := u0.out; have h2 := (x2.gr.trans (y3.gr.trans x4.gr)).size; have h3 := Nat.le_refl 0; omega)
    have n2_0 : w4.heap.size ≠ w.heap.size := Ne.symm n0_2
    have ff2 : w4.heap.size < w7.heap.size + 1 := Nat.lt_succ_of_lt f2
    have ff0 : w.heap.size < w7.heap.size + 1 := Nat.lt_succ_of_lt f0
    go_wp2_with fail
    obtain ⟨v8, hv8⟩ : ∃ W, W = (((w7.setCell ⟨w.heap.size, 0, none⟩ (.bool sb1)).setCell ⟨w.heap.size, 1, none⟩ (.slice sp1 sl1 sc1)).setCell ⟨w.heap.size, 2, none⟩ (.slice sp2 sl2 sc2)) := ⟨_, rfl⟩
    have sv8 : v8 = setRow (w.heap.size) 0 [.bool sb1, .slice sp1 sl1 sc1, .slice sp2 sl2 sc2] w7 := hv8
    have uv8 := setRow_bx' (o := 0) (cs := [.bool sb1, .slice sp1 sl1 sc1, .slice sp2 sl2 sc2]) (k0.out.gr (x2.gr.trans (y3.gr.trans (x4.gr.trans (y5.gr.trans (x6.gr.trans x7.gr)))))) (by simp) noI_s3
    have y8 : Gr w7 v8 := by rw [sv8]; exact setRow_gr' (o := 0) (cs := [.bool sb1, .slice sp1 sl1 sc1, .slice sp2 sl2 sc2]) (k0.out.gr (x2.gr.trans (y3.gr.trans (x4.gr.trans (y5.gr.trans (x6.gr.trans x7.gr)))))) (by simp) noI_s3
    have t8 : Hid (∀ t o u, t ≠ (w.heap.size) → At t o u w7 → At t o u v8) := fun t o u h k => by rw [sv8]; exact k.setRow h _ _
    have e8_ : Ext w v8 := by rw [sv8]; exact setRow_below _ _ (by omega) _ _ e7_
    have b0_0 : Hid (At (w.heap.size) 0 (.bool sb1) v8) := by rw [sv8]; exact uv8.2.1 0 _ rfl
    have b0_1 : Hid (At (w.heap.size) 1 (.slice sp1 sl1 sc1) v8) := by rw [sv8]; exact uv8.2.1 1 _ rfl
    have b0_2 : Hid (At (w.heap.size) 2 (.slice sp2 sl2 sc2) v8) := by rw [sv8]; exact uv8.2.1 2 _ rfl
    have k0 : Hid (Bx 3 (w.heap.size) v8) := by rw [sv8]; exact uv8.1
    rw [← hv8]
    clear hv8 sv8 uv8
    have c0 := b0_0.out.1
    have c1 := b0_1.out.1
    have c2 := b0_2.out.1
    refine bodyPost_ret (v := .tuple #[.agg #[.bool sb1, .slice sp1 sl1 sc1, .slice sp2 sl2 sc2], .int .i64 0]) (by simp [results, Tryz.results36, go_sem, c0, c1, c2]) rfl ?_
    exact ⟨_, _, _, _, _, rfl, isR_mk (HQN.out ▸ (e1.gr (y3.gr.trans (x4.gr.trans (y5.gr.trans (x6.gr.trans (x7.gr.trans y8))))))) (o2.limbs.gr (y5.gr.trans (x6.gr.trans (x7.gr.trans y8)))) HQD.out, ⟨((o1.gr (y3.gr.trans (x4.gr.trans (y5.gr.trans (x6.gr.trans (x7.gr.trans y8)))))).mono e1_.size), ((o2.gr (y5.gr.trans (x6.gr.trans (x7.gr.trans y8)))).mono e3_.size)⟩, e8_⟩

/-- Read is refused -/
theorem rread06_err (s : ByteArray) (w : World) (hs : s.size ≤ 500) (k : Int) (hk : ((errQ s.data.toList : Nat) : Int) = k) (h0 : k ≠ 0) : Calls Tryz.prog 36 #[.string s] w (RetRE w k) := by
  have hb : (k != 0) = true := by simpa using h0
  rcases indexByte_range s.data.toList 47 with hi | ⟨i, hi, hl⟩
  · refine rread06_e1 s w hs hi k ?_ hb
    rw [← hk]; unfold errQ; rw [if_pos hi]
  · have hl' : i < s.size := by rw [Lib.size_eq]; exact hl
    unfold errQ at hk
    rw [if_neg (by omega), hi] at hk
    simp only [Int.toNat_natCast] at hk
    by_cases h1 : errI (s.data.toList.take i) ≠ 0
    · rw [if_pos h1] at hk; exact rread06_e2 s w i hs hl' hi k hk hb
    rw [if_neg h1] at hk
    by_cases h2 : errR (s.data.toList.drop (i + 1)) ≠ 0
    · rw [if_pos h2] at hk; exact rread06_e3 s w i hs hl' hi k (by omega) hk hb
    rw [if_neg h2] at hk
    by_cases h3 : readN (s.data.toList.drop (i + 1)) = 1
    · rw [if_neg (fun h => h.1 h3)] at hk
      obtain rfl : k = 3 := by omega
      exact rread06_e5 s w i hs hl' hi (by omega) (by omega) h3
    by_cases h4 : readN (s.data.toList.drop (i + 1)) ≠ 0 ∧ Nat.gcd (readI (s.data.toList.take i)).natAbs (readN (s.data.toList.drop (i + 1))) = 1
    · rw [if_pos ⟨h3, h4⟩] at hk; exact absurd hk.symm h0
    · rw [if_neg (fun h => h4 h.2)] at hk
      obtain rfl : k = 3 := by omega
      by_cases h5 : readN (s.data.toList.drop (i + 1)) = 0
      · exact rread06_e4 s w i hs hl' hi (by omega) (by omega) h5
      · exact rread06_e6 s w i hs hl' hi (by omega) (by omega) h3 h5 h4
theorem rread06_ok (s : ByteArray) (w : World) (hs : s.size ≤ 500) (hk : errQ s.data.toList = 0) {q : Rat} (hq : readQ s.data.toList = q) : Calls Tryz.prog 36 #[.string s] w (RetR0 w q) := by
  unfold readQ at hq
  rw [if_neg (by simp [hk])] at hq
  rcases indexByte_range s.data.toList 47 with hi | ⟨i, hi, hl⟩
  · rw [if_pos hi] at hq
    subst hq
    refine rread06_o1 s w hs hi _ ?_ rfl
    unfold errQ at hk; rw [if_pos hi] at hk; omega
  · have hl' : i < s.size := by rw [Lib.size_eq]; exact hl
    rw [if_neg (by omega), hi] at hq
    unfold errQ at hk
    rw [if_neg (by omega), hi] at hk
    simp only [Int.toNat_natCast] at hk hq
    by_cases h1 : errI (s.data.toList.take i) ≠ 0
    · rw [if_pos h1] at hk; exact absurd hk h1
    rw [if_neg h1] at hk
    by_cases h2 : errR (s.data.toList.drop (i + 1)) ≠ 0
    · rw [if_pos h2] at hk; exact absurd hk h2
    rw [if_neg h2] at hk
    split at hk
    · rename_i h3
      exact rread06_o2 s w i hs hl' hi (by omega) (by omega) h3.1 h3.2 hq
    · omega
/-- what two functions tell alike: the fraction of a text -/
theorem read6_both (s : ByteArray) (hs : s.size ≤ 500) : ∃ (x : Bool × List Nat × List Nat) (c : Nat),
    (∀ w, Calls Tryz.prog 37 #[.string s] w (RetF6 w x c)) ∧ ∀ w, Calls Tryz.prog 36 #[.string s] w (RetF6 w x c) := by
  by_cases h0 : errQ s.data.toList = 0
  · exact ⟨frQ6 (readQ s.data.toList), 0, fun w => (rread_ok s w hs h0 rfl).mono fun _ _ h => retR0_f6 h, fun w => (rread06_ok s w hs h0 rfl).mono fun _ _ h => retR0_f6 h⟩
  · exact ⟨fr06, errQ s.data.toList, fun w => (rread_err s w hs _ rfl (by omega)).mono fun _ _ h => retRE_f6 h, fun w => (rread06_err s w hs _ rfl (by omega)).mono fun _ _ h => retRE_f6 h⟩
end Go.Proofs.YtaklejkdmfgplaaGreatDoor
