/- Contracts of tombolaref05: Show, Read. -/
import Derived.Test.YtaklejkdmfgplaaGreatDoorPartC
import Derived.Test.YtaklejkdmfgplaaGreatDoorStrRef
namespace Go.Proofs.YtaklejkdmfgplaaGreatDoor
open Go Go.RowKit

theorem head_bn {l : List UInt8} (h : l ≠ []) : l.head? = some 45 ↔ bn l 0 = 45 := by
  cases l with
  | nil => exact absurd rfl h
  | cons a l =>
    simp only [bn, List.head?_cons, Option.some.injEq, List.getElem?_cons_zero, Option.getD_some]
    constructor
    · rintro rfl; rfl
    · intro h; exact UInt8.toNat_inj.1 (by rw [h]; rfl)

set_option maxHeartbeats 2000000 in
set_option maxRecDepth 100000 in
theorem refiread_calls (s : ByteArray) (w : World) (hs : s.size ≤ 500) :
    Calls Tryz.prog 80 #[.string s] w (RetIR w (errI s.data.toList : Nat) (readI s.data.toList)) := by
  have hsi : (s.size : Int) ≤ 500 := by omega
  have y0 := (Ext.refl w).alloc (.cells #[.bool false, .slice none 0 0] 25)
  have hlen : s.data.toList.length = s.size := (Lib.size_eq s).symm
  by_cases h0 : s.data.toList = []
  · have hs0 : s = ⟨#[]⟩ := by rw [← Lib.mk_data s, h0]
    subst hs0
    have HE : Hid (((errI [] : Nat) : Int) = 4) := by show _ = _; unfold errI; rfl
    clear hsi hlen hs h0
    go_enter Tryz.func80, Tryz.ntmps80
    go_wp2_with fail
    refine (refread_str ⟨#[]⟩ _ (by decide) 4 0 rfl rfl).mono ?_
    rintro e w1 ⟨v, rfl, hv, x1⟩
    obtain ⟨c1, c2, d1, d2⟩ := box2 x1
    go_wp2_with fail
    refine bodyPost_ret (v := .tuple #[.agg #[.bool false, .slice none 0 0], .int .i64 4]) (by simp [results, Tryz.results80, go_sem, c1, c2]) rfl (RetIR.err (l := []) HE.out (by decide) (ext_box2 (y0.trans x1) (Nat.le_refl _) _ _))
  have hget : ∀ i (h : i < s.size), ((s[i]'h).toNat : Int) = (bn s.data.toList i : Int) := fun i h => bn_get s i h
  have hne : s.toList.isEmpty = false := by rw [Lib.toList_data]; simpa using h0
  have hne2 : ¬ s.toList = [] := by rw [Lib.toList_data]; exact h0
  have hs1 : 0 < s.size := by rw [← hlen]; exact List.length_pos_iff.2 h0
  by_cases hb : bn s.data.toList 0 = 45
  · have hh := (head_bn h0).2 hb
    obtain ⟨t, ht⟩ : ∃ t, t = s.extract 1 s.size := ⟨_, rfl⟩
    have htl : t.data.toList = s.data.toList.tail := by rw [ht, Lib.extract_data, List.drop_one, List.take_of_length_le (by rw [List.length_tail]; omega)]
    have hts : t.size ≤ 500 := by rw [Lib.size_eq t, htl, List.length_tail]; omega
    obtain ⟨k, hk⟩ : ∃ k, ((errR t.data.toList : Nat) : Int) = k := ⟨_, rfl⟩
    obtain ⟨n, hn⟩ : ∃ n, readN t.data.toList = n := ⟨_, rfl⟩
    have hL : (dig n).length ≤ 65536 := by rw [← hn]; exact digits_501 (by rw [← Lib.size_eq t]; omega)
    have hEI : ((errI s.data.toList : Nat) : Int) = if k = 0 then (if n = 0 then 3 else 0) else k := by
      unfold errI
      rw [if_pos hh, ← htl, hn, ← hk]
      by_cases h : errR t.data.toList = 0
      · rw [h]; by_cases h2 : n = 0 <;> simp [h2]
      · rw [if_pos h, if_neg (by omega)]
    have hRI : readI s.data.toList = if errI s.data.toList ≠ 0 then 0 else -(n : Int) := by
      unfold readI
      rw [if_pos hh, ← htl, hn]
    have HT := Lib.hid ht
    have HK := Lib.hid hk
    have HN := Lib.hid hn
    have HL := Lib.hid hL
    have HTS : Hid (t.size ≤ maxLen) := by show _ ≤ _; unfold maxLen; omega
    have HEI := Lib.hid hEI
    have HRI := Lib.hid hRI
    clear ht htl hts hk hn hL hEI hRI hlen hh hs h0
    by_cases hk0 : k = 0
    · subst hk0
      by_cases hn0 : n = 0
      · have HE3 : Hid (((errI s.data.toList : Nat) : Int) = 3) := by show _ = _; rw [HEI.out, if_pos rfl, if_pos hn0]
        have HD : Hid (dig n = []) := by show _ = _; rw [hn0, dig_zero]
        clear hn0
        go_enter Tryz.func80, Tryz.ntmps80
        go_wp2_with fail
        rw [← HT.out]
        refine (refread_str t _ HTS.out 0 n HK.out HN.out).mono ?_
        rintro e w1 ⟨v, rfl, hv, x1⟩
        obtain ⟨c1, c2, d1, d2⟩ := box2 x1
        rw [HD.out] at hv
        obtain ⟨ra, rc, rfl, -, -, -⟩ := hv.limbs.open
        go_wp2_with fail
        refine bodyPost_ret (v := .tuple #[.agg #[.bool false, .slice none 0 0], .int .i64 3]) (by simp [results, Tryz.results80, go_sem, c1, c2]) rfl (RetIR.err HE3.out (by decide) (ext_box2 (y0.trans x1) (Nat.le_refl _) _ _))
      · have HE3 : Hid (errI s.data.toList = 0) := by show _ = _; have := HEI.out; rw [if_pos rfl, if_neg hn0] at this; omega
        have HR3 : Hid (readI s.data.toList = -(n : Int)) := by show _ = _; rw [HRI.out, if_neg (by rw [HE3.out]; simp)]
        have HB : Hid (decide (iv true (dig n) < 0) = true) := by show _ = _; rw [iv_dig_true]; simp; omega
        have HM : Hid ((iv true (dig n)).natAbs = n) := by show _ = _; rw [iv_dig_true]; omega
        have HN0 := Lib.hid hn0
        have hd1 := len_pos hn0
        clear hn0
        go_enter Tryz.func80, Tryz.ntmps80
        go_wp2_with fail
        rw [← HT.out]
        refine (refread_str t _ HTS.out 0 n HK.out HN.out).mono ?_
        rintro e w1 ⟨v, rfl, hv, x1⟩
        obtain ⟨va, vc, rfl, -, -, -⟩ := hv.limbs.open
        go_wp2_with fail
        refine (refmake_ok hv.limbs HL.out true HB.out HM.out).mono ?_
        rintro e w3 ⟨r, rfl, hr, x3⟩
        obtain ⟨c1, c2, d1, d2⟩ := box2 (x1.trans x3)
        obtain ⟨ra, rc, rfl, -, -, -⟩ := hr.limbs.open
        go_wp2_with fail
        refine bodyPost_ret (v := .tuple #[.agg #[.bool true, .slice ra (dig n).length rc], .int .i64 0]) (by simp [results, Tryz.results80, go_sem, c1, c2]) rfl (RetIR.ok (m := n) HE3.out HR3.out (by have := HN0.out; simp; omega) (by omega) ?_ (ext_box2 (y0.trans (x1.trans x3)) (Nat.le_refl _) _ _))
        have z1 := x1.size
        simp at z1
        exact (hr.set2 (by omega) _ _).mono (by omega)
    · have HE3 : Hid (((errI s.data.toList : Nat) : Int) = k) := by show _ = _; rw [HEI.out, if_neg hk0]
      go_enter Tryz.func80, Tryz.ntmps80
      go_wp2_with fail
      rw [← HT.out]
      refine (refread_str t _ HTS.out k n HK.out HN.out).mono ?_
      rintro e w1 ⟨v, rfl, hv, x1⟩
      obtain ⟨c1, c2, d1, d2⟩ := box2 x1
      go_wp2_with fail
      refine bodyPost_ret (v := .tuple #[.agg #[.bool false, .slice none 0 0], .int .i64 k]) (by simp [results, Tryz.results80, go_sem, c1, c2]) rfl (RetIR.err HE3.out hk0 (ext_box2 (y0.trans x1) (Nat.le_refl _) _ _))
  · have hh : ¬ s.data.toList.head? = some 45 := fun h => hb ((head_bn h0).1 h)
    obtain ⟨k, hk⟩ : ∃ k, ((errR s.data.toList : Nat) : Int) = k := ⟨_, rfl⟩
    obtain ⟨n, hn⟩ : ∃ n, readN s.data.toList = n := ⟨_, rfl⟩
    have hL : (dig n).length ≤ 65536 := by rw [← hn]; exact digits_501 (by omega)
    have hEI : ((errI s.data.toList : Nat) : Int) = k := by unfold errI; rw [if_neg hh]; exact hk
    have hRI : readI s.data.toList = if errI s.data.toList ≠ 0 then 0 else (n : Int) := by unfold readI; rw [if_neg hh, hn]
    have HK := Lib.hid hk
    have HN := Lib.hid hn
    have HL := Lib.hid hL
    have HTS : Hid (s.size ≤ maxLen) := by show _ ≤ _; unfold maxLen; omega
    have HEI := Lib.hid hEI
    have HRI := Lib.hid hRI
    clear hk hn hL hEI hRI hlen hh hs h0
    by_cases hk0 : k = 0
    · subst hk0
      have HE3 : Hid (errI s.data.toList = 0) := by show _ = _; have := HEI.out; omega
      have HR3 : Hid (readI s.data.toList = (n : Int)) := by show _ = _; rw [HRI.out, if_neg (by rw [HE3.out]; simp)]
      go_enter Tryz.func80, Tryz.ntmps80
      go_wp2_with fail
      refine (refread_str s _ HTS.out 0 n HK.out HN.out).mono ?_
      rintro e w1 ⟨v, rfl, hv, x1⟩
      go_wp2_with fail
      refine (refmaker_ok hv.limbs HL.out).mono ?_
      rintro e w3 ⟨r, rfl, hr, x3⟩
      obtain ⟨c1, c2, d1, d2⟩ := box2 (x1.trans x3)
      obtain ⟨ra, rc, rfl, -, -, -⟩ := hr.limbs.open
      go_wp2_with fail
      refine bodyPost_ret (v := .tuple #[.agg #[.bool false, .slice ra (dig n).length rc], .int .i64 0]) (by simp [results, Tryz.results80, go_sem, c1, c2]) rfl (RetIR.ok (m := n) HE3.out HR3.out (by simp) (by omega) ?_ (ext_box2 (y0.trans (x1.trans x3)) (Nat.le_refl _) _ _))
      have z1 := x1.size
      simp at z1
      exact (hr.set2 (by omega) _ _).mono (by omega)
    · have HE3 := HEI
      go_enter Tryz.func80, Tryz.ntmps80
      go_wp2_with fail
      refine (refread_str s _ HTS.out k n HK.out HN.out).mono ?_
      rintro e w1 ⟨v, rfl, hv, x1⟩
      obtain ⟨c1, c2, d1, d2⟩ := box2 x1
      go_wp2_with fail
      refine bodyPost_ret (v := .tuple #[.agg #[.bool false, .slice none 0 0], .int .i64 k]) (by simp [results, Tryz.results80, go_sem, c1, c2]) rfl (RetIR.err HE3.out hk0 (ext_box2 (y0.trans x1) (Nat.le_refl _) _ _))

end Go.Proofs.YtaklejkdmfgplaaGreatDoor
