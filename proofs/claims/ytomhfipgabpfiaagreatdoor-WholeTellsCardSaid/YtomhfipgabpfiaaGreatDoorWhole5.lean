/- Contracts of package whole: Read. -/
import Derived.Test.YtomhfipgabpfiaaGreatDoorWhole4
namespace Go.Proofs.YtomhfipgabpfiaaGreatDoor
open Go Go.RowKit

/-- the error that the text of a whole number gives, and what it reads -/
noncomputable def errI (l : List UInt8) : Nat := if l.head? = some 45 then (if errR l.tail ≠ 0 then errR l.tail else if readN l.tail = 0 then 3 else 0) else errR l
noncomputable def readI (l : List UInt8) : Int := if errI l ≠ 0 then 0 else if l.head? = some 45 then -(readN l.tail : Int) else (readN l : Int)
def RetIR (w : World) (k : Int) (z : Int) (e : Ending) (w' : World) : Prop :=
  ∃ v, e = .returned (.tuple #[.agg #[.bool (decide (z < 0)), v], .int .i64 k]) ∧ OwnL w.heap.size w' v (dig z.natAbs) ∧ Ext w w'
theorem RetIR.err {w w' : World} {l : List UInt8} {k : Int} (h : ((errI l : Nat) : Int) = k) (hk : k ≠ 0) (x : Ext w w') : RetIR w (errI l : Nat) (readI l) (.returned (.tuple #[.agg #[.bool false, .slice none 0 0], .int .i64 k])) w' := by
  have : readI l = 0 := by unfold readI; rw [if_pos (by omega)]
  rw [this]
  exact ⟨_, by rw [h]; rfl, by rw [show (0 : Int).natAbs = 0 from rfl, dig_zero]; exact OwnL.nil _ _, x⟩
theorem RetIR.ok {w w' : World} {l : List UInt8} {z : Int} {b : Bool} {m : Nat} {v : Value} (h : errI l = 0) (hz : readI l = z) (hb : decide (z < 0) = b) (hm : z.natAbs = m) (hv : OwnL w.heap.size w' v (dig m)) (x : Ext w w') : RetIR w (errI l : Nat) (readI l) (.returned (.tuple #[.agg #[.bool b, v], .int .i64 0])) w' := by
  subst hz hb hm
  exact ⟨_, by rw [h]; rfl, hv, x⟩

theorem head_45 {l : List UInt8} : (l.take 1 == [45]) = decide (l.head? = some 45) := by
  cases l with
  | nil => rfl
  | cons a l => by_cases h : a = 45 <;> simp [h]

set_option maxHeartbeats 2000000 in
set_option maxRecDepth 100000 in
theorem iread_calls (s : ByteArray) (w : World) (hs : s.size ≤ 500) :
    Calls Tryz.prog 32 #[.string s] w (RetIR w (errI s.data.toList : Nat) (readI s.data.toList)) := by
  have hsi : (s.size : Int) ≤ 500 := by omega
  have y0 := (Ext.refl w).alloc (.cells #[.bool false, .slice none 0 0] 25)
  have hE : ((s.extract 0 1).toList == [45]) = decide (s.data.toList.head? = some 45) := by rw [Lib.extract_toList, List.drop_zero]; exact head_45
  have hlen : s.data.toList.length = s.size := (Lib.size_eq s).symm
  have HS := Lib.hid hs
  by_cases hh : s.data.toList.head? = some 45
  · have h1 : (0 : Int) < s.size := by
      have : s.data.toList ≠ [] := by intro h; rw [h] at hh; simp at hh
      have := List.length_pos_iff.2 this
      omega
    obtain ⟨t, ht⟩ : ∃ t, t = s.extract 1 s.size := ⟨_, rfl⟩
    have htl : t.data.toList = s.data.toList.tail := by rw [ht, Lib.extract_data, List.drop_one, List.take_of_length_le (by rw [List.length_tail]; omega)]
    have hts : t.size ≤ 500 := by rw [Lib.size_eq t, htl, List.length_tail]; omega
    obtain ⟨k, hk⟩ : ∃ k, ((errR t.data.toList : Nat) : Int) = k := ⟨_, rfl⟩
    obtain ⟨n, hn⟩ : ∃ n, readN t.data.toList = n := ⟨_, rfl⟩
    have hL : (dig n).length ≤ 65536 := by rw [← hn]; exact digits_501 (by rw [← Lib.size_eq t]; omega)
    have hEI : ((errI s.data.toList : Nat) : Int) = if k = 0 then (if n = 0 then 3 else 0) else k := by
      unfold errI
      rw [if_pos hh, ← htl, hn, ← hk]
      by_cases h : errR t.data.toList = 0
      · rw [h]; by_cases h2 : n = 0 <;> simp [h2]
      · rw [if_pos h, if_neg (by omega)]
    have hRI : readI s.data.toList = if errI s.data.toList ≠ 0 then 0 else -(n : Int) := by
      unfold readI
      rw [if_pos hh, ← htl, hn]
    rw [decide_eq_true hh] at hE
    have HT := Lib.hid ht
    have HK := Lib.hid hk
    have HN := Lib.hid hn
    have HL := Lib.hid hL
    have HTS : Hid (t.size ≤ maxLen) := by show _ ≤ _; unfold maxLen; omega
    have HEI := Lib.hid hEI
    have HRI := Lib.hid hRI
    clear ht htl hts hk hn hL hEI hRI hlen hh hs
    by_cases hk0 : k = 0
    · subst hk0
      obtain ⟨z, hz⟩ : ∃ z, decide (n = 0) = z := ⟨_, rfl⟩
      cases z with
      | true =>
        have hn0 : n = 0 := by simpa using hz
        have HE3 : Hid (((errI s.data.toList : Nat) : Int) = 3) := by show _ = _; rw [HEI.out, if_pos rfl, if_pos hn0]
        have HZ := Lib.hid hz
        clear hz hn0
        go_enter Tryz.func32, Tryz.ntmps32
        go_wp2_with fail
        rw [← HT.out]
        refine (read_str t _ HTS.out 0 n HK.out HN.out).mono ?_
        rintro e w1 ⟨v, rfl, hv, x1⟩
        obtain ⟨c1, c2, d1, d2⟩ := box2 x1
        go_wp2_with fail
        refine (zerod_ok hv.limbs HL.out HZ.out).mono ?_
        rintro e w2 ⟨rfl, rfl⟩
        go_wp2_with fail
        refine bodyPost_ret (v := .tuple #[.agg #[.bool false, .slice none 0 0], .int .i64 3]) (by simp [results, Tryz.results32, go_sem, c1, c2]) rfl (RetIR.err HE3.out (by decide) (ext_box2 (y0.trans x1) (Nat.le_refl _) _ _))
      | false =>
        have hn0 : ¬ n = 0 := by simpa using hz
        have HE3 : Hid (errI s.data.toList = 0) := by show _ = _; have := HEI.out; rw [if_pos rfl, if_neg hn0] at this; omega
        have HR3 : Hid (readI s.data.toList = -(n : Int)) := by show _ = _; rw [HRI.out, if_neg (by rw [HE3.out]; simp)]
        have HB : Hid (decide (iv true (dig n) < 0) = true) := by show _ = _; rw [iv_dig_true]; simp; omega
        have HM : Hid ((iv true (dig n)).natAbs = n) := by show _ = _; rw [iv_dig_true]; omega
        have HZ := Lib.hid hz
        have HN0 := Lib.hid hn0
        clear hz hn0
        go_enter Tryz.func32, Tryz.ntmps32
        go_wp2_with fail
        rw [← HT.out]
        refine (read_str t _ HTS.out 0 n HK.out HN.out).mono ?_
        rintro e w1 ⟨v, rfl, hv, x1⟩
        go_wp2_with fail
        refine (zerod_ok hv.limbs HL.out HZ.out).mono ?_
        rintro e w2 ⟨rfl, rfl⟩
        go_wp2_with fail
        refine (make_ok hv.limbs HL.out true HB.out HM.out).mono ?_
        rintro e w3 ⟨r, rfl, hr, x3⟩
        obtain ⟨c1, c2, d1, d2⟩ := box2 (x1.trans x3)
        obtain ⟨ra, rc, rfl, -, -, -⟩ := hr.limbs.open
        go_wp2_with fail
        refine bodyPost_ret (v := .tuple #[.agg #[.bool true, .slice ra (dig n).length rc], .int .i64 0]) (by simp [results, Tryz.results32, go_sem, c1, c2]) rfl (RetIR.ok (m := n) HE3.out HR3.out (by have := HN0.out; simp; omega) (by omega) ?_ (ext_box2 (y0.trans (x1.trans x3)) (Nat.le_refl _) _ _))
        have z1 := x1.size
        simp at z1
        exact (hr.set2 (by omega) _ _).mono (by omega)
    · have HE3 : Hid (((errI s.data.toList : Nat) : Int) = k) := by show _ = _; rw [HEI.out, if_neg hk0]
      go_enter Tryz.func32, Tryz.ntmps32
      go_wp2_with fail
      rw [← HT.out]
      refine (read_str t _ HTS.out k n HK.out HN.out).mono ?_
      rintro e w1 ⟨v, rfl, hv, x1⟩
      obtain ⟨c1, c2, d1, d2⟩ := box2 x1
      go_wp2_with fail
      refine bodyPost_ret (v := .tuple #[.agg #[.bool false, .slice none 0 0], .int .i64 k]) (by simp [results, Tryz.results32, go_sem, c1, c2]) rfl (RetIR.err HE3.out hk0 (ext_box2 (y0.trans x1) (Nat.le_refl _) _ _))
  · rw [decide_eq_false hh] at hE
    obtain ⟨k, hk⟩ : ∃ k, ((errR s.data.toList : Nat) : Int) = k := ⟨_, rfl⟩
    obtain ⟨n, hn⟩ : ∃ n, readN s.data.toList = n := ⟨_, rfl⟩
    have hL : (dig n).length ≤ 65536 := by rw [← hn]; exact digits_501 (by omega)
    have hEI : ((errI s.data.toList : Nat) : Int) = k := by unfold errI; rw [if_neg hh]; exact hk
    have hRI : readI s.data.toList = if errI s.data.toList ≠ 0 then 0 else (n : Int) := by unfold readI; rw [if_neg hh, hn]
    have HK := Lib.hid hk
    have HN := Lib.hid hn
    have HL := Lib.hid hL
    have HTS : Hid (s.size ≤ maxLen) := by show _ ≤ _; unfold maxLen; omega
    have HEI := Lib.hid hEI
    have HRI := Lib.hid hRI
    clear hk hn hL hEI hRI hlen hh hs
    by_cases h0 : s.size = 0
    · have hsz : (s.size : Int) ≤ 0 := by omega
      clear h0
      by_cases hk0 : k = 0
      · subst hk0
        have HE3 : Hid (errI s.data.toList = 0) := by show _ = _; have := HEI.out; omega
        have HR3 : Hid (readI s.data.toList = (n : Int)) := by show _ = _; rw [HRI.out, if_neg (by rw [HE3.out]; simp)]
        go_enter Tryz.func32, Tryz.ntmps32
        go_wp2_with fail
        refine (read_str s _ HTS.out 0 n HK.out HN.out).mono ?_
        rintro e w1 ⟨v, rfl, hv, x1⟩
        go_wp2_with fail
        refine (maker_ok hv.limbs HL.out).mono ?_
        rintro e w3 ⟨r, rfl, hr, x3⟩
        obtain ⟨c1, c2, d1, d2⟩ := box2 (x1.trans x3)
        obtain ⟨ra, rc, rfl, -, -, -⟩ := hr.limbs.open
        go_wp2_with fail
        refine bodyPost_ret (v := .tuple #[.agg #[.bool false, .slice ra (dig n).length rc], .int .i64 0]) (by simp [results, Tryz.results32, go_sem, c1, c2]) rfl (RetIR.ok (m := n) HE3.out HR3.out (by simp) (by omega) ?_ (ext_box2 (y0.trans (x1.trans x3)) (Nat.le_refl _) _ _))
        have z1 := x1.size
        simp at z1
        exact (hr.set2 (by omega) _ _).mono (by omega)
      · have HE3 := HEI
        go_enter Tryz.func32, Tryz.ntmps32
        go_wp2_with fail
        refine (read_str s _ HTS.out k n HK.out HN.out).mono ?_
        rintro e w1 ⟨v, rfl, hv, x1⟩
        obtain ⟨c1, c2, d1, d2⟩ := box2 x1
        go_wp2_with fail
        refine bodyPost_ret (v := .tuple #[.agg #[.bool false, .slice none 0 0], .int .i64 k]) (by simp [results, Tryz.results32, go_sem, c1, c2]) rfl (RetIR.err HE3.out hk0 (ext_box2 (y0.trans x1) (Nat.le_refl _) _ _))
    · have hsz : (0 : Int) < s.size := by omega
      clear h0
      by_cases hk0 : k = 0
      · subst hk0
        have HE3 : Hid (errI s.data.toList = 0) := by show _ = _; have := HEI.out; omega
        have HR3 : Hid (readI s.data.toList = (n : Int)) := by show _ = _; rw [HRI.out, if_neg (by rw [HE3.out]; simp)]
        go_enter Tryz.func32, Tryz.ntmps32
        go_wp2_with fail
        refine (read_str s _ HTS.out 0 n HK.out HN.out).mono ?_
        rintro e w1 ⟨v, rfl, hv, x1⟩
        go_wp2_with fail
        refine (maker_ok hv.limbs HL.out).mono ?_
        rintro e w3 ⟨r, rfl, hr, x3⟩
        obtain ⟨c1, c2, d1, d2⟩ := box2 (x1.trans x3)
        obtain ⟨ra, rc, rfl, -, -, -⟩ := hr.limbs.open
        go_wp2_with fail
        refine bodyPost_ret (v := .tuple #[.agg #[.bool false, .slice ra (dig n).length rc], .int .i64 0]) (by simp [results, Tryz.results32, go_sem, c1, c2]) rfl (RetIR.ok (m := n) HE3.out HR3.out (by simp) (by omega) ?_ (ext_box2 (y0.trans (x1.trans x3)) (Nat.le_refl _) _ _))
        have z1 := x1.size
        simp at z1
        exact (hr.set2 (by omega) _ _).mono (by omega)
      · have HE3 := HEI
        go_enter Tryz.func32, Tryz.ntmps32
        go_wp2_with fail
        refine (read_str s _ HTS.out k n HK.out HN.out).mono ?_
        rintro e w1 ⟨v, rfl, hv, x1⟩
        obtain ⟨c1, c2, d1, d2⟩ := box2 x1
        go_wp2_with fail
        refine bodyPost_ret (v := .tuple #[.agg #[.bool false, .slice none 0 0], .int .i64 k]) (by simp [results, Tryz.results32, go_sem, c1, c2]) rfl (RetIR.err HE3.out hk0 (ext_box2 (y0.trans x1) (Nat.le_refl _) _ _))
end Go.Proofs.YtomhfipgabpfiaaGreatDoor
