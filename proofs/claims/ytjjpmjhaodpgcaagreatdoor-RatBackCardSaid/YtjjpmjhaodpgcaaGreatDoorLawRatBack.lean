/- RatBack answers true at all fractions and texts. -/
import Derived.Test.YtjjpmjhaodpgcaaGreatDoorPartG
namespace Go.Proofs.YtjjpmjhaodpgcaaGreatDoor
open Go Go.RowKit

theorem showL_no47 (n : Nat) : (47 : UInt8) ∉ showL n := fun h => by
  have := List.all_eq_true.1 (showL_all n) 47 h
  exact absurd this (by decide)
theorem showI_no47 (z : Int) : (47 : UInt8) ∉ showI z := fun h => by
  unfold showI at h
  split at h
  · rcases List.mem_cons.1 h with h | h
    · exact absurd h (by decide)
    · exact showL_no47 _ h
  · exact showL_no47 _ h
theorem indexByte_not {l : List UInt8} {c : UInt8} (h : c ∉ l) : Lib.indexByte l c = -1 := by
  rcases indexByte_range l c with e | ⟨i, e, -⟩
  · exact e
  · exact absurd (List.mem_of_getElem? (Lib.indexByte_some e).1) h
theorem indexByte_app {l r : List UInt8} {c : UInt8} (h : c ∉ l) : Lib.indexByte (l ++ c :: r) c = (l.length : Nat) := by
  have hl : (l ++ c :: r)[l.length]? = some c := by rw [List.getElem?_append_right (Nat.le_refl _), Nat.sub_self]; rfl
  rcases indexByte_range (l ++ c :: r) c with e | ⟨i, e, -⟩
  · exact absurd hl (Lib.indexByte_none e _)
  · obtain ⟨h1, h2⟩ := Lib.indexByte_some e
    rcases Nat.lt_trichotomy i l.length with g | g | g
    · rw [List.getElem?_append_left g] at h1
      exact absurd (List.mem_of_getElem? h1) h
    · rw [e, g]
    · exact absurd hl (h2 _ g)
/-- what is read of what is shown is the fraction -/
theorem show_backR {k : Nat} {q : Rat} (h : LenR k q) (hk : k ≤ 900) : errQ (showR q) = 0 ∧ readQ (showR q) = q := by
  have h1 := h.pos
  obtain ⟨e1, e2⟩ := show_back (z := q.num) h.1 h1 hk
  by_cases hd : q.den = 1
  · have hs : showR q = showI q.num := by unfold showR; rw [if_pos hd, List.append_nil]
    have hi := indexByte_not (showI_no47 q.num)
    have he : errQ (showI q.num) = 0 := by unfold errQ; rw [if_pos hi, e1]
    rw [hs]
    refine ⟨he, ?_⟩
    unfold readQ
    rw [if_neg (by simp [he]), if_pos hi, e2]
    exact Rat.ext rfl (by rw [hd]; rfl)
  · have hs : showR q = showI q.num ++ 47 :: showL q.den := by unfold showR; rw [if_neg hd]
    have hi := indexByte_app (r := showL q.den) (showI_no47 q.num)
    obtain ⟨f1, f2⟩ := read_show (n := q.den) (by have := showL_lenB h.2 h1; omega)
    have ht : (showI q.num ++ 47 :: showL q.den).take (showI q.num).length = showI q.num := List.take_left
    have hdr : (showI q.num ++ 47 :: showL q.den).drop ((showI q.num).length + 1) = showL q.den := by rw [List.drop_append]; simp
    have he : errQ (showI q.num ++ 47 :: showL q.den) = 0 := by
      unfold errQ
      rw [if_neg (by omega), hi, Int.toNat_natCast, ht, hdr, if_neg (by simp [e1]), if_neg (by simp [f1]), f2, e2, if_pos ⟨hd, q.den_nz, q.reduced⟩]
    rw [hs]
    refine ⟨he, ?_⟩
    unfold readQ
    rw [if_neg (by simp [he]), if_neg (by omega), hi, Int.toNat_natCast, ht, hdr, f2, e2, Rat.mkRat_self]
theorem readQ_len {l : List UInt8} {n : Nat} (h : l.length ≤ n) (hn : 1 ≤ n) : LenR n (readQ l) := by
  unfold readQ
  split
  · exact lenR_zero.mono hn
  · split
    · exact LenR.int (readI_lt h hn) hn
    · exact LenR.mk hn (readI_lt (by rw [List.length_take]; omega) hn) (readN_lt (by rw [List.length_drop]; omega) hn)
theorem may_own {w : World} {b n : Bool} {v u : Value} {m d : Nat} {z : Rat} {A B : List Nat} (h : IsR w b v u m d z) (hm : decide (val B ≠ 0 ∧ decide (z.num < 0) = n ∧ dig z.num.natAbs = A ∧ dig z.den = B) = true) : decide (n = b ∧ A = dig m ∧ B = dig d) = true := by
  obtain ⟨-, h2, h3, h4⟩ := decide_eq_true_eq.mp hm
  rw [decide_eq_true_eq, ← h.1, ← h.2.1, ← h.2.2.1]
  exact ⟨h2.symm, h3.symm, h4.symm⟩

set_option maxHeartbeats 8000000 in
set_option maxRecDepth 100000 in
theorem ratBack_calls {w : World} {v0 u0 : Value} {A0 B0 : List Nat} (h0 : Limbs w v0 A0) (g0 : Limbs w u0 B0) (n0 : Bool) (s : ByteArray) (hs : s.size ≤ maxLen) :
    Calls Tryz.prog 6 #[.agg #[.bool n0, v0, u0], .string s] w (Yes w) := by
  obtain ⟨p0, q0, rfl, -, -, -⟩ := h0.open
  obtain ⟨p0', q0', rfl, -, -, -⟩ := g0.open
  unfold maxLen at hs
  obtain ⟨lb, hlb⟩ : ∃ b, longR [(n0, A0, B0)] = b := ⟨_, rfl⟩
  cases lb with
  | true =>
    have HLB := Lib.hid hlb
    clear hlb hs
    go_enter Tryz.func6, Tryz.ntmps6
    go_wp2_with fail
    obtain ⟨v1, hv1⟩ : ∃ W, W = ((w.alloc (.cells #[.bool n0, .slice p0 A0.length q0, .slice p0' B0.length q0'] 27)).alloc (.cells #[.bool n0, .slice p0 A0.length q0, .slice p0' B0.length q0'] 27)) := ⟨_, rfl⟩
    have y1 : Ext w v1 := by rw [hv1]; exact (((Ext.refl _).alloc _).alloc _)
    have b0_0 : Hid (At (w.heap.size) 0 (.bool n0) v1) := by rw [hv1]; exact At.ext (At.n0 (by rfl)) ((Ext.refl _).alloc _)
    have b0_1 : Hid (At (w.heap.size) 1 (.slice p0 A0.length q0) v1) := by rw [hv1]; exact At.ext (At.n0 (by rfl)) ((Ext.refl _).alloc _)
    have b0_2 : Hid (At (w.heap.size) 2 (.slice p0' B0.length q0') v1) := by rw [hv1]; exact At.ext (At.n0 (by rfl)) ((Ext.refl _).alloc _)
    have k0 : Hid (Bx 3 (w.heap.size) v1) := by rw [hv1]; exact Bx.gr (Bx.n0 3 ⟨rfl, by decide⟩ (by decide) noI_s3) (Ext.gr ((Ext.refl _).alloc _))
    have u0 : Hid (w.heap.size < v1.heap.size) := b0_0.out.2
    have b1_0 : Hid (At (w.heap.size + 1) 0 (.bool n0) v1) := by rw [hv1]; exact At.ext (At.n1 (by rfl)) (Ext.refl _)
    have b1_1 : Hid (At (w.heap.size + 1) 1 (.slice p0 A0.length q0) v1) := by rw [hv1]; exact At.ext (At.n1 (by rfl)) (Ext.refl _)
    have b1_2 : Hid (At (w.heap.size + 1) 2 (.slice p0' B0.length q0') v1) := by rw [hv1]; exact At.ext (At.n1 (by rfl)) (Ext.refl _)
    have k1 : Hid (Bx 3 (w.heap.size + 1) v1) := by rw [hv1]; exact Bx.gr (Bx.n1 3 ⟨rfl, by decide⟩ (by decide) noI_s3) (Ext.gr (Ext.refl _))
    have u1 : Hid (w.heap.size + 1 < v1.heap.size) := b1_0.out.2
    have e1_ : Ext w v1 := y1
    rw [← hv1]
    clear hv1
    refine (long_calls (Ls := [(n0, A0, B0)]) (sl3_1 (b1_0.out) (b1_1.out) (b1_2.out) (⟨rfl, (h0.ext y1), (g0.ext y1)⟩)) true HLB.out).mono ?_
    rintro e w2 ⟨rfl, x2⟩
    have e2_ : Ext w w2 := Ext.trans e1_ x2
    go_wp2_with fail
    refine (awake06_calls _).mono ?_
    rintro e w3 ⟨rfl, x3⟩
    have e3_ : Ext w w3 := Ext.trans e2_ x3
    go_wp2_with fail
    go_ret
    exact ⟨rfl, e3_⟩
  | false =>
    have HLB := Lib.hid hlb
    have HLA0 : Hid (A0.length ≤ 6) := (longR_get hlb (a := (n0, A0, B0)) (by simp)).1
    have HLB0 : Hid (B0.length ≤ 6) := (longR_get hlb (a := (n0, A0, B0)) (by simp)).2
    obtain ⟨z0, hz0⟩ : ∃ z, mkRat (iv n0 A0) (val B0) = z := ⟨_, rfl⟩
    have HZ0 := Lib.hid hz0
    have i0 : InR w n0 (.slice p0 A0.length q0) (.slice p0' B0.length q0') 6 z0 := ⟨A0, B0, h0, g0, hz0, HLA0.out, HLB0.out, by decide⟩
    have HLZ : Hid (LenR 6 z0) := InR.len i0
    clear hlb hz0
    by_cases hsl : 300 < s.size
    · have hsi : (301 : Int) ≤ s.size := by omega
      have hsj : (s.size : Int) ≤ 9223372036854775807 := by omega
      clear hs hsl
      go_enter Tryz.func6, Tryz.ntmps6
      go_wp2_with fail
      obtain ⟨v1, hv1⟩ : ∃ W, W = ((w.alloc (.cells #[.bool n0, .slice p0 A0.length q0, .slice p0' B0.length q0'] 27)).alloc (.cells #[.bool n0, .slice p0 A0.length q0, .slice p0' B0.length q0'] 27)) := ⟨_, rfl⟩
      have y1 : Ext w v1 := by rw [hv1]; exact (((Ext.refl _).alloc _).alloc _)
      have b0_0 : Hid (At (w.heap.size) 0 (.bool n0) v1) := by rw [hv1]; exact At.ext (At.n0 (by rfl)) ((Ext.refl _).alloc _)
      have b0_1 : Hid (At (w.heap.size) 1 (.slice p0 A0.length q0) v1) := by rw [hv1]; exact At.ext (At.n0 (by rfl)) ((Ext.refl _).alloc _)
      have b0_2 : Hid (At (w.heap.size) 2 (.slice p0' B0.length q0') v1) := by rw [hv1]; exact At.ext (At.n0 (by rfl)) ((Ext.refl _).alloc _)
      have k0 : Hid (Bx 3 (w.heap.size) v1) := by rw [hv1]; exact Bx.gr (Bx.n0 3 ⟨rfl, by decide⟩ (by decide) noI_s3) (Ext.gr ((Ext.refl _).alloc _))
      have u0 : Hid (w.heap.size < v1.heap.size) := b0_0.out.2
      have b1_0 : Hid (At (w.heap.size + 1) 0 (.bool n0) v1) := by rw [hv1]; exact At.ext (At.n1 (by rfl)) (Ext.refl _)
      have b1_1 : Hid (At (w.heap.size + 1) 1 (.slice p0 A0.length q0) v1) := by rw [hv1]; exact At.ext (At.n1 (by rfl)) (Ext.refl _)
      have b1_2 : Hid (At (w.heap.size + 1) 2 (.slice p0' B0.length q0') v1) := by rw [hv1]; exact At.ext (At.n1 (by rfl)) (Ext.refl _)
      have k1 : Hid (Bx 3 (w.heap.size + 1) v1) := by rw [hv1]; exact Bx.gr (Bx.n1 3 ⟨rfl, by decide⟩ (by decide) noI_s3) (Ext.gr (Ext.refl _))
      have u1 : Hid (w.heap.size + 1 < v1.heap.size) := b1_0.out.2
      have e1_ : Ext w v1 := y1
      rw [← hv1]
      clear hv1
      refine (long_calls (Ls := [(n0, A0, B0)]) (sl3_1 (b1_0.out) (b1_1.out) (b1_2.out) (⟨rfl, (h0.ext y1), (g0.ext y1)⟩)) false HLB.out).mono ?_
      rintro e w2 ⟨rfl, x2⟩
      have e2_ : Ext w w2 := Ext.trans e1_ x2
      go_wp2_with fail
      refine (awake06_calls _).mono ?_
      rintro e w3 ⟨rfl, x3⟩
      have e3_ : Ext w w3 := Ext.trans e2_ x3
      go_wp2_with fail
      go_ret
      exact ⟨rfl, e3_⟩
    have hsi : (s.size : Int) ≤ 300 := by omega
    have HS5 : Hid (s.size ≤ 500) := by show _ ≤ _; omega
    obtain ⟨t, ht⟩ := str_of (showR z0)
    have HT := Lib.hid ht
    obtain ⟨b1, b2⟩ := show_backR HLZ.out (by decide)
    have HE1 : Hid (errQ t.data.toList = 0) := by show _ = _; rw [ht]; exact b1
    have HR1 : Hid (readQ t.data.toList = z0) := by show _ = _; rw [ht]; exact b2
    have HSZ : Hid (t.size ≤ 500) := by
      show _ ≤ _
      have e1 := showI_len (k := 6) (z := z0.num) HLZ.out.1 (by decide)
      have e2 := showL_lenB HLZ.out.2 (by decide)
      rw [Lib.size_eq, ht]; unfold showR
      rw [List.length_append]
      split
      · simp; omega
      · simp; omega
    obtain ⟨mb, hmb⟩ : ∃ b, decide (val B0 ≠ 0 ∧ decide (z0.num < 0) = n0 ∧ dig z0.num.natAbs = A0 ∧ dig z0.den = B0) = b := ⟨_, rfl⟩
    have HMB := Lib.hid hmb
    have hs3 : s.data.toList.length ≤ 300 := by rw [← Lib.size_eq]; omega
    obtain ⟨q, hq⟩ : ∃ q, readQ s.data.toList = q := ⟨_, rfl⟩
    have HRQ := Lib.hid hq
    have HLQ : Hid (LenR 300 q) := by rw [← hq]; exact readQ_len hs3 (by decide)
    by_cases hk : errQ s.data.toList = 0
    · have HK0 := Lib.hid hk
      have HST : Hid (s.data.toList = showR q) := showR_of hk hq
      clear hs hsl ht b1 b2 hmb hs3 hq hk
      cases mb with
      | true =>
        go_enter Tryz.func6, Tryz.ntmps6
        go_wp2_with fail
        obtain ⟨v1, hv1⟩ : ∃ W, W = ((w.alloc (.cells #[.bool n0, .slice p0 A0.length q0, .slice p0' B0.length q0'] 27)).alloc (.cells #[.bool n0, .slice p0 A0.length q0, .slice p0' B0.length q0'] 27)) := ⟨_, rfl⟩
        have y1 : Ext w v1 := by rw [hv1]; exact (((Ext.refl _).alloc _).alloc _)
        have b0_0 : Hid (At (w.heap.size) 0 (.bool n0) v1) := by rw [hv1]; exact At.ext (At.n0 (by rfl)) ((Ext.refl _).alloc _)
        have b0_1 : Hid (At (w.heap.size) 1 (.slice p0 A0.length q0) v1) := by rw [hv1]; exact At.ext (At.n0 (by rfl)) ((Ext.refl _).alloc _)
        have b0_2 : Hid (At (w.heap.size) 2 (.slice p0' B0.length q0') v1) := by rw [hv1]; exact At.ext (At.n0 (by rfl)) ((Ext.refl _).alloc _)
        have k0 : Hid (Bx 3 (w.heap.size) v1) := by rw [hv1]; exact Bx.gr (Bx.n0 3 ⟨rfl, by decide⟩ (by decide) noI_s3) (Ext.gr ((Ext.refl _).alloc _))
        have u0 : Hid (w.heap.size < v1.heap.size) := b0_0.out.2
        have b1_0 : Hid (At (w.heap.size + 1) 0 (.bool n0) v1) := by rw [hv1]; exact At.ext (At.n1 (by rfl)) (Ext.refl _)
        have b1_1 : Hid (At (w.heap.size + 1) 1 (.slice p0 A0.length q0) v1) := by rw [hv1]; exact At.ext (At.n1 (by rfl)) (Ext.refl _)
        have b1_2 : Hid (At (w.heap.size + 1) 2 (.slice p0' B0.length q0') v1) := by rw [hv1]; exact At.ext (At.n1 (by rfl)) (Ext.refl _)
        have k1 : Hid (Bx 3 (w.heap.size + 1) v1) := by rw [hv1]; exact Bx.gr (Bx.n1 3 ⟨rfl, by decide⟩ (by decide) noI_s3) (Ext.gr (Ext.refl _))
        have u1 : Hid (w.heap.size + 1 < v1.heap.size) := b1_0.out.2
        have e1_ : Ext w v1 := y1
        rw [← hv1]
        clear hv1
        refine (long_calls (Ls := [(n0, A0, B0)]) (sl3_1 (b1_0.out) (b1_1.out) (b1_2.out) (⟨rfl, (h0.ext y1), (g0.ext y1)⟩)) false HLB.out).mono ?_
        rintro e w2 ⟨rfl, x2⟩
        have e2_ : Ext w w2 := Ext.trans e1_ x2
        go_wp2_with fail
        refine (awake06_calls _).mono ?_
        rintro e w3 ⟨rfl, x3⟩
        have e3_ : Ext w w3 := Ext.trans e2_ x3
        have g0_0 := (b0_0.out.ext (x2.trans x3)).1
        have g0_1 := (b0_1.out.ext (x2.trans x3)).1
        have g0_2 := (b0_2.out.ext (x2.trans x3)).1
        have f0 : w.heap.size < w3.heap.size := (b0_0.out.ext (x2.trans x3)).2
        go_wp2_with fail
        refine (rshow_is (i0.ext (y1.trans (x2.trans x3))) (by decide) t HT.out).mono ?_
        rintro e w4 ⟨rfl, x4⟩
        have e4_ : Ext w w4 := Ext.trans e3_ x4
        clear g0_0 g0_1 g0_2 f0
        go_wp2_with fail
        refine (rread_ok (q := z0) t _ HSZ.out HE1.out HR1.out).mono ?_
        rintro e w5 ⟨sb4, sv4, su4, sm4, sd4, rfl, e4, o4, x5⟩
        have e5_ : Ext w w5 := Ext.trans e4_ x5
        obtain ⟨sp4, sl4, sc4, tp4, tl4, tc4, rfl, rfl⟩ := e4.slice
        have g0_0 := (b0_0.out.ext (x2.trans (x3.trans (x4.trans x5)))).1
        have g0_1 := (b0_1.out.ext (x2.trans (x3.trans (x4.trans x5)))).1
        have g0_2 := (b0_2.out.ext (x2.trans (x3.trans (x4.trans x5)))).1
        have f0 : w.heap.size < w5.heap.size := (b0_0.out.ext (x2.trans (x3.trans (x4.trans x5)))).2
        go_wp2_with fail
        obtain ⟨v6, hv6⟩ : ∃ W, W = (w5.alloc (.cells #[.bool sb4, .slice sp4 sl4 sc4, .slice tp4 tl4 tc4] 27)) := ⟨_, rfl⟩
        have y6 : Ext w5 v6 := by rw [hv6]; exact ((Ext.refl _).alloc _)
        have b2_0 : Hid (At (w5.heap.size) 0 (.bool sb4) v6) := by rw [hv6]; exact At.ext (At.n0 (by rfl)) (Ext.refl _)
        have b2_1 : Hid (At (w5.heap.size) 1 (.slice sp4 sl4 sc4) v6) := by rw [hv6]; exact At.ext (At.n0 (by rfl)) (Ext.refl _)
        have b2_2 : Hid (At (w5.heap.size) 2 (.slice tp4 tl4 tc4) v6) := by rw [hv6]; exact At.ext (At.n0 (by rfl)) (Ext.refl _)
        have k2 : Hid (Bx 3 (w5.heap.size) v6) := by rw [hv6]; exact Bx.gr (Bx.n0 3 ⟨rfl, by decide⟩ (by decide) noI_s3) (Ext.gr (Ext.refl _))
        have u2 : Hid (w5.heap.size < v6.heap.size) := b2_0.out.2
        have e6_ : Ext w v6 := Ext.trans e5_ y6
        rw [← hv6]
        clear hv6
        refine (rsame_calls (i0.ext (y1.trans (x2.trans (x3.trans (x4.trans (x5.trans y6)))))) ((e4.ext y6).inR (k := 6) HLZ.out) (by decide) true (decide_eq_true rfl)).mono ?_
        rintro e w7 ⟨rfl, x7⟩
        have e7_ : Ext w w7 := Ext.trans e6_ x7
        clear g0_0 g0_1 g0_2 f0
        have g2_0 := (b2_0.out.ext x7).1
        have g2_1 := (b2_1.out.ext x7).1
        have g2_2 := (b2_2.out.ext x7).1
        have f2 : w5.heap.size < w7.heap.size := (b2_0.out.ext x7).2
        go_wp2_with fail
        refine (rmay_is (e4.ext (y6.trans x7)) HLZ.out (by decide)).mono ?_
        rintro e w8 ⟨rfl, x8⟩
        have e8_ : Ext w w8 := Ext.trans e7_ x8
        clear g2_0 g2_1 g2_2 f2
        have g0_0 := (b0_0.out.ext (x2.trans (x3.trans (x4.trans (x5.trans (y6.trans (x7.trans x8))))))).1
        have g0_1 := (b0_1.out.ext (x2.trans (x3.trans (x4.trans (x5.trans (y6.trans (x7.trans x8))))))).1
        have g0_2 := (b0_2.out.ext (x2.trans (x3.trans (x4.trans (x5.trans (y6.trans (x7.trans x8))))))).1
        have f0 : w.heap.size < w8.heap.size := (b0_0.out.ext (x2.trans (x3.trans (x4.trans (x5.trans (y6.trans (x7.trans x8))))))).2
        go_wp2_with fail
        refine (rmay_raw (h0.ext (y1.trans (x2.trans (x3.trans (x4.trans (x5.trans (y6.trans (x7.trans x8)))))))) (g0.ext (y1.trans (x2.trans (x3.trans (x4.trans (x5.trans (y6.trans (x7.trans x8)))))))) HZ0.out HLA0.out HLB0.out (by decide) (by decide) true HMB.out).mono ?_
        rintro e w9 ⟨rfl, x9⟩
        have e9_ : Ext w w9 := Ext.trans e8_ x9
        clear g0_0 g0_1 g0_2 f0
        have g0_0 := (b0_0.out.ext (x2.trans (x3.trans (x4.trans (x5.trans (y6.trans (x7.trans (x8.trans x9)))))))).1
        have g0_1 := (b0_1.out.ext (x2.trans (x3.trans (x4.trans (x5.trans (y6.trans (x7.trans (x8.trans x9)))))))).1
        have g0_2 := (b0_2.out.ext (x2.trans (x3.trans (x4.trans (x5.trans (y6.trans (x7.trans (x8.trans x9)))))))).1
        have g2_0 := (b2_0.out.ext (x7.trans (x8.trans x9))).1
        have g2_1 := (b2_1.out.ext (x7.trans (x8.trans x9))).1
        have g2_2 := (b2_2.out.ext (x7.trans (x8.trans x9))).1
        have f0 : w.heap.size < w9.heap.size := (b0_0.out.ext (x2.trans (x3.trans (x4.trans (x5.trans (y6.trans (x7.trans (x8.trans x9)))))))).2
        have f2 : w5.heap.size < w9.heap.size := (b2_0.out.ext (x7.trans (x8.trans x9))).2
        go_wp2_with fail
        refine (is_raw (h0.ext (y1.trans (x2.trans (x3.trans (x4.trans (x5.trans (y6.trans (x7.trans (x8.trans x9))))))))) (g0.ext (y1.trans (x2.trans (x3.trans (x4.trans (x5.trans (y6.trans (x7.trans (x8.trans x9))))))))) (e4.ext (y6.trans (x7.trans (x8.trans x9)))).2.2.2.1 (e4.ext (y6.trans (x7.trans (x8.trans x9)))).2.2.2.2 _ _ true (may_own (e4.ext (y6.trans (x7.trans (x8.trans x9)))) HMB.out)).mono ?_
        rintro e w10 ⟨rfl, x10⟩
        have e10_ : Ext w w10 := Ext.trans e9_ x10
        clear g0_0 g0_1 g0_2 g2_0 g2_1 g2_2 f0 f2
        go_wp2_with fail
        refine (rread_ok (q := q) s _ HS5.out HK0.out HRQ.out).mono ?_
        rintro e w11 ⟨sb9, sv9, su9, sm9, sd9, rfl, e9, o9, x11⟩
        have e11_ : Ext w w11 := Ext.trans e10_ x11
        obtain ⟨sp9, sl9, sc9, tp9, tl9, tc9, rfl, rfl⟩ := e9.slice
        go_wp2_with fail
        obtain ⟨v12, hv12⟩ : ∃ W, W = (w11.alloc (.cells #[.bool sb9, .slice sp9 sl9 sc9, .slice tp9 tl9 tc9] 27)) := ⟨_, rfl⟩
        have y12 : Ext w11 v12 := by rw [hv12]; exact ((Ext.refl _).alloc _)
        have b3_0 : Hid (At (w11.heap.size) 0 (.bool sb9) v12) := by rw [hv12]; exact At.ext (At.n0 (by rfl)) (Ext.refl _)
        have b3_1 : Hid (At (w11.heap.size) 1 (.slice sp9 sl9 sc9) v12) := by rw [hv12]; exact At.ext (At.n0 (by rfl)) (Ext.refl _)
        have b3_2 : Hid (At (w11.heap.size) 2 (.slice tp9 tl9 tc9) v12) := by rw [hv12]; exact At.ext (At.n0 (by rfl)) (Ext.refl _)
        have k3 : Hid (Bx 3 (w11.heap.size) v12) := by rw [hv12]; exact Bx.gr (Bx.n0 3 ⟨rfl, by decide⟩ (by decide) noI_s3) (Ext.gr (Ext.refl _))
        have u3 : Hid (w11.heap.size < v12.heap.size) := b3_0.out.2
        have e12_ : Ext w v12 := Ext.trans e11_ y12
        rw [← hv12]
        clear hv12
        refine (rmay_is (e9.ext y12) HLQ.out (by decide)).mono ?_
        rintro e w13 ⟨rfl, x13⟩
        have e13_ : Ext w w13 := Ext.trans e12_ x13
        have g3_0 := (b3_0.out.ext x13).1
        have g3_1 := (b3_1.out.ext x13).1
        have g3_2 := (b3_2.out.ext x13).1
        have f3 : w11.heap.size < w13.heap.size := (b3_0.out.ext x13).2
        go_wp2_with fail
        refine (rshow_is ((e9.ext (y12.trans x13)).inR (k := 300) HLQ.out) (by decide) s HST.out).mono ?_
        rintro e w14 ⟨rfl, x14⟩
        have e14_ : Ext w w14 := Ext.trans e13_ x14
        clear g3_0 g3_1 g3_2 f3
        go_wp2_with fail
        go_ret
        exact ⟨rfl, e14_⟩
      | false =>
        go_enter Tryz.func6, Tryz.ntmps6
        go_wp2_with fail
        obtain ⟨v1, hv1⟩ : ∃ W, W = ((w.alloc (.cells #[.bool n0, .slice p0 A0.length q0, .slice p0' B0.length q0'] 27)).alloc (.cells #[.bool n0, .slice p0 A0.length q0, .slice p0' B0.length q0'] 27)) := ⟨_, rfl⟩
        have y1 : Ext w v1 := by rw [hv1]; exact (((Ext.refl _).alloc _).alloc _)
        have b0_0 : Hid (At (w.heap.size) 0 (.bool n0) v1) := by rw [hv1]; exact At.ext (At.n0 (by rfl)) ((Ext.refl _).alloc _)
        have b0_1 : Hid (At (w.heap.size) 1 (.slice p0 A0.length q0) v1) := by rw [hv1]; exact At.ext (At.n0 (by rfl)) ((Ext.refl _).alloc _)
        have b0_2 : Hid (At (w.heap.size) 2 (.slice p0' B0.length q0') v1) := by rw [hv1]; exact At.ext (At.n0 (by rfl)) ((Ext.refl _).alloc _)
        have k0 : Hid (Bx 3 (w.heap.size) v1) := by rw [hv1]; exact Bx.gr (Bx.n0 3 ⟨rfl, by decide⟩ (by decide) noI_s3) (Ext.gr ((Ext.refl _).alloc _))
        have u0 : Hid (w.heap.size < v1.heap.size) := b0_0.out.2
        have b1_0 : Hid (At (w.heap.size + 1) 0 (.bool n0) v1) := by rw [hv1]; exact At.ext (At.n1 (by rfl)) (Ext.refl _)
        have b1_1 : Hid (At (w.heap.size + 1) 1 (.slice p0 A0.length q0) v1) := by rw [hv1]; exact At.ext (At.n1 (by rfl)) (Ext.refl _)
        have b1_2 : Hid (At (w.heap.size + 1) 2 (.slice p0' B0.length q0') v1) := by rw [hv1]; exact At.ext (At.n1 (by rfl)) (Ext.refl _)
        have k1 : Hid (Bx 3 (w.heap.size + 1) v1) := by rw [hv1]; exact Bx.gr (Bx.n1 3 ⟨rfl, by decide⟩ (by decide) noI_s3) (Ext.gr (Ext.refl _))
        have u1 : Hid (w.heap.size + 1 < v1.heap.size) := b1_0.out.2
        have e1_ : Ext w v1 := y1
        rw [← hv1]
        clear hv1
        refine (long_calls (Ls := [(n0, A0, B0)]) (sl3_1 (b1_0.out) (b1_1.out) (b1_2.out) (⟨rfl, (h0.ext y1), (g0.ext y1)⟩)) false HLB.out).mono ?_
        rintro e w2 ⟨rfl, x2⟩
        have e2_ : Ext w w2 := Ext.trans e1_ x2
        go_wp2_with fail
        refine (awake06_calls _).mono ?_
        rintro e w3 ⟨rfl, x3⟩
        have e3_ : Ext w w3 := Ext.trans e2_ x3
        have g0_0 := (b0_0.out.ext (x2.trans x3)).1
        have g0_1 := (b0_1.out.ext (x2.trans x3)).1
        have g0_2 := (b0_2.out.ext (x2.trans x3)).1
        have f0 : w.heap.size < w3.heap.size := (b0_0.out.ext (x2.trans x3)).2
        go_wp2_with fail
        refine (rshow_is (i0.ext (y1.trans (x2.trans x3))) (by decide) t HT.out).mono ?_
        rintro e w4 ⟨rfl, x4⟩
        have e4_ : Ext w w4 := Ext.trans e3_ x4
        clear g0_0 g0_1 g0_2 f0
        go_wp2_with fail
        refine (rread_ok (q := z0) t _ HSZ.out HE1.out HR1.out).mono ?_
        rintro e w5 ⟨sb4, sv4, su4, sm4, sd4, rfl, e4, o4, x5⟩
        have e5_ : Ext w w5 := Ext.trans e4_ x5
        obtain ⟨sp4, sl4, sc4, tp4, tl4, tc4, rfl, rfl⟩ := e4.slice
        have g0_0 := (b0_0.out.ext (x2.trans (x3.trans (x4.trans x5)))).1
        have g0_1 := (b0_1.out.ext (x2.trans (x3.trans (x4.trans x5)))).1
        have g0_2 := (b0_2.out.ext (x2.trans (x3.trans (x4.trans x5)))).1
        have f0 : w.heap.size < w5.heap.size := (b0_0.out.ext (x2.trans (x3.trans (x4.trans x5)))).2
        go_wp2_with fail
        obtain ⟨v6, hv6⟩ : ∃ W, W = (w5.alloc (.cells #[.bool sb4, .slice sp4 sl4 sc4, .slice tp4 tl4 tc4] 27)) := ⟨_, rfl⟩
        have y6 : Ext w5 v6 := by rw [hv6]; exact ((Ext.refl _).alloc _)
        have b2_0 : Hid (At (w5.heap.size) 0 (.bool sb4) v6) := by rw [hv6]; exact At.ext (At.n0 (by rfl)) (Ext.refl _)
        have b2_1 : Hid (At (w5.heap.size) 1 (.slice sp4 sl4 sc4) v6) := by rw [hv6]; exact At.ext (At.n0 (by rfl)) (Ext.refl _)
        have b2_2 : Hid (At (w5.heap.size) 2 (.slice tp4 tl4 tc4) v6) := by rw [hv6]; exact At.ext (At.n0 (by rfl)) (Ext.refl _)
        have k2 : Hid (Bx 3 (w5.heap.size) v6) := by rw [hv6]; exact Bx.gr (Bx.n0 3 ⟨rfl, by decide⟩ (by decide) noI_s3) (Ext.gr (Ext.refl _))
        have u2 : Hid (w5.heap.size < v6.heap.size) := b2_0.out.2
        have e6_ : Ext w v6 := Ext.trans e5_ y6
        rw [← hv6]
        clear hv6
        refine (rsame_calls (i0.ext (y1.trans (x2.trans (x3.trans (x4.trans (x5.trans y6)))))) ((e4.ext y6).inR (k := 6) HLZ.out) (by decide) true (decide_eq_true rfl)).mono ?_
        rintro e w7 ⟨rfl, x7⟩
        have e7_ : Ext w w7 := Ext.trans e6_ x7
        clear g0_0 g0_1 g0_2 f0
        have g2_0 := (b2_0.out.ext x7).1
        have g2_1 := (b2_1.out.ext x7).1
        have g2_2 := (b2_2.out.ext x7).1
        have f2 : w5.heap.size < w7.heap.size := (b2_0.out.ext x7).2
        go_wp2_with fail
        refine (rmay_is (e4.ext (y6.trans x7)) HLZ.out (by decide)).mono ?_
        rintro e w8 ⟨rfl, x8⟩
        have e8_ : Ext w w8 := Ext.trans e7_ x8
        clear g2_0 g2_1 g2_2 f2
        have g0_0 := (b0_0.out.ext (x2.trans (x3.trans (x4.trans (x5.trans (y6.trans (x7.trans x8))))))).1
        have g0_1 := (b0_1.out.ext (x2.trans (x3.trans (x4.trans (x5.trans (y6.trans (x7.trans x8))))))).1
        have g0_2 := (b0_2.out.ext (x2.trans (x3.trans (x4.trans (x5.trans (y6.trans (x7.trans x8))))))).1
        have f0 : w.heap.size < w8.heap.size := (b0_0.out.ext (x2.trans (x3.trans (x4.trans (x5.trans (y6.trans (x7.trans x8))))))).2
        go_wp2_with fail
        refine (rmay_raw (h0.ext (y1.trans (x2.trans (x3.trans (x4.trans (x5.trans (y6.trans (x7.trans x8)))))))) (g0.ext (y1.trans (x2.trans (x3.trans (x4.trans (x5.trans (y6.trans (x7.trans x8)))))))) HZ0.out HLA0.out HLB0.out (by decide) (by decide) false HMB.out).mono ?_
        rintro e w9 ⟨rfl, x9⟩
        have e9_ : Ext w w9 := Ext.trans e8_ x9
        clear g0_0 g0_1 g0_2 f0
        go_wp2_with fail
        refine (rread_ok (q := q) s _ HS5.out HK0.out HRQ.out).mono ?_
        rintro e w10 ⟨sb8, sv8, su8, sm8, sd8, rfl, e8, o8, x10⟩
        have e10_ : Ext w w10 := Ext.trans e9_ x10
        obtain ⟨sp8, sl8, sc8, tp8, tl8, tc8, rfl, rfl⟩ := e8.slice
        go_wp2_with fail
        obtain ⟨v11, hv11⟩ : ∃ W, W = (w10.alloc (.cells #[.bool sb8, .slice sp8 sl8 sc8, .slice tp8 tl8 tc8] 27)) := ⟨_, rfl⟩
        have y11 : Ext w10 v11 := by rw [hv11]; exact ((Ext.refl _).alloc _)
        have b3_0 : Hid (At (w10.heap.size) 0 (.bool sb8) v11) := by rw [hv11]; exact At.ext (At.n0 (by rfl)) (Ext.refl _)
        have b3_1 : Hid (At (w10.heap.size) 1 (.slice sp8 sl8 sc8) v11) := by rw [hv11]; exact At.ext (At.n0 (by rfl)) (Ext.refl _)
        have b3_2 : Hid (At (w10.heap.size) 2 (.slice tp8 tl8 tc8) v11) := by rw [hv11]; exact At.ext (At.n0 (by rfl)) (Ext.refl _)
        have k3 : Hid (Bx 3 (w10.heap.size) v11) := by rw [hv11]; exact Bx.gr (Bx.n0 3 ⟨rfl, by decide⟩ (by decide) noI_s3) (Ext.gr (Ext.refl _))
        have u3 : Hid (w10.heap.size < v11.heap.size) := b3_0.out.2
        have e11_ : Ext w v11 := Ext.trans e10_ y11
        rw [← hv11]
        clear hv11
        refine (rmay_is (e8.ext y11) HLQ.out (by decide)).mono ?_
        rintro e w12 ⟨rfl, x12⟩
        have e12_ : Ext w w12 := Ext.trans e11_ x12
        have g3_0 := (b3_0.out.ext x12).1
        have g3_1 := (b3_1.out.ext x12).1
        have g3_2 := (b3_2.out.ext x12).1
        have f3 : w10.heap.size < w12.heap.size := (b3_0.out.ext x12).2
        go_wp2_with fail
        refine (rshow_is ((e8.ext (y11.trans x12)).inR (k := 300) HLQ.out) (by decide) s HST.out).mono ?_
        rintro e w13 ⟨rfl, x13⟩
        have e13_ : Ext w w13 := Ext.trans e12_ x13
        clear g3_0 g3_1 g3_2 f3
        go_wp2_with fail
        go_ret
        exact ⟨rfl, e13_⟩
    · obtain ⟨k, hkk⟩ : ∃ k : Int, ((errQ s.data.toList : Nat) : Int) = k := ⟨_, rfl⟩
      have HK := Lib.hid hkk
      have hk0 : k ≠ 0 := by omega
      have hkb : (k != 0) = true := by simpa using hk0
      have HKN := Lib.hid hk0
      clear hs hsl ht b1 b2 hmb hs3 hq hk hkk hk0
      cases mb with
      | true =>
        go_enter Tryz.func6, Tryz.ntmps6
        go_wp2_with fail
        obtain ⟨v1, hv1⟩ : ∃ W, W = ((w.alloc (.cells #[.bool n0, .slice p0 A0.length q0, .slice p0' B0.length q0'] 27)).alloc (.cells #[.bool n0, .slice p0 A0.length q0, .slice p0' B0.length q0'] 27)) := ⟨_, rfl⟩
        have y1 : Ext w v1 := by rw [hv1]; exact (((Ext.refl _).alloc _).alloc _)
        have b0_0 : Hid (At (w.heap.size) 0 (.bool n0) v1) := by rw [hv1]; exact At.ext (At.n0 (by rfl)) ((Ext.refl _).alloc _)
        have b0_1 : Hid (At (w.heap.size) 1 (.slice p0 A0.length q0) v1) := by rw [hv1]; exact At.ext (At.n0 (by rfl)) ((Ext.refl _).alloc _)
        have b0_2 : Hid (At (w.heap.size) 2 (.slice p0' B0.length q0') v1) := by rw [hv1]; exact At.ext (At.n0 (by rfl)) ((Ext.refl _).alloc _)
        have k0 : Hid (Bx 3 (w.heap.size) v1) := by rw [hv1]; exact Bx.gr (Bx.n0 3 ⟨rfl, by decide⟩ (by decide) noI_s3) (Ext.gr ((Ext.refl _).alloc _))
        have u0 : Hid (w.heap.size < v1.heap.size) := b0_0.out.2
        have b1_0 : Hid (At (w.heap.size + 1) 0 (.bool n0) v1) := by rw [hv1]; exact At.ext (At.n1 (by rfl)) (Ext.refl _)
        have b1_1 : Hid (At (w.heap.size + 1) 1 (.slice p0 A0.length q0) v1) := by rw [hv1]; exact At.ext (At.n1 (by rfl)) (Ext.refl _)
        have b1_2 : Hid (At (w.heap.size + 1) 2 (.slice p0' B0.length q0') v1) := by rw [hv1]; exact At.ext (At.n1 (by rfl)) (Ext.refl _)
        have k1 : Hid (Bx 3 (w.heap.size + 1) v1) := by rw [hv1]; exact Bx.gr (Bx.n1 3 ⟨rfl, by decide⟩ (by decide) noI_s3) (Ext.gr (Ext.refl _))
        have u1 : Hid (w.heap.size + 1 < v1.heap.size) := b1_0.out.2
        have e1_ : Ext w v1 := y1
        rw [← hv1]
        clear hv1
        refine (long_calls (Ls := [(n0, A0, B0)]) (sl3_1 (b1_0.out) (b1_1.out) (b1_2.out) (⟨rfl, (h0.ext y1), (g0.ext y1)⟩)) false HLB.out).mono ?_
        rintro e w2 ⟨rfl, x2⟩
        have e2_ : Ext w w2 := Ext.trans e1_ x2
        go_wp2_with fail
        refine (awake06_calls _).mono ?_
        rintro e w3 ⟨rfl, x3⟩
        have e3_ : Ext w w3 := Ext.trans e2_ x3
        have g0_0 := (b0_0.out.ext (x2.trans x3)).1
        have g0_1 := (b0_1.out.ext (x2.trans x3)).1
        have g0_2 := (b0_2.out.ext (x2.trans x3)).1
        have f0 : w.heap.size < w3.heap.size := (b0_0.out.ext (x2.trans x3)).2
        go_wp2_with fail
        refine (rshow_is (i0.ext (y1.trans (x2.trans x3))) (by decide) t HT.out).mono ?_
        rintro e w4 ⟨rfl, x4⟩
        have e4_ : Ext w w4 := Ext.trans e3_ x4
        clear g0_0 g0_1 g0_2 f0
        go_wp2_with fail
        refine (rread_ok (q := z0) t _ HSZ.out HE1.out HR1.out).mono ?_
        rintro e w5 ⟨sb4, sv4, su4, sm4, sd4, rfl, e4, o4, x5⟩
        have e5_ : Ext w w5 := Ext.trans e4_ x5
        obtain ⟨sp4, sl4, sc4, tp4, tl4, tc4, rfl, rfl⟩ := e4.slice
        have g0_0 := (b0_0.out.ext (x2.trans (x3.trans (x4.trans x5)))).1
        have g0_1 := (b0_1.out.ext (x2.trans (x3.trans (x4.trans x5)))).1
        have g0_2 := (b0_2.out.ext (x2.trans (x3.trans (x4.trans x5)))).1
        have f0 : w.heap.size < w5.heap.size := (b0_0.out.ext (x2.trans (x3.trans (x4.trans x5)))).2
        go_wp2_with fail
        obtain ⟨v6, hv6⟩ : ∃ W, W = (w5.alloc (.cells #[.bool sb4, .slice sp4 sl4 sc4, .slice tp4 tl4 tc4] 27)) := ⟨_, rfl⟩
        have y6 : Ext w5 v6 := by rw [hv6]; exact ((Ext.refl _).alloc _)
        have b2_0 : Hid (At (w5.heap.size) 0 (.bool sb4) v6) := by rw [hv6]; exact At.ext (At.n0 (by rfl)) (Ext.refl _)
        have b2_1 : Hid (At (w5.heap.size) 1 (.slice sp4 sl4 sc4) v6) := by rw [hv6]; exact At.ext (At.n0 (by rfl)) (Ext.refl _)
        have b2_2 : Hid (At (w5.heap.size) 2 (.slice tp4 tl4 tc4) v6) := by rw [hv6]; exact At.ext (At.n0 (by rfl)) (Ext.refl _)
        have k2 : Hid (Bx 3 (w5.heap.size) v6) := by rw [hv6]; exact Bx.gr (Bx.n0 3 ⟨rfl, by decide⟩ (by decide) noI_s3) (Ext.gr (Ext.refl _))
        have u2 : Hid (w5.heap.size < v6.heap.size) := b2_0.out.2
        have e6_ : Ext w v6 := Ext.trans e5_ y6
        rw [← hv6]
        clear hv6
        refine (rsame_calls (i0.ext (y1.trans (x2.trans (x3.trans (x4.trans (x5.trans y6)))))) ((e4.ext y6).inR (k := 6) HLZ.out) (by decide) true (decide_eq_true rfl)).mono ?_
        rintro e w7 ⟨rfl, x7⟩
        have e7_ : Ext w w7 := Ext.trans e6_ x7
        clear g0_0 g0_1 g0_2 f0
        have g2_0 := (b2_0.out.ext x7).1
        have g2_1 := (b2_1.out.ext x7).1
        have g2_2 := (b2_2.out.ext x7).1
        have f2 : w5.heap.size < w7.heap.size := (b2_0.out.ext x7).2
        go_wp2_with fail
        refine (rmay_is (e4.ext (y6.trans x7)) HLZ.out (by decide)).mono ?_
        rintro e w8 ⟨rfl, x8⟩
        have e8_ : Ext w w8 := Ext.trans e7_ x8
        clear g2_0 g2_1 g2_2 f2
        have g0_0 := (b0_0.out.ext (x2.trans (x3.trans (x4.trans (x5.trans (y6.trans (x7.trans x8))))))).1
        have g0_1 := (b0_1.out.ext (x2.trans (x3.trans (x4.trans (x5.trans (y6.trans (x7.trans x8))))))).1
        have g0_2 := (b0_2.out.ext (x2.trans (x3.trans (x4.trans (x5.trans (y6.trans (x7.trans x8))))))).1
        have f0 : w.heap.size < w8.heap.size := (b0_0.out.ext (x2.trans (x3.trans (x4.trans (x5.trans (y6.trans (x7.trans x8))))))).2
        go_wp2_with fail
        refine (rmay_raw (h0.ext (y1.trans (x2.trans (x3.trans (x4.trans (x5.trans (y6.trans (x7.trans x8)))))))) (g0.ext (y1.trans (x2.trans (x3.trans (x4.trans (x5.trans (y6.trans (x7.trans x8)))))))) HZ0.out HLA0.out HLB0.out (by decide) (by decide) true HMB.out).mono ?_
        rintro e w9 ⟨rfl, x9⟩
        have e9_ : Ext w w9 := Ext.trans e8_ x9
        clear g0_0 g0_1 g0_2 f0
        have g0_0 := (b0_0.out.ext (x2.trans (x3.trans (x4.trans (x5.trans (y6.trans (x7.trans (x8.trans x9)))))))).1
        have g0_1 := (b0_1.out.ext (x2.trans (x3.trans (x4.trans (x5.trans (y6.trans (x7.trans (x8.trans x9)))))))).1
        have g0_2 := (b0_2.out.ext (x2.trans (x3.trans (x4.trans (x5.trans (y6.trans (x7.trans (x8.trans x9)))))))).1
        have g2_0 := (b2_0.out.ext (x7.trans (x8.trans x9))).1
        have g2_1 := (b2_1.out.ext (x7.trans (x8.trans x9))).1
        have g2_2 := (b2_2.out.ext (x7.trans (x8.trans x9))).1
        have f0 : w.heap.size < w9.heap.size := (b0_0.out.ext (x2.trans (x3.trans (x4.trans (x5.trans (y6.trans (x7.trans (x8.trans x9)))))))).2
        have f2 : w5.heap.size < w9.heap.size := (b2_0.out.ext (x7.trans (x8.trans x9))).2
        go_wp2_with fail
        refine (is_raw (h0.ext (y1.trans (x2.trans (x3.trans (x4.trans (x5.trans (y6.trans (x7.trans (x8.trans x9))))))))) (g0.ext (y1.trans (x2.trans (x3.trans (x4.trans (x5.trans (y6.trans (x7.trans (x8.trans x9))))))))) (e4.ext (y6.trans (x7.trans (x8.trans x9)))).2.2.2.1 (e4.ext (y6.trans (x7.trans (x8.trans x9)))).2.2.2.2 _ _ true (may_own (e4.ext (y6.trans (x7.trans (x8.trans x9)))) HMB.out)).mono ?_
        rintro e w10 ⟨rfl, x10⟩
        have e10_ : Ext w w10 := Ext.trans e9_ x10
        clear g0_0 g0_1 g0_2 g2_0 g2_1 g2_2 f0 f2
        go_wp2_with fail
        refine (rread_err s _ HS5.out k HK.out HKN.out).mono ?_
        rintro e w11 ⟨rfl, x11⟩
        have e11_ : Ext w w11 := Ext.trans e10_ x11
        go_wp2_with fail
        obtain ⟨v12, hv12⟩ : ∃ W, W = (w11.alloc (.cells #[.bool false, .slice none 0 0, .slice none 0 0] 27)) := ⟨_, rfl⟩
        have y12 : Ext w11 v12 := by rw [hv12]; exact ((Ext.refl _).alloc _)
        have b3_0 : Hid (At (w11.heap.size) 0 (.bool false) v12) := by rw [hv12]; exact At.ext (At.n0 (by rfl)) (Ext.refl _)
        have b3_1 : Hid (At (w11.heap.size) 1 (.slice none 0 0) v12) := by rw [hv12]; exact At.ext (At.n0 (by rfl)) (Ext.refl _)
        have b3_2 : Hid (At (w11.heap.size) 2 (.slice none 0 0) v12) := by rw [hv12]; exact At.ext (At.n0 (by rfl)) (Ext.refl _)
        have k3 : Hid (Bx 3 (w11.heap.size) v12) := by rw [hv12]; exact Bx.gr (Bx.n0 3 ⟨rfl, by decide⟩ (by decide) noI_s3) (Ext.gr (Ext.refl _))
        have u3 : Hid (w11.heap.size < v12.heap.size) := b3_0.out.2
        have e12_ : Ext w v12 := Ext.trans e11_ y12
        rw [← hv12]
        clear hv12
        go_ret
        exact ⟨rfl, e12_⟩
      | false =>
        go_enter Tryz.func6, Tryz.ntmps6
        go_wp2_with fail
        obtain ⟨v1, hv1⟩ : ∃ W, W = ((w.alloc (.cells #[.bool n0, .slice p0 A0.length q0, .slice p0' B0.length q0'] 27)).alloc (.cells #[.bool n0, .slice p0 A0.length q0, .slice p0' B0.length q0'] 27)) := ⟨_, rfl⟩
        have y1 : Ext w v1 := by rw [hv1]; exact (((Ext.refl _).alloc _).alloc _)
        have b0_0 : Hid (At (w.heap.size) 0 (.bool n0) v1) := by rw [hv1]; exact At.ext (At.n0 (by rfl)) ((Ext.refl _).alloc _)
        have b0_1 : Hid (At (w.heap.size) 1 (.slice p0 A0.length q0) v1) := by rw [hv1]; exact At.ext (At.n0 (by rfl)) ((Ext.refl _).alloc _)
        have b0_2 : Hid (At (w.heap.size) 2 (.slice p0' B0.length q0') v1) := by rw [hv1]; exact At.ext (At.n0 (by rfl)) ((Ext.refl _).alloc _)
        have k0 : Hid (Bx 3 (w.heap.size) v1) := by rw [hv1]; exact Bx.gr (Bx.n0 3 ⟨rfl, by decide⟩ (by decide) noI_s3) (Ext.gr ((Ext.refl _).alloc _))
        have u0 : Hid (w.heap.size < v1.heap.size) := b0_0.out.2
        have b1_0 : Hid (At (w.heap.size + 1) 0 (.bool n0) v1) := by rw [hv1]; exact At.ext (At.n1 (by rfl)) (Ext.refl _)
        have b1_1 : Hid (At (w.heap.size + 1) 1 (.slice p0 A0.length q0) v1) := by rw [hv1]; exact At.ext (At.n1 (by rfl)) (Ext.refl _)
        have b1_2 : Hid (At (w.heap.size + 1) 2 (.slice p0' B0.length q0') v1) := by rw [hv1]; exact At.ext (At.n1 (by rfl)) (Ext.refl _)
        have k1 : Hid (Bx 3 (w.heap.size + 1) v1) := by rw [hv1]; exact Bx.gr (Bx.n1 3 ⟨rfl, by decide⟩ (by decide) noI_s3) (Ext.gr (Ext.refl _))
        have u1 : Hid (w.heap.size + 1 < v1.heap.size) := b1_0.out.2
        have e1_ : Ext w v1 := y1
        rw [← hv1]
        clear hv1
        refine (long_calls (Ls := [(n0, A0, B0)]) (sl3_1 (b1_0.out) (b1_1.out) (b1_2.out) (⟨rfl, (h0.ext y1), (g0.ext y1)⟩)) false HLB.out).mono ?_
        rintro e w2 ⟨rfl, x2⟩
        have e2_ : Ext w w2 := Ext.trans e1_ x2
        go_wp2_with fail
        refine (awake06_calls _).mono ?_
        rintro e w3 ⟨rfl, x3⟩
        have e3_ : Ext w w3 := Ext.trans e2_ x3
        have g0_0 := (b0_0.out.ext (x2.trans x3)).1
        have g0_1 := (b0_1.out.ext (x2.trans x3)).1
        have g0_2 := (b0_2.out.ext (x2.trans x3)).1
        have f0 : w.heap.size < w3.heap.size := (b0_0.out.ext (x2.trans x3)).2
        go_wp2_with fail
        refine (rshow_is (i0.ext (y1.trans (x2.trans x3))) (by decide) t HT.out).mono ?_
        rintro e w4 ⟨rfl, x4⟩
        have e4_ : Ext w w4 := Ext.trans e3_ x4
        clear g0_0 g0_1 g0_2 f0
        go_wp2_with fail
        refine (rread_ok (q := z0) t _ HSZ.out HE1.out HR1.out).mono ?_
        rintro e w5 ⟨sb4, sv4, su4, sm4, sd4, rfl, e4, o4, x5⟩
        have e5_ : Ext w w5 := Ext.trans e4_ x5
        obtain ⟨sp4, sl4, sc4, tp4, tl4, tc4, rfl, rfl⟩ := e4.slice
        have g0_0 := (b0_0.out.ext (x2.trans (x3.trans (x4.trans x5)))).1
        have g0_1 := (b0_1.out.ext (x2.trans (x3.trans (x4.trans x5)))).1
        have g0_2 := (b0_2.out.ext (x2.trans (x3.trans (x4.trans x5)))).1
        have f0 : w.heap.size < w5.heap.size := (b0_0.out.ext (x2.trans (x3.trans (x4.trans x5)))).2
        go_wp2_with fail
        obtain ⟨v6, hv6⟩ : ∃ W, W = (w5.alloc (.cells #[.bool sb4, .slice sp4 sl4 sc4, .slice tp4 tl4 tc4] 27)) := ⟨_, rfl⟩
        have y6 : Ext w5 v6 := by rw [hv6]; exact ((Ext.refl _).alloc _)
        have b2_0 : Hid (At (w5.heap.size) 0 (.bool sb4) v6) := by rw [hv6]; exact At.ext (At.n0 (by rfl)) (Ext.refl _)
        have b2_1 : Hid (At (w5.heap.size) 1 (.slice sp4 sl4 sc4) v6) := by rw [hv6]; exact At.ext (At.n0 (by rfl)) (Ext.refl _)
        have b2_2 : Hid (At (w5.heap.size) 2 (.slice tp4 tl4 tc4) v6) := by rw [hv6]; exact At.ext (At.n0 (by rfl)) (Ext.refl _)
        have k2 : Hid (Bx 3 (w5.heap.size) v6) := by rw [hv6]; exact Bx.gr (Bx.n0 3 ⟨rfl, by decide⟩ (by decide) noI_s3) (Ext.gr (Ext.refl _))
        have u2 : Hid (w5.heap.size < v6.heap.size) := b2_0.out.2
        have e6_ : Ext w v6 := Ext.trans e5_ y6
        rw [← hv6]
        clear hv6
        refine (rsame_calls (i0.ext (y1.trans (x2.trans (x3.trans (x4.trans (x5.trans y6)))))) ((e4.ext y6).inR (k := 6) HLZ.out) (by decide) true (decide_eq_true rfl)).mono ?_
        rintro e w7 ⟨rfl, x7⟩
        have e7_ : Ext w w7 := Ext.trans e6_ x7
        clear g0_0 g0_1 g0_2 f0
        have g2_0 := (b2_0.out.ext x7).1
        have g2_1 := (b2_1.out.ext x7).1
        have g2_2 := (b2_2.out.ext x7).1
        have f2 : w5.heap.size < w7.heap.size := (b2_0.out.ext x7).2
        go_wp2_with fail
        refine (rmay_is (e4.ext (y6.trans x7)) HLZ.out (by decide)).mono ?_
        rintro e w8 ⟨rfl, x8⟩
        have e8_ : Ext w w8 := Ext.trans e7_ x8
        clear g2_0 g2_1 g2_2 f2
        have g0_0 := (b0_0.out.ext (x2.trans (x3.trans (x4.trans (x5.trans (y6.trans (x7.trans x8))))))).1
        have g0_1 := (b0_1.out.ext (x2.trans (x3.trans (x4.trans (x5.trans (y6.trans (x7.trans x8))))))).1
        have g0_2 := (b0_2.out.ext (x2.trans (x3.trans (x4.trans (x5.trans (y6.trans (x7.trans x8))))))).1
        have f0 : w.heap.size < w8.heap.size := (b0_0.out.ext (x2.trans (x3.trans (x4.trans (x5.trans (y6.trans (x7.trans x8))))))).2
        go_wp2_with fail
        refine (rmay_raw (h0.ext (y1.trans (x2.trans (x3.trans (x4.trans (x5.trans (y6.trans (x7.trans x8)))))))) (g0.ext (y1.trans (x2.trans (x3.trans (x4.trans (x5.trans (y6.trans (x7.trans x8)))))))) HZ0.out HLA0.out HLB0.out (by decide) (by decide) false HMB.out).mono ?_
        rintro e w9 ⟨rfl, x9⟩
        have e9_ : Ext w w9 := Ext.trans e8_ x9
        clear g0_0 g0_1 g0_2 f0
        go_wp2_with fail
        refine (rread_err s _ HS5.out k HK.out HKN.out).mono ?_
        rintro e w10 ⟨rfl, x10⟩
        have e10_ : Ext w w10 := Ext.trans e9_ x10
        go_wp2_with fail
        obtain ⟨v11, hv11⟩ : ∃ W, W = (w10.alloc (.cells #[.bool false, .slice none 0 0, .slice none 0 0] 27)) := ⟨_, rfl⟩
        have y11 : Ext w10 v11 := by rw [hv11]; exact ((Ext.refl _).alloc _)
        have b3_0 : Hid (At (w10.heap.size) 0 (.bool false) v11) := by rw [hv11]; exact At.ext (At.n0 (by rfl)) (Ext.refl _)
        have b3_1 : Hid (At (w10.heap.size) 1 (.slice none 0 0) v11) := by rw [hv11]; exact At.ext (At.n0 (by rfl)) (Ext.refl _)
        have b3_2 : Hid (At (w10.heap.size) 2 (.slice none 0 0) v11) := by rw [hv11]; exact At.ext (At.n0 (by rfl)) (Ext.refl _)
        have k3 : Hid (Bx 3 (w10.heap.size) v11) := by rw [hv11]; exact Bx.gr (Bx.n0 3 ⟨rfl, by decide⟩ (by decide) noI_s3) (Ext.gr (Ext.refl _))
        have u3 : Hid (w10.heap.size < v11.heap.size) := b3_0.out.2
        have e11_ : Ext w v11 := Ext.trans e10_ y11
        rw [← hv11]
        clear hv11
        go_ret
        exact ⟨rfl, e11_⟩

end Go.Proofs.YtjjpmjhaodpgcaaGreatDoor
