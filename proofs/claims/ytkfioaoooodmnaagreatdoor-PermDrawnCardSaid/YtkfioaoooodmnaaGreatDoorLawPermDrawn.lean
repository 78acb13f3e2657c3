/- PermDrawn answers true at all strings and numbers. -/
import Derived.Test.YtkfioaoooodmnaaGreatDoorPartI
namespace Go.Proofs.YtkfioaoooodmnaaGreatDoor
open Go Go.RowKit

theorem pdraw_zl {S : ByteArray} {t a b : Nat} {w : World} {vs : List Nat} {L : List Int} (hc : Cur S t a false w) (ho : okS S.data.toList = true) (ha : a ≤ S.size) (n : Nat) (h1 : 1 ≤ n) (hn : n ≤ 64) (hd : drawsB S.data.toList n a = (some vs, b)) (hL : rowF vs (things n) = L) :
    Calls Tryz.prog 46 #[.pointer (some ⟨t, 0, none⟩), .int .i64 (n : Int)] w fun e w' => ∃ r, e = .returned (.tuple #[r, .bool true]) ∧ OwnZ 3 w.heap.size w' r L ∧ Mv t w w' ∧ Cur S t b false w' := hL ▸ pdraw_z hc ho ha n h1 hn hd
theorem wid_le_iff {k j : Nat} (h : 1 ≤ k) : wid k ≤ j ↔ k ≤ 2 ^ j := by
  unfold wid
  rw [if_neg (by omega), bl_le_iff]
  omega
set_option maxHeartbeats 8000000 in
set_option maxRecDepth 100000 in
theorem permDrawn_long (w : World) (s : ByteArray) (hs : s.size ≤ maxLen) (n k : Nat) (hn : n < 256) (hk : n % 65 = k) (h : 2000 < s.size) (hb : okS s.data.toList = false) :
    Calls Tryz.prog 12 #[.string s, .int .u8 (n : Int)] w (Yes w) := by
  have HS := Lib.hid hs
  have n1 : (n : Int) ≤ 255 := by omega
  have hk1 : (n : Int) % 65 = (k : Int) := by omega
  have k1 : (k : Int) ≤ 64 := by omega
  have K64 : Hid (k ≤ 64) := by show k ≤ 64; omega
  clear hs hn hk
  have HB := Lib.hid hb
  have t1 : (2001 : Int) ≤ s.size := by omega
  clear h hb
  go_enter Tryz.func12, Tryz.ntmps12
  go_wp2_with fail
  refine (cnew_bad s _ HS.out HB.out).mono ?_
  rintro e w1 ⟨rfl, x1⟩
  have e1_ : Ext w w1 := Ext.trans (Ext.refl w) x1
  go_wp2_with fail
  refine (awake12_calls _).mono ?_
  rintro e w2 ⟨rfl, x2⟩
  have e2_ : Ext w w2 := Ext.trans e1_ x2
  go_wp2_with fail
  go_ret
  exact ⟨rfl, e2_⟩

set_option maxHeartbeats 8000000 in
set_option maxRecDepth 100000 in
theorem permDrawn_form (w : World) (s : ByteArray) (hs : s.size ≤ maxLen) (n k : Nat) (hn : n < 256) (hk : n % 65 = k) (h : s.size ≤ 2000) (hb : okS s.data.toList = false) :
    Calls Tryz.prog 12 #[.string s, .int .u8 (n : Int)] w (Yes w) := by
  have HS := Lib.hid hs
  have n1 : (n : Int) ≤ 255 := by omega
  have hk1 : (n : Int) % 65 = (k : Int) := by omega
  have k1 : (k : Int) ≤ 64 := by omega
  have K64 : Hid (k ≤ 64) := by show k ≤ 64; omega
  clear hs hn hk
  have HB := Lib.hid hb
  have t1 : (s.size : Int) ≤ 2000 := by omega
  clear h hb
  go_enter Tryz.func12, Tryz.ntmps12
  go_wp2_with fail
  refine (cnew_bad s _ HS.out HB.out).mono ?_
  rintro e w1 ⟨rfl, x1⟩
  have e1_ : Ext w w1 := Ext.trans (Ext.refl w) x1
  go_wp2_with fail
  refine (awake12_calls _).mono ?_
  rintro e w2 ⟨rfl, x2⟩
  have e2_ : Ext w w2 := Ext.trans e1_ x2
  go_wp2_with fail
  go_ret
  exact ⟨rfl, e2_⟩

set_option maxHeartbeats 8000000 in
set_option maxRecDepth 100000 in
theorem permDrawn_none (w : World) (s : ByteArray) (hs : s.size ≤ maxLen) (n k : Nat) (hn : n < 256) (hk : n % 65 = k) (hb : okS s.data.toList = true) (h0 : k = 0) :
    Calls Tryz.prog 12 #[.string s, .int .u8 (n : Int)] w (Yes w) := by
  have HS := Lib.hid hs
  have n1 : (n : Int) ≤ 255 := by omega
  have hk1 : (n : Int) % 65 = (k : Int) := by omega
  have k1 : (k : Int) ≤ 64 := by omega
  have K64 : Hid (k ≤ 64) := by show k ≤ 64; omega
  clear hs hn hk
  have HB := Lib.hid hb
  have t1 : (s.size : Int) ≤ 1024 := by have := (okS_len hb).1; omega
  clear hb
  subst h0
  have HQ : Hid (intsOf (drawsF [] (([] : List Int).length - 1) (things ([] : List Int).length)) = []) := rfl
  have HF : Hid (errR12 [] = 0) := errR12_of (by decide) (by decide)
  go_enter Tryz.func12, Tryz.ntmps12
  go_wp2_with fail
  refine (cnew_ok s _ HS.out HB.out).mono ?_
  rintro e w1 ⟨cs1, rfl, cl1, cc1_, x1⟩
  have e1_ : Ext w w1 := Ext.trans (Ext.refl w) x1
  have b0_0 : Hid (At (cs1) 0 (.string s) w1) := cc1_.c0
  have b0_1 : Hid (At (cs1) 1 (.int .i64 ((0 : Nat) : Int)) w1) := cc1_.c1
  have b0_2 : Hid (At (cs1) 2 (.bool false) w1) := cc1_.c2
  have k0 := Lib.hid cc1_.bx
  have l0 := Lib.hid cl1
  have u0 := Lib.hid cc1_.bx.lt
  clear cl1 cc1_
  go_wp2_with fail
  refine (awake12_calls _).mono ?_
  rintro e w2 ⟨rfl, x2⟩
  have e2_ : Ext w w2 := Ext.trans e1_ x2
  go_wp2_with fail
  refine (pdraw_zero _ _).mono ?_
  rintro e w3 ⟨rfl, x3⟩
  have e3_ : Ext w w3 := Ext.trans e2_ x3
  go_wp2_with fail
  refine (cover_calls (show Cur s (cs1) (0) false _ from ⟨(b0_0.out.ext (x2.trans x3)), (b0_1.out.ext (x2.trans x3)), (b0_2.out.ext (x2.trans x3)), (k0.out.gr (x2.gr.trans x3.gr))⟩)).mono ?_
  rintro e w4 ⟨rfl, x4⟩
  have e4_ : Ext w w4 := Ext.trans e3_ x4
  go_wp2_with fail
  refine (pdraws_zl (Ints.nil _) HF.out HQ.out).mono ?_
  rintro e w5 ⟨zr5, rfl, zo5, x5⟩
  have e5_ : Ext w w5 := Ext.trans e4_ x5
  obtain ⟨zp5, zc5, rfl⟩ := zo5.slice
  go_wp2_with fail
  refine (cat_calls (show Cur s (cs1) (0) false _ from ⟨(b0_0.out.ext (x2.trans (x3.trans (x4.trans x5)))), (b0_1.out.ext (x2.trans (x3.trans (x4.trans x5)))), (b0_2.out.ext (x2.trans (x3.trans (x4.trans x5)))), (k0.out.gr (x2.gr.trans (x3.gr.trans (x4.gr.trans x5.gr))))⟩)).mono ?_
  rintro e w6 ⟨rfl, x6⟩
  have e6_ : Ext w w6 := Ext.trans e5_ x6
  go_wp2_with fail
  go_ret
  exact ⟨rfl, e6_⟩

set_option maxHeartbeats 8000000 in
set_option maxRecDepth 100000 in
theorem permDrawn_one (w : World) (s : ByteArray) (hs : s.size ≤ maxLen) (n k : Nat) (hn : n < 256) (hk : n % 65 = k) (hb : okS s.data.toList = true) (h0 : k = 1) :
    Calls Tryz.prog 12 #[.string s, .int .u8 (n : Int)] w (Yes w) := by
  have HS := Lib.hid hs
  have n1 : (n : Int) ≤ 255 := by omega
  have hk1 : (n : Int) % 65 = (k : Int) := by omega
  have k1 : (k : Int) ≤ 64 := by omega
  have K64 : Hid (k ≤ 64) := by show k ≤ 64; omega
  clear hs hn hk
  have HB := Lib.hid hb
  have t1 : (s.size : Int) ≤ 1024 := by have := (okS_len hb).1; omega
  clear hb
  subst h0
  have HQ : Hid (intsOf (drawsF [0] (([0] : List Int).length - 1) (things ([0] : List Int).length)) = []) := rfl
  have HF : Hid (errR12 [0] = 0) := errR12_of (by decide) (by decide)
  have HD : Hid (drawsB s.data.toList 1 0 = (some [], 0)) := rfl
  go_enter Tryz.func12, Tryz.ntmps12
  go_wp2_with fail
  refine (cnew_ok s _ HS.out HB.out).mono ?_
  rintro e w1 ⟨cs1, rfl, cl1, cc1_, x1⟩
  have e1_ : Ext w w1 := Ext.trans (Ext.refl w) x1
  have b0_0 : Hid (At (cs1) 0 (.string s) w1) := cc1_.c0
  have b0_1 : Hid (At (cs1) 1 (.int .i64 ((0 : Nat) : Int)) w1) := cc1_.c1
  have b0_2 : Hid (At (cs1) 2 (.bool false) w1) := cc1_.c2
  have k0 := Lib.hid cc1_.bx
  have l0 := Lib.hid cl1
  have u0 := Lib.hid cc1_.bx.lt
  clear cl1 cc1_
  go_wp2_with fail
  refine (awake12_calls _).mono ?_
  rintro e w2 ⟨rfl, x2⟩
  have e2_ : Ext w w2 := Ext.trans e1_ x2
  go_wp2_with fail
  refine (pdraw_z (show Cur s (cs1) (0) false _ from ⟨(b0_0.out.ext x2), (b0_1.out.ext x2), (b0_2.out.ext x2), (k0.out.gr x2.gr)⟩) HB.out (Nat.zero_le _) 1 (by decide) (by decide) HD.out).mono ?_
  rintro e w3 ⟨zr3, rfl, zo3, mv3, cc3⟩
  have y3 : Gr w2 w3 := ((show Cur s (cs1) (0) false _ from ⟨(b0_0.out.ext x2), (b0_1.out.ext x2), (b0_2.out.ext x2), (k0.out.gr x2.gr)⟩)).mvgr mv3 cc3
  have t3 : Hid (∀ t o u, t ≠ (cs1) → At t o u w2 → At t o u w3) := fun t o u h k => mv3.at h k
  have e3_ : Ext w w3 := mv3.ext e2_ (Nat.le_trans (Nat.le_refl _) l0.out)
  have b0_0 : Hid (At (cs1) 0 (.string s) w3) := cc3.c0
  have b0_1 : Hid (At (cs1) 1 (.int .i64 ((0 : Nat) : Int)) w3) := cc3.c1
  have b0_2 : Hid (At (cs1) 2 (.bool false) w3) := cc3.c2
  have k0 : Hid (Bx 3 (cs1) w3) := cc3.bx
  clear mv3 cc3
  obtain ⟨zp3, zc3, rfl⟩ := zo3.slice
  go_wp2_with fail
  refine (cover_calls (show Cur s (cs1) (0) false _ from ⟨b0_0.out, b0_1.out, b0_2.out, k0.out⟩)).mono ?_
  rintro e w4 ⟨rfl, x4⟩
  have e4_ : Ext w w4 := Ext.trans e3_ x4
  go_wp2_with fail
  refine (pdraws_zl (zo3.ext x4).ints HF.out HQ.out).mono ?_
  rintro e w5 ⟨zr5, rfl, zo5, x5⟩
  have e5_ : Ext w w5 := Ext.trans e4_ x5
  obtain ⟨zp5, zc5, rfl⟩ := zo5.slice
  go_wp2_with fail
  refine (cat_calls (show Cur s (cs1) (0) false _ from ⟨(b0_0.out.ext (x4.trans x5)), (b0_1.out.ext (x4.trans x5)), (b0_2.out.ext (x4.trans x5)), (k0.out.gr (x4.gr.trans x5.gr))⟩)).mono ?_
  rintro e w6 ⟨rfl, x6⟩
  have e6_ : Ext w w6 := Ext.trans e5_ x6
  go_wp2_with fail
  go_ret
  exact ⟨rfl, e6_⟩

set_option maxHeartbeats 8000000 in
set_option maxRecDepth 100000 in
theorem permDrawn_some (w : World) (s : ByteArray) (hs : s.size ≤ maxLen) (n k : Nat) (hn : n < 256) (hk : n % 65 = k) (hb : okS s.data.toList = true) (h0 : 2 ≤ k) (vs : List Nat) (b : Nat) (hd : drawsB s.data.toList k 0 = (some vs, b)) :
    Calls Tryz.prog 12 #[.string s, .int .u8 (n : Int)] w (Yes w) := by
  have HS := Lib.hid hs
  have n1 : (n : Int) ≤ 255 := by omega
  have hk1 : (n : Int) % 65 = (k : Int) := by omega
  have k1 : (k : Int) ≤ 64 := by omega
  have K64 : Hid (k ≤ 64) := by show k ≤ 64; omega
  clear hs hn hk
  have HB := Lib.hid hb
  have t1 : (s.size : Int) ≤ 1024 := by have := (okS_len hb).1; omega
  clear hb
  have HD := Lib.hid hd
  obtain ⟨R, hR⟩ : ∃ R, rowF vs (things k) = R := ⟨_, rfl⟩
  have hok := drawsB_ok k 0 hd
  have HRL : Hid (R.length = k) := by show _ = _; rw [← hR, rowF_length, things_length]
  have HF : Hid (errR12 R = 0) := errR12_of (by rw [HRL.out]; omega) (by rw [HRL.out, ← hR]; exact rowF_perm vs _ hok.2 (by rw [hok.1, things_length]; omega))
  have HR := Lib.hid hR
  obtain ⟨Q, hQ⟩ : ∃ Q, intsOf (drawsF R (R.length - 1) (things R.length)) = Q := ⟨_, rfl⟩
  have HQQ := Lib.hid hQ
  have HQL : Hid (Q.length = k - 1) := by show _ = _; rw [← hQ, intsOf_length, drawsF_length, HRL.out]
  have t9 : ((R.length : Int) != (k : Int)) = false := by rw [bne_eq_false_iff_eq, HRL.out]
  have t8 : (Q.length : Int) = (k : Int) - 1 := by rw [HQL.out]; omega
  clear hd hR hok hQ
  have KB : Hid (k < Bs) := by show k < Bs; rw [Bs_def]; omega
  have KB1 : Hid (k - 1 < Bs) := by have := KB.out; show k - 1 < Bs; omega
  have K641 : Hid (k - 1 ≤ 64) := by show k - 1 ≤ 64; omega
  have K1 : Hid (1 ≤ k) := by show 1 ≤ k; omega
  have K2 : Hid (2 ≤ k) := h0
  have k2 : (2 : Int) ≤ k := by omega
  obtain ⟨j, hj⟩ : ∃ j, k - 1 = j := ⟨_, rfl⟩
  have hw1 : IntKind.i64.wrap ((k : Int) - 1) = (j : Int) := by rw [IntWalk.i64_in _ (by omega)]; omega
  obtain ⟨q, hq⟩ : ∃ q, wid k = q := ⟨_, rfl⟩
  have HQ := Lib.hid hq
  have hq6 : q ≤ 6 := by rw [← hq, wid_le_iff (by omega)]; omega
  have HJ := Lib.hid hj
  have JB : Hid (j < Bs) := by have := KB1.out; rwa [hj] at this
  have J64 : Hid (j ≤ 64) := by have := K641.out; rwa [hj] at this
  have HPC : Hid (decide (pcostQ k - pcostQ j = costQ k) = true) := by
    show _ = _
    rw [decide_eq_true_eq, ← pcostQ_next h0, hj, Rat.add_comm, Rat.sub_eq_add_neg, Rat.add_assoc, Rat.add_neg_cancel, Rat.add_zero]
  clear hj hq h0
  have t7 : (Q.length : Int) = (j : Int) := by have := HJ.out; have := HQL.out; omega
  clear t8
  go_enter Tryz.func12, Tryz.ntmps12
  go_wp2_with fail
  refine (cnew_ok s _ HS.out HB.out).mono ?_
  rintro e w1 ⟨cs1, rfl, cl1, cc1_, x1⟩
  have e1_ : Ext w w1 := Ext.trans (Ext.refl w) x1
  have b0_0 : Hid (At (cs1) 0 (.string s) w1) := cc1_.c0
  have b0_1 : Hid (At (cs1) 1 (.int .i64 ((0 : Nat) : Int)) w1) := cc1_.c1
  have b0_2 : Hid (At (cs1) 2 (.bool false) w1) := cc1_.c2
  have k0 := Lib.hid cc1_.bx
  have l0 := Lib.hid cl1
  have u0 := Lib.hid cc1_.bx.lt
  clear cl1 cc1_
  go_wp2_with fail
  refine (awake12_calls _).mono ?_
  rintro e w2 ⟨rfl, x2⟩
  have e2_ : Ext w w2 := Ext.trans e1_ x2
  go_wp2_with fail
  refine (pdraw_zl (show Cur s (cs1) (0) false _ from ⟨(b0_0.out.ext x2), (b0_1.out.ext x2), (b0_2.out.ext x2), (k0.out.gr x2.gr)⟩) HB.out (Nat.zero_le _) k K1.out K64.out HD.out HR.out).mono ?_
  rintro e w3 ⟨zr3, rfl, zo3, mv3, cc3⟩
  have y3 : Gr w2 w3 := ((show Cur s (cs1) (0) false _ from ⟨(b0_0.out.ext x2), (b0_1.out.ext x2), (b0_2.out.ext x2), (k0.out.gr x2.gr)⟩)).mvgr mv3 cc3
  have t3 : Hid (∀ t o u, t ≠ (cs1) → At t o u w2 → At t o u w3) := fun t o u h k => mv3.at h k
  have e3_ : Ext w w3 := mv3.ext e2_ (Nat.le_trans (Nat.le_refl _) l0.out)
  have b0_0 : Hid (At (cs1) 0 (.string s) w3) := cc3.c0
  have b0_1 : Hid (At (cs1) 1 (.int .i64 ((b : Nat) : Int)) w3) := cc3.c1
  have b0_2 : Hid (At (cs1) 2 (.bool false) w3) := cc3.c2
  have k0 : Hid (Bx 3 (cs1) w3) := cc3.bx
  clear mv3 cc3
  obtain ⟨zp3, zc3, rfl⟩ := zo3.slice
  go_wp2_with fail
  refine (cover_calls (show Cur s (cs1) (b) false _ from ⟨b0_0.out, b0_1.out, b0_2.out, k0.out⟩)).mono ?_
  rintro e w4 ⟨rfl, x4⟩
  have e4_ : Ext w w4 := Ext.trans e3_ x4
  go_wp2_with fail
  refine (pdraws_zl (zo3.ext x4).ints HF.out HQQ.out).mono ?_
  rintro e w5 ⟨zr5, rfl, zo5, x5⟩
  have e5_ : Ext w w5 := Ext.trans e4_ x5
  obtain ⟨zp5, zc5, rfl⟩ := zo5.slice
  go_wp2_with fail
  refine (pcost_is _ k K64.out).mono ?_
  rintro e w6 ⟨sb6, sv6, su6, sm6, sd6, rfl, e6, o6, x6⟩
  have e6_ : Ext w w6 := Ext.trans e5_ x6
  obtain ⟨sp6, sl6, sc6, tp6, tl6, tc6, rfl, rfl⟩ := e6.slice
  go_wp2_with fail
  obtain ⟨v7, hv7⟩ : ∃ W, W = (w6.alloc (.cells #[.bool sb6, .slice sp6 sl6 sc6, .slice tp6 tl6 tc6] 37)) := ⟨_, rfl⟩
  have y7 : Ext w6 v7 := by rw [hv7]; exact ((Ext.refl _).alloc _)
  have b1_0 : Hid (At (w6.heap.size) 0 (.bool sb6) v7) := by rw [hv7]; exact At.ext (At.n0 (by rfl)) (Ext.refl _)
  have b1_1 : Hid (At (w6.heap.size) 1 (.slice sp6 sl6 sc6) v7) := by rw [hv7]; exact At.ext (At.n0 (by rfl)) (Ext.refl _)
  have b1_2 : Hid (At (w6.heap.size) 2 (.slice tp6 tl6 tc6) v7) := by rw [hv7]; exact At.ext (At.n0 (by rfl)) (Ext.refl _)
  have k1 : Hid (Bx 3 (w6.heap.size) v7) := by rw [hv7]; exact Bx.gr (Bx.n0 3 ⟨rfl, by decide⟩ (by decide) noI_s3) (Ext.gr (Ext.refl _))
  have u1 : Hid (w6.heap.size < v7.heap.size) := b1_0.out.2
  have e7_ : Ext w v7 := Ext.trans e6_ y7
  rw [← hv7]
  clear hv7
  refine (pcost_is _ j J64.out).mono ?_
  rintro e w8 ⟨sb7, sv7, su7, sm7, sd7, rfl, e7, o7, x8⟩
  have e8_ : Ext w w8 := Ext.trans e7_ x8
  obtain ⟨sp7, sl7, sc7, tp7, tl7, tc7, rfl, rfl⟩ := e7.slice
  go_wp2_with fail
  obtain ⟨v9, hv9⟩ : ∃ W, W = (w8.alloc (.cells #[.bool sb7, .slice sp7 sl7 sc7, .slice tp7 tl7 tc7] 37)) := ⟨_, rfl⟩
  have y9 : Ext w8 v9 := by rw [hv9]; exact ((Ext.refl _).alloc _)
  have b2_0 : Hid (At (w8.heap.size) 0 (.bool sb7) v9) := by rw [hv9]; exact At.ext (At.n0 (by rfl)) (Ext.refl _)
  have b2_1 : Hid (At (w8.heap.size) 1 (.slice sp7 sl7 sc7) v9) := by rw [hv9]; exact At.ext (At.n0 (by rfl)) (Ext.refl _)
  have b2_2 : Hid (At (w8.heap.size) 2 (.slice tp7 tl7 tc7) v9) := by rw [hv9]; exact At.ext (At.n0 (by rfl)) (Ext.refl _)
  have k2 : Hid (Bx 3 (w8.heap.size) v9) := by rw [hv9]; exact Bx.gr (Bx.n0 3 ⟨rfl, by decide⟩ (by decide) noI_s3) (Ext.gr (Ext.refl _))
  have u2 : Hid (w8.heap.size < v9.heap.size) := b2_0.out.2
  have e9_ : Ext w v9 := Ext.trans e8_ y9
  rw [← hv9]
  clear hv9
  clear hw1
  go_loop [16] (fun v16 => ∃ i : Nat, v16 = .int .i64 (i : Int) ∧ i ≤ q) (fun v16 => 7 - (intOf v16).toNat)
  case atStart => exact ⟨0, rfl, Nat.zero_le _⟩
  case round =>
    obtain ⟨i, rfl, hiq⟩ := hrel
    obtain ⟨p, hp⟩ : ∃ p : Nat, 2 ^ i = p := ⟨_, rfl⟩
    have hi6 : (i : Int) ≤ 6 := by omega
    have hpi : (2 : Int) ^ i = (p : Int) := by rw [← hp]; simp
    have hp64 : p ≤ 64 := by rw [← hp]; exact Nat.le_trans (Nat.pow_le_pow_right (by decide) (show i ≤ 6 by omega)) (by decide)
    have hwp : IntKind.i64.wrap (2 ^ i) = (p : Int) := by rw [hpi, IntWalk.i64_in _ (by omega)]
    have hpk : p < k ↔ i < q := by have := wid_le_iff (k := k) (j := i) K1.out; rw [HQ.out, hp] at this; omega
    by_cases hc : p < k
    · have HI : Hid (i + 1 ≤ q) := hpk.1 hc
      clear hpk hp hpi
      go_wp2_with fail
      exact ⟨⟨i + 1, by go_num, HI.out⟩, by simp [intOf]; have := HI.out; omega⟩
    · have e : q = i := by have := fun h => hc (hpk.2 h); omega
      subst e
      have hc1 : k ≤ p := by omega
      have hqp : IntKind.i64.wrap ((q : Int) * 2 ^ q) = ((q * p : Nat) : Int) := by have h1 : q * p ≤ 6 * 64 := Nat.mul_le_mul hq6 hp64; rw [hpi, IntWalk.i64_in _ (by have h2 : (q : Int) * (p : Int) = ((q * p : Nat) : Int) := (by simp); omega)]; simp
      obtain ⟨z, hz⟩ : ∃ z : Nat, q * p = z := ⟨_, rfl⟩
      rw [hz] at hqp
      have z1 : z ≤ 384 := by rw [← hz]; exact Nat.mul_le_mul hq6 hp64
      have ZR : Hid ((-9223372036854775808 : Int) ≤ z ∧ (z : Int) ≤ 9223372036854775807) := ⟨by omega, by omega⟩
      have KR : Hid ((-9223372036854775808 : Int) ≤ k ∧ (k : Int) ≤ 9223372036854775807) := ⟨by omega, by omega⟩
      have KN : Hid ((k : Int) ≠ 0) := by show (k : Int) ≠ 0; omega
      have HC : Hid (Rat.divInt (z : Int) (k : Int) = costQ k) := by show _ = _; unfold costQ; rw [HQ.out, hp, hz]; exact Rat.divInt_ofNat _ _
      clear hpk hp hpi hz z1
      go_wp2_with fail
      refine (over_is (q := (costQ k)) _ (z : Int) (k : Int) ZR.out.1 ZR.out.2 KR.out.1 KR.out.2 KN.out HC.out).mono ?_
      rintro e w10 ⟨sb8, sv8, su8, sm8, sd8, rfl, e8, o8, x10⟩
      have e10_ : Ext w w10 := Ext.trans e9_ x10
      obtain ⟨sp8, sl8, sc8, tp8, tl8, tc8, rfl, rfl⟩ := e8.slice
      go_wp2_with fail
      obtain ⟨v11, hv11⟩ : ∃ W, W = (w10.alloc (.cells #[.bool sb8, .slice sp8 sl8 sc8, .slice tp8 tl8 tc8] 37)) := ⟨_, rfl⟩
      have y11 : Ext w10 v11 := by rw [hv11]; exact ((Ext.refl _).alloc _)
      have b3_0 : Hid (At (w10.heap.size) 0 (.bool sb8) v11) := by rw [hv11]; exact At.ext (At.n0 (by rfl)) (Ext.refl _)
      have b3_1 : Hid (At (w10.heap.size) 1 (.slice sp8 sl8 sc8) v11) := by rw [hv11]; exact At.ext (At.n0 (by rfl)) (Ext.refl _)
      have b3_2 : Hid (At (w10.heap.size) 2 (.slice tp8 tl8 tc8) v11) := by rw [hv11]; exact At.ext (At.n0 (by rfl)) (Ext.refl _)
      have k3 : Hid (Bx 3 (w10.heap.size) v11) := by rw [hv11]; exact Bx.gr (Bx.n0 3 ⟨rfl, by decide⟩ (by decide) noI_s3) (Ext.gr (Ext.refl _))
      have u3 : Hid (w10.heap.size < v11.heap.size) := b3_0.out.2
      have e11_ : Ext w v11 := Ext.trans e10_ y11
      rw [← hv11]
      clear hv11
      have hkeep1 : AllAt' ([(cs1, 0, .string s), (cs1, 1, .int .i64 ((b : Nat) : Int)), (cs1, 2, .bool false), (w6.heap.size, 0, .bool sb6), (w6.heap.size, 1, .slice sp6 sl6 sc6), (w6.heap.size, 2, .slice tp6 tl6 tc6), (w8.heap.size, 0, .bool sb7), (w8.heap.size, 1, .slice sp7 sl7 sc7), (w8.heap.size, 2, .slice tp7 tl7 tc7), (w10.heap.size, 0, .bool sb8), (w10.heap.size, 1, .slice sp8 sl8 sc8), (w10.heap.size, 2, .slice tp8 tl8 tc8)] : List (Nat × Nat × Value)) v11 := AllAt'.cons (b0_0.out.ext (x4.trans (x5.trans (x6.trans (y7.trans (x8.trans (y9.trans (x10.trans y11)))))))) (AllAt'.cons (b0_1.out.ext (x4.trans (x5.trans (x6.trans (y7.trans (x8.trans (y9.trans (x10.trans y11)))))))) (AllAt'.cons (b0_2.out.ext (x4.trans (x5.trans (x6.trans (y7.trans (x8.trans (y9.trans (x10.trans y11)))))))) (AllAt'.cons (b1_0.out.ext (x8.trans (y9.trans (x10.trans y11)))) (AllAt'.cons (b1_1.out.ext (x8.trans (y9.trans (x10.trans y11)))) (AllAt'.cons (b1_2.out.ext (x8.trans (y9.trans (x10.trans y11)))) (AllAt'.cons (b2_0.out.ext (x10.trans y11)) (AllAt'.cons (b2_1.out.ext (x10.trans y11)) (AllAt'.cons (b2_2.out.ext (x10.trans y11)) (AllAt'.cons b3_0.out (AllAt'.cons b3_1.out (AllAt'.cons b3_2.out (AllAt'.nil _))))))))))))
      have hob1 : ObOk w.heap.size v11 (([(cs1, 0, .string s), (cs1, 1, .int .i64 ((b : Nat) : Int)), (cs1, 2, .bool false), (w6.heap.size, 0, .bool sb6), (w6.heap.size, 1, .slice sp6 sl6 sc6), (w6.heap.size, 2, .slice tp6 tl6 tc6), (w8.heap.size, 0, .bool sb7), (w8.heap.size, 1, .slice sp7 sl7 sc7), (w8.heap.size, 2, .slice tp7 tl7 tc7), (w10.heap.size, 0, .bool sb8), (w10.heap.size, 1, .slice sp8 sl8 sc8), (w10.heap.size, 2, .slice tp8 tl8 tc8)] : List (Nat × Nat × Value)).map (·.1)) ([] : List (Nat × List (Nat × Value))) := trivial
      have hne1 : AllNe (([] : List (Nat × List (Nat × Value))).map (·.1)) := trivial
      (try simp only [List.append_eq, List.cons_append, List.nil_append])
      refine wp_region_gen ⟨[113, 114, 115, 116, 117, 118, 119, 120, 121, 122, 123, 124, 125, 126, 127, 128, 129, 4], fun i => false, fun i => ([none, none, none, none, none, none, none, none, none, none, none, none, none, none, none, none, none, none] : List (Option (BoxRef × Nat))).getD i none, fun i => ([Sg.val (.int .i64 0), Sg.val (.bool true), Sg.val (.bool true), Sg.val (.int .i64 0), Sg.val (.bool true), Sg.val (.bool true), Sg.val (.bool true), Sg.val (.int .i64 0), Sg.val (.bool true), Sg.val (.bool true), Sg.val (.bool true), Sg.ratO w.heap.size (pcostQ k), Sg.ratO w.heap.size (pcostQ j), Sg.ratO w.heap.size ((pcostQ k) - (pcostQ j)), Sg.ratO w.heap.size (costQ k), Sg.val (.bool true), Sg.val (.bool true), Sg.val (.bool true)] : List Sg).getD i Sg.any, [(cs1, 0, .string s), (cs1, 1, .int .i64 ((b : Nat) : Int)), (cs1, 2, .bool false), (w6.heap.size, 0, .bool sb6), (w6.heap.size, 1, .slice sp6 sl6 sc6), (w6.heap.size, 2, .slice tp6 tl6 tc6), (w8.heap.size, 0, .bool sb7), (w8.heap.size, 1, .slice sp7 sl7 sc7), (w8.heap.size, 2, .slice tp7 tl7 tc7), (w10.heap.size, 0, .bool sb8), (w10.heap.size, 1, .slice sp8 sl8 sc8), (w10.heap.size, 2, .slice tp8 tl8 tc8)], []⟩ w.heap.size (by kernel_rfl) (by kernel_rfl) e11_.size ?hfr hkeep1 hob1 hne1 ?hs ?he
      case hfr =>
        intro i v wk hi hst hv
        exact absurd hi (by simp)
      case hs =>
        refine ⟨?_, ?_, ?_, ?_, ?_, ?_, ?_, ?_, ?_, ?_, ?_, ?_, ?_, ?_, ?_, ?_, ?_, ?_, trivial⟩
        · refine RStep.op rfl rfl (fun ac wk hp K hK => ?_)
          have t13_ : ac.tmps[13]?.getD undef = .int .i64 0 := hp.slot 13 rfl rfl
          have HP := Lib.hid hp
          clear hp
          go_simp
          refine hK.out _ _ ?_ (Ext.refl _) (fun h => absurd h (by simp))
          exact rfl
        · refine RStep.op rfl rfl (fun ac wk hp K hK => ?_)
          have u0e := hp.get 0 (by decide +kernel) rfl
          have t113_ : ac.tmps[113]?.getD undef = .int .i64 0 := slot_is' u0e
          have HP := Lib.hid hp
          clear hp
          go_simp
          refine hK.out _ _ ?_ (Ext.refl _) (fun h => absurd h (by simp))
          exact rfl
        · refine RStep.op rfl rfl (fun ac wk hp K hK => ?_)
          have u1e := hp.get 1 (by decide +kernel) rfl
          have t114_ : ac.tmps[114]?.getD undef = .bool true := slot_is' u1e
          have HP := Lib.hid hp
          clear hp
          go_simp
          refine hK.out _ _ ?_ (Ext.refl _) (fun h => absurd h (by simp))
          exact rfl
        · refine RStep.yes 2 true rfl rfl (by decide +kernel) rfl rfl (fun ac wk hp K hK => ?_)
          have t15_ : ac.tmps[15]?.getD undef = .int .i64 0 := hp.slot 15 rfl rfl
          have HP := Lib.hid hp
          clear hp
          go_simp
          refine hK.out _ _ ?_ (Ext.refl _) (fun h => absurd h (by simp))
          exact rfl
        · refine RStep.yes 2 true rfl rfl (by decide +kernel) rfl rfl (fun ac wk hp K hK => ?_)
          have u3e := hp.get 3 (by decide +kernel) rfl
          have t116_ : ac.tmps[116]?.getD undef = .int .i64 0 := slot_is' u3e
          have HP := Lib.hid hp
          clear hp
          go_simp
          refine hK.out _ _ ?_ (Ext.refl _) (fun h => absurd h (by simp))
          exact rfl
        · refine RStep.op rfl rfl (fun ac wk hp K hK => ?_)
          have u2e := hp.get 2 (by decide +kernel) rfl
          have t115_ : ac.tmps[115]?.getD undef = .bool true := slot_is' u2e
          have u4e := hp.get 4 (by decide +kernel) rfl
          have t117_ : ac.tmps[117]?.getD undef = .bool true := slot_is' u4e
          have HP := Lib.hid hp
          clear hp
          go_simp
          refine hK.out _ _ ?_ (Ext.refl _) (fun h => absurd h (by simp))
          exact rfl
        · refine RStep.op rfl rfl (fun ac wk hp K hK => ?_)
          have u5e := hp.get 5 (by decide +kernel) rfl
          have t118_ : ac.tmps[118]?.getD undef = .bool true := slot_is' u5e
          have HP := Lib.hid hp
          clear hp
          go_simp
          refine hK.out _ _ ?_ (Ext.refl _) (fun h => absurd h (by simp))
          exact rfl
        · refine RStep.yes 6 true rfl rfl (by decide +kernel) rfl rfl (fun ac wk hp K hK => ?_)
          have t18_ : ac.tmps[18]?.getD undef = .int .i64 0 := hp.slot 18 rfl rfl
          have HP := Lib.hid hp
          clear hp
          go_simp
          refine hK.out _ _ ?_ (Ext.refl _) (fun h => absurd h (by simp))
          exact rfl
        · refine RStep.yes 6 true rfl rfl (by decide +kernel) rfl rfl (fun ac wk hp K hK => ?_)
          have u7e := hp.get 7 (by decide +kernel) rfl
          have t120_ : ac.tmps[120]?.getD undef = .int .i64 0 := slot_is' u7e
          have HP := Lib.hid hp
          clear hp
          go_simp
          refine hK.out _ _ ?_ (Ext.refl _) (fun h => absurd h (by simp))
          exact rfl
        · refine RStep.op rfl rfl (fun ac wk hp K hK => ?_)
          have u6e := hp.get 6 (by decide +kernel) rfl
          have t119_ : ac.tmps[119]?.getD undef = .bool true := slot_is' u6e
          have u8e := hp.get 8 (by decide +kernel) rfl
          have t121_ : ac.tmps[121]?.getD undef = .bool true := slot_is' u8e
          have HP := Lib.hid hp
          clear hp
          go_simp
          refine hK.out _ _ ?_ (Ext.refl _) (fun h => absurd h (by simp))
          exact rfl
        · refine RStep.op rfl rfl (fun ac wk hp K hK => ?_)
          have u9e := hp.get 9 (by decide +kernel) rfl
          have t122_ : ac.tmps[122]?.getD undef = .bool true := slot_is' u9e
          have HP := Lib.hid hp
          clear hp
          go_simp
          refine hK.out _ _ ?_ (Ext.refl _) (fun h => absurd h (by simp))
          exact rfl
        · refine RStep.yes 10 true rfl rfl (by decide +kernel) rfl rfl (fun ac wk hp K hK => ?_)
          have t12_ : ac.tmps[12]?.getD undef = .pointer (some ⟨w6.heap.size, 0, none⟩) := hp.slot 12 rfl rfl
          have c0_ := hp.cell 3 rfl
          have c1_ := hp.cell 4 rfl
          have c2_ := hp.cell 5 rfl
          have HP := Lib.hid hp
          clear hp
          go_simp
          refine hK.out _ _ ?_ (Ext.refl _) (fun h => absurd h (by simp))
          exact ⟨_, _, _, _, _, _, _, _, _, rfl, (e6.gr ((y7.gr.trans (x8.gr.trans (y9.gr.trans (x10.gr.trans y11.gr)))).trans HP.out.gr)), ((o6.gr ((y7.gr.trans (x8.gr.trans (y9.gr.trans (x10.gr.trans y11.gr)))).trans HP.out.gr)).mono e5_.size)⟩
        · refine RStep.yes 10 true rfl rfl (by decide +kernel) rfl rfl (fun ac wk hp K hK => ?_)
          have t14_ : ac.tmps[14]?.getD undef = .pointer (some ⟨w8.heap.size, 0, none⟩) := hp.slot 14 rfl rfl
          have c0_ := hp.cell 6 rfl
          have c1_ := hp.cell 7 rfl
          have c2_ := hp.cell 8 rfl
          have HP := Lib.hid hp
          clear hp
          go_simp
          refine hK.out _ _ ?_ (Ext.refl _) (fun h => absurd h (by simp))
          exact ⟨_, _, _, _, _, _, _, _, _, rfl, (e7.gr ((y9.gr.trans (x10.gr.trans y11.gr)).trans HP.out.gr)), ((o7.gr ((y9.gr.trans (x10.gr.trans y11.gr)).trans HP.out.gr)).mono e7_.size)⟩
        · refine RStep.yes 10 true rfl rfl (by decide +kernel) rfl rfl (fun ac wk hp K hK => ?_)
          obtain ⟨u11b, u11p, u11n, u11c, u11q, u11k, u11d, u11m, u11l, u11e, u11i, u11o⟩ := hp.get 11 (by decide +kernel) rfl
          have t124_ : ac.tmps[124]?.getD undef = .agg #[.bool u11b, .slice u11p u11n u11c, .slice u11q u11k u11d] := slot_is' u11e
          obtain ⟨u12b, u12p, u12n, u12c, u12q, u12k, u12d, u12m, u12l, u12e, u12i, u12o⟩ := hp.get 12 (by decide +kernel) rfl
          have t125_ : ac.tmps[125]?.getD undef = .agg #[.bool u12b, .slice u12p u12n u12c, .slice u12q u12k u12d] := slot_is' u12e
          have HP := Lib.hid hp
          clear hp
          go_simp
          refine (rsub_is (u11i.inR (k := (3 * k + 1)) (pcostQ_len KB.out)) (u12i.inR (k := (3 * j + 1)) (pcostQ_len JB.out)) (by have := K64.out; have := J64.out; omega)).mono ?_
          rintro e wk' ⟨sb9, sv9, su9, sm9, sd9, rfl, e9, o9, ix⟩
          obtain ⟨sp9, sl9, sc9, tp9, tl9, tc9, rfl, rfl⟩ := e9.slice
          refine hK.out _ _ ?_ ix (fun h => absurd h (by simp))
          exact ⟨_, _, _, _, _, _, _, _, _, rfl, e9, (o9.mono (Nat.le_trans e11_.size HP.out.gr.size))⟩
        · refine RStep.yes 10 true rfl rfl (by decide +kernel) rfl rfl (fun ac wk hp K hK => ?_)
          have t17_ : ac.tmps[17]?.getD undef = .pointer (some ⟨w10.heap.size, 0, none⟩) := hp.slot 17 rfl rfl
          have c0_ := hp.cell 9 rfl
          have c1_ := hp.cell 10 rfl
          have c2_ := hp.cell 11 rfl
          have HP := Lib.hid hp
          clear hp
          go_simp
          refine hK.out _ _ ?_ (Ext.refl _) (fun h => absurd h (by simp))
          exact ⟨_, _, _, _, _, _, _, _, _, rfl, (e8.gr (y11.gr.trans HP.out.gr)), ((o8.gr (y11.gr.trans HP.out.gr)).mono e9_.size)⟩
        · refine RStep.yes 10 true rfl rfl (by decide +kernel) rfl rfl (fun ac wk hp K hK => ?_)
          obtain ⟨u13b, u13p, u13n, u13c, u13q, u13k, u13d, u13m, u13l, u13e, u13i, u13o⟩ := hp.get 13 (by decide +kernel) rfl
          have t126_ : ac.tmps[126]?.getD undef = .agg #[.bool u13b, .slice u13p u13n u13c, .slice u13q u13k u13d] := slot_is' u13e
          obtain ⟨u14b, u14p, u14n, u14c, u14q, u14k, u14d, u14m, u14l, u14e, u14i, u14o⟩ := hp.get 14 (by decide +kernel) rfl
          have t127_ : ac.tmps[127]?.getD undef = .agg #[.bool u14b, .slice u14p u14n u14c, .slice u14q u14k u14d] := slot_is' u14e
          have HP := Lib.hid hp
          clear hp
          go_simp
          refine (rsame_calls (u13i.inR (k := ((3 * k + 1) + (3 * j + 1) + 1)) (LenR.sub (pcostQ_len KB.out) (pcostQ_len JB.out))) (u14i.inR (k := 2) (costQ_len KB.out)) (by have := K64.out; have := J64.out; omega) true HPC.out).mono ?_
          rintro e wk' ⟨rfl, ix⟩
          refine hK.out _ _ ?_ ix (fun h => absurd h (by simp))
          exact rfl
        · refine RStep.op rfl rfl (fun ac wk hp K hK => ?_)
          have u10e := hp.get 10 (by decide +kernel) rfl
          have t123_ : ac.tmps[123]?.getD undef = .bool true := slot_is' u10e
          have u15e := hp.get 15 (by decide +kernel) rfl
          have t128_ : ac.tmps[128]?.getD undef = .bool true := slot_is' u15e
          have HP := Lib.hid hp
          clear hp
          go_simp
          refine hK.out _ _ ?_ (Ext.refl _) (fun h => absurd h (by simp))
          exact rfl
        · refine RStep.op rfl rfl (fun ac wk hp K hK => ?_)
          have u16e := hp.get 16 (by decide +kernel) rfl
          have t129_ : ac.tmps[129]?.getD undef = .bool true := slot_is' u16e
          have HP := Lib.hid hp
          clear hp
          go_simp
          refine hK.out _ _ ?_ (Ext.refl _) (fun h => absurd h (by simp))
          exact rfl
      case he =>
        intro ac v12 hM
        have y1_0e := hM.post 0 rfl rfl
        have y1_1e := hM.post 1 rfl rfl
        have y1_2e := hM.post 2 rfl rfl
        have y1_3e := hM.post 3 rfl rfl
        have y1_4e := hM.post 4 rfl rfl
        have y1_5e := hM.post 5 rfl rfl
        have y1_6e := hM.post 6 rfl rfl
        have y1_7e := hM.post 7 rfl rfl
        have y1_8e := hM.post 8 rfl rfl
        have y1_9e := hM.post 9 rfl rfl
        have y1_10e := hM.post 10 rfl rfl
        obtain ⟨y1_11b, y1_11p, y1_11n, y1_11c, y1_11q, y1_11k, y1_11d, y1_11m, y1_11l, y1_11e, y1_11i, y1_11o⟩ := hM.post 11 rfl rfl
        obtain ⟨y1_12b, y1_12p, y1_12n, y1_12c, y1_12q, y1_12k, y1_12d, y1_12m, y1_12l, y1_12e, y1_12i, y1_12o⟩ := hM.post 12 rfl rfl
        obtain ⟨y1_13b, y1_13p, y1_13n, y1_13c, y1_13q, y1_13k, y1_13d, y1_13m, y1_13l, y1_13e, y1_13i, y1_13o⟩ := hM.post 13 rfl rfl
        obtain ⟨y1_14b, y1_14p, y1_14n, y1_14c, y1_14q, y1_14k, y1_14d, y1_14m, y1_14l, y1_14e, y1_14i, y1_14o⟩ := hM.post 14 rfl rfl
        have y1_15e := hM.post 15 rfl rfl
        have y1_16e := hM.post 16 rfl rfl
        have y1_17e := hM.post 17 rfl rfl
        have b0_0 : Hid (At (cs1) 0 (.string s) v12) := Lib.hid (hM.keep.at 0 rfl)
        have b0_1 : Hid (At (cs1) 1 (.int .i64 ((b : Nat) : Int)) v12) := Lib.hid (hM.keep.at 1 rfl)
        have b0_2 : Hid (At (cs1) 2 (.bool false) v12) := Lib.hid (hM.keep.at 2 rfl)
        have b1_0 : Hid (At (w6.heap.size) 0 (.bool sb6) v12) := Lib.hid (hM.keep.at 3 rfl)
        have b1_1 : Hid (At (w6.heap.size) 1 (.slice sp6 sl6 sc6) v12) := Lib.hid (hM.keep.at 4 rfl)
        have b1_2 : Hid (At (w6.heap.size) 2 (.slice tp6 tl6 tc6) v12) := Lib.hid (hM.keep.at 5 rfl)
        have b2_0 : Hid (At (w8.heap.size) 0 (.bool sb7) v12) := Lib.hid (hM.keep.at 6 rfl)
        have b2_1 : Hid (At (w8.heap.size) 1 (.slice sp7 sl7 sc7) v12) := Lib.hid (hM.keep.at 7 rfl)
        have b2_2 : Hid (At (w8.heap.size) 2 (.slice tp7 tl7 tc7) v12) := Lib.hid (hM.keep.at 8 rfl)
        have b3_0 : Hid (At (w10.heap.size) 0 (.bool sb8) v12) := Lib.hid (hM.keep.at 9 rfl)
        have b3_1 : Hid (At (w10.heap.size) 1 (.slice sp8 sl8 sc8) v12) := Lib.hid (hM.keep.at 10 rfl)
        have b3_2 : Hid (At (w10.heap.size) 2 (.slice tp8 tl8 tc8) v12) := Lib.hid (hM.keep.at 11 rfl)
        have gv12 : Gr v11 v12 := hM.gr
        have e12_ : Ext w v12 := Ext.below e11_ hM.blw
        have z0_ : sl ac 113 = .int .i64 0 := y1_0e
        have z1_ : sl ac 114 = .bool true := y1_1e
        have z2_ : sl ac 115 = .bool true := y1_2e
        have z3_ : sl ac 116 = .int .i64 0 := y1_3e
        have z4_ : sl ac 117 = .bool true := y1_4e
        have z5_ : sl ac 118 = .bool true := y1_5e
        have z6_ : sl ac 119 = .bool true := y1_6e
        have z7_ : sl ac 120 = .int .i64 0 := y1_7e
        have z8_ : sl ac 121 = .bool true := y1_8e
        have z9_ : sl ac 122 = .bool true := y1_9e
        have z10_ : sl ac 123 = .bool true := y1_10e
        have z11_ : sl ac 124 = .agg #[.bool y1_11b, .slice y1_11p y1_11n y1_11c, .slice y1_11q y1_11k y1_11d] := y1_11e
        have z12_ : sl ac 125 = .agg #[.bool y1_12b, .slice y1_12p y1_12n y1_12c, .slice y1_12q y1_12k y1_12d] := y1_12e
        have z13_ : sl ac 126 = .agg #[.bool y1_13b, .slice y1_13p y1_13n y1_13c, .slice y1_13q y1_13k y1_13d] := y1_13e
        have z14_ : sl ac 127 = .agg #[.bool y1_14b, .slice y1_14p y1_14n y1_14c, .slice y1_14q y1_14k y1_14d] := y1_14e
        have z15_ : sl ac 128 = .bool true := y1_15e
        have z16_ : sl ac 129 = .bool true := y1_16e
        have z17_ : sl ac 4 = .bool true := y1_17e
        rw [hM.ag.lay]
        simp only [lay, List.foldl_cons, List.foldl_nil, List.setIfInBounds_toArray, List.set_cons_zero, List.set_cons_succ, z0_, z1_, z2_, z3_, z4_, z5_, z6_, z7_, z8_, z9_, z10_, z11_, z12_, z13_, z14_, z15_, z16_, z17_]
        clear hM hkeep1 hob1 hne1 z0_ z1_ z2_ z3_ z4_ z5_ z6_ z7_ z8_ z9_ z10_ z11_ z12_ z13_ z14_ z15_ z16_ z17_ y1_0e y1_1e y1_2e y1_3e y1_4e y1_5e y1_6e y1_7e y1_8e y1_9e y1_10e y1_11e y1_12e y1_13e y1_14e y1_15e y1_16e y1_17e
        go_wp2_with fail
        go_ret
        exact ⟨rfl, e12_⟩

set_option maxHeartbeats 8000000 in
set_option maxRecDepth 100000 in
theorem permDrawn_over (w : World) (s : ByteArray) (hs : s.size ≤ maxLen) (n k : Nat) (hn : n < 256) (hk : n % 65 = k) (hb : okS s.data.toList = true) (h0 : 2 ≤ k) (b : Nat) (hd : drawsB s.data.toList k 0 = (none, b)) :
    Calls Tryz.prog 12 #[.string s, .int .u8 (n : Int)] w (Yes w) := by
  have HS := Lib.hid hs
  have n1 : (n : Int) ≤ 255 := by omega
  have hk1 : (n : Int) % 65 = (k : Int) := by omega
  have k1 : (k : Int) ≤ 64 := by omega
  have K64 : Hid (k ≤ 64) := by show k ≤ 64; omega
  clear hs hn hk
  have HB := Lib.hid hb
  have t1 : (s.size : Int) ≤ 1024 := by have := (okS_len hb).1; omega
  clear hb
  have HD := Lib.hid hd
  clear hd
  have KB : Hid (k < Bs) := by show k < Bs; rw [Bs_def]; omega
  have KB1 : Hid (k - 1 < Bs) := by have := KB.out; show k - 1 < Bs; omega
  have K641 : Hid (k - 1 ≤ 64) := by show k - 1 ≤ 64; omega
  have K1 : Hid (1 ≤ k) := by show 1 ≤ k; omega
  have K2 : Hid (2 ≤ k) := h0
  have k2 : (2 : Int) ≤ k := by omega
  obtain ⟨j, hj⟩ : ∃ j, k - 1 = j := ⟨_, rfl⟩
  have hw1 : IntKind.i64.wrap ((k : Int) - 1) = (j : Int) := by rw [IntWalk.i64_in _ (by omega)]; omega
  obtain ⟨q, hq⟩ : ∃ q, wid k = q := ⟨_, rfl⟩
  have HQ := Lib.hid hq
  have hq6 : q ≤ 6 := by rw [← hq, wid_le_iff (by omega)]; omega
  have HJ := Lib.hid hj
  have JB : Hid (j < Bs) := by have := KB1.out; rwa [hj] at this
  have J64 : Hid (j ≤ 64) := by have := K641.out; rwa [hj] at this
  have HPC : Hid (decide (pcostQ k - pcostQ j = costQ k) = true) := by
    show _ = _
    rw [decide_eq_true_eq, ← pcostQ_next h0, hj, Rat.add_comm, Rat.sub_eq_add_neg, Rat.add_assoc, Rat.add_neg_cancel, Rat.add_zero]
  clear hj hq h0
  go_enter Tryz.func12, Tryz.ntmps12
  go_wp2_with fail
  refine (cnew_ok s _ HS.out HB.out).mono ?_
  rintro e w1 ⟨cs1, rfl, cl1, cc1_, x1⟩
  have e1_ : Ext w w1 := Ext.trans (Ext.refl w) x1
  have b0_0 : Hid (At (cs1) 0 (.string s) w1) := cc1_.c0
  have b0_1 : Hid (At (cs1) 1 (.int .i64 ((0 : Nat) : Int)) w1) := cc1_.c1
  have b0_2 : Hid (At (cs1) 2 (.bool false) w1) := cc1_.c2
  have k0 := Lib.hid cc1_.bx
  have l0 := Lib.hid cl1
  have u0 := Lib.hid cc1_.bx.lt
  clear cl1 cc1_
  go_wp2_with fail
  refine (awake12_calls _).mono ?_
  rintro e w2 ⟨rfl, x2⟩
  have e2_ : Ext w w2 := Ext.trans e1_ x2
  go_wp2_with fail
  refine (pdraw_none (show Cur s (cs1) (0) false _ from ⟨(b0_0.out.ext x2), (b0_1.out.ext x2), (b0_2.out.ext x2), (k0.out.gr x2.gr)⟩) HB.out (Nat.zero_le _) k K1.out K64.out HD.out).mono ?_
  rintro e w3 ⟨rfl, mv3, cc3⟩
  have y3 : Gr w2 w3 := ((show Cur s (cs1) (0) false _ from ⟨(b0_0.out.ext x2), (b0_1.out.ext x2), (b0_2.out.ext x2), (k0.out.gr x2.gr)⟩)).mvgr mv3 cc3
  have t3 : Hid (∀ t o u, t ≠ (cs1) → At t o u w2 → At t o u w3) := fun t o u h k => mv3.at h k
  have e3_ : Ext w w3 := mv3.ext e2_ (Nat.le_trans (Nat.le_refl _) l0.out)
  have b0_0 : Hid (At (cs1) 0 (.string s) w3) := cc3.c0
  have b0_1 : Hid (At (cs1) 1 (.int .i64 ((b : Nat) : Int)) w3) := cc3.c1
  have b0_2 : Hid (At (cs1) 2 (.bool true) w3) := cc3.c2
  have k0 : Hid (Bx 3 (cs1) w3) := cc3.bx
  clear mv3 cc3
  go_wp2_with fail
  refine (cover_calls (show Cur s (cs1) (b) true _ from ⟨b0_0.out, b0_1.out, b0_2.out, k0.out⟩)).mono ?_
  rintro e w4 ⟨rfl, x4⟩
  have e4_ : Ext w w4 := Ext.trans e3_ x4
  go_wp2_with fail
  refine (pcost_is _ k K64.out).mono ?_
  rintro e w5 ⟨sb5, sv5, su5, sm5, sd5, rfl, e5, o5, x5⟩
  have e5_ : Ext w w5 := Ext.trans e4_ x5
  obtain ⟨sp5, sl5, sc5, tp5, tl5, tc5, rfl, rfl⟩ := e5.slice
  go_wp2_with fail
  obtain ⟨v6, hv6⟩ : ∃ W, W = (w5.alloc (.cells #[.bool sb5, .slice sp5 sl5 sc5, .slice tp5 tl5 tc5] 37)) := ⟨_, rfl⟩
  have y6 : Ext w5 v6 := by rw [hv6]; exact ((Ext.refl _).alloc _)
  have b1_0 : Hid (At (w5.heap.size) 0 (.bool sb5) v6) := by rw [hv6]; exact At.ext (At.n0 (by rfl)) (Ext.refl _)
  have b1_1 : Hid (At (w5.heap.size) 1 (.slice sp5 sl5 sc5) v6) := by rw [hv6]; exact At.ext (At.n0 (by rfl)) (Ext.refl _)
  have b1_2 : Hid (At (w5.heap.size) 2 (.slice tp5 tl5 tc5) v6) := by rw [hv6]; exact At.ext (At.n0 (by rfl)) (Ext.refl _)
  have k1 : Hid (Bx 3 (w5.heap.size) v6) := by rw [hv6]; exact Bx.gr (Bx.n0 3 ⟨rfl, by decide⟩ (by decide) noI_s3) (Ext.gr (Ext.refl _))
  have u1 : Hid (w5.heap.size < v6.heap.size) := b1_0.out.2
  have e6_ : Ext w v6 := Ext.trans e5_ y6
  rw [← hv6]
  clear hv6
  refine (pcost_is _ j J64.out).mono ?_
  rintro e w7 ⟨sb6, sv6, su6, sm6, sd6, rfl, e6, o6, x7⟩
  have e7_ : Ext w w7 := Ext.trans e6_ x7
  obtain ⟨sp6, sl6, sc6, tp6, tl6, tc6, rfl, rfl⟩ := e6.slice
  go_wp2_with fail
  obtain ⟨v8, hv8⟩ : ∃ W, W = (w7.alloc (.cells #[.bool sb6, .slice sp6 sl6 sc6, .slice tp6 tl6 tc6] 37)) := ⟨_, rfl⟩
  have y8 : Ext w7 v8 := by rw [hv8]; exact ((Ext.refl _).alloc _)
  have b2_0 : Hid (At (w7.heap.size) 0 (.bool sb6) v8) := by rw [hv8]; exact At.ext (At.n0 (by rfl)) (Ext.refl _)
  have b2_1 : Hid (At (w7.heap.size) 1 (.slice sp6 sl6 sc6) v8) := by rw [hv8]; exact At.ext (At.n0 (by rfl)) (Ext.refl _)
  have b2_2 : Hid (At (w7.heap.size) 2 (.slice tp6 tl6 tc6) v8) := by rw [hv8]; exact At.ext (At.n0 (by rfl)) (Ext.refl _)
  have k2 : Hid (Bx 3 (w7.heap.size) v8) := by rw [hv8]; exact Bx.gr (Bx.n0 3 ⟨rfl, by decide⟩ (by decide) noI_s3) (Ext.gr (Ext.refl _))
  have u2 : Hid (w7.heap.size < v8.heap.size) := b2_0.out.2
  have e8_ : Ext w v8 := Ext.trans e7_ y8
  rw [← hv8]
  clear hv8
  clear hw1
  go_loop [16] (fun v16 => ∃ i : Nat, v16 = .int .i64 (i : Int) ∧ i ≤ q) (fun v16 => 7 - (intOf v16).toNat)
  case atStart => exact ⟨0, rfl, Nat.zero_le _⟩
  case round =>
    obtain ⟨i, rfl, hiq⟩ := hrel
    obtain ⟨p, hp⟩ : ∃ p : Nat, 2 ^ i = p := ⟨_, rfl⟩
    have hi6 : (i : Int) ≤ 6 := by omega
    have hpi : (2 : Int) ^ i = (p : Int) := by rw [← hp]; simp
    have hp64 : p ≤ 64 := by rw [← hp]; exact Nat.le_trans (Nat.pow_le_pow_right (by decide) (show i ≤ 6 by omega)) (by decide)
    have hwp : IntKind.i64.wrap (2 ^ i) = (p : Int) := by rw [hpi, IntWalk.i64_in _ (by omega)]
    have hpk : p < k ↔ i < q := by have := wid_le_iff (k := k) (j := i) K1.out; rw [HQ.out, hp] at this; omega
    by_cases hc : p < k
    · have HI : Hid (i + 1 ≤ q) := hpk.1 hc
      clear hpk hp hpi
      go_wp2_with fail
      exact ⟨⟨i + 1, by go_num, HI.out⟩, by simp [intOf]; have := HI.out; omega⟩
    · have e : q = i := by have := fun h => hc (hpk.2 h); omega
      subst e
      have hc1 : k ≤ p := by omega
      have hqp : IntKind.i64.wrap ((q : Int) * 2 ^ q) = ((q * p : Nat) : Int) := by have h1 : q * p ≤ 6 * 64 := Nat.mul_le_mul hq6 hp64; rw [hpi, IntWalk.i64_in _ (by have h2 : (q : Int) * (p : Int) = ((q * p : Nat) : Int) := (by simp); omega)]; simp
      obtain ⟨z, hz⟩ : ∃ z : Nat, q * p = z := ⟨_, rfl⟩
      rw [hz] at hqp
      have z1 : z ≤ 384 := by rw [← hz]; exact Nat.mul_le_mul hq6 hp64
      have ZR : Hid ((-9223372036854775808 : Int) ≤ z ∧ (z : Int) ≤ 9223372036854775807) := ⟨by omega, by omega⟩
      have KR : Hid ((-9223372036854775808 : Int) ≤ k ∧ (k : Int) ≤ 9223372036854775807) := ⟨by omega, by omega⟩
      have KN : Hid ((k : Int) ≠ 0) := by show (k : Int) ≠ 0; omega
      have HC : Hid (Rat.divInt (z : Int) (k : Int) = costQ k) := by show _ = _; unfold costQ; rw [HQ.out, hp, hz]; exact Rat.divInt_ofNat _ _
      clear hpk hp hpi hz z1
      go_wp2_with fail
      refine (over_is (q := (costQ k)) _ (z : Int) (k : Int) ZR.out.1 ZR.out.2 KR.out.1 KR.out.2 KN.out HC.out).mono ?_
      rintro e w9 ⟨sb7, sv7, su7, sm7, sd7, rfl, e7, o7, x9⟩
      have e9_ : Ext w w9 := Ext.trans e8_ x9
      obtain ⟨sp7, sl7, sc7, tp7, tl7, tc7, rfl, rfl⟩ := e7.slice
      go_wp2_with fail
      obtain ⟨v10, hv10⟩ : ∃ W, W = (w9.alloc (.cells #[.bool sb7, .slice sp7 sl7 sc7, .slice tp7 tl7 tc7] 37)) := ⟨_, rfl⟩
      have y10 : Ext w9 v10 := by rw [hv10]; exact ((Ext.refl _).alloc _)
      have b3_0 : Hid (At (w9.heap.size) 0 (.bool sb7) v10) := by rw [hv10]; exact At.ext (At.n0 (by rfl)) (Ext.refl _)
      have b3_1 : Hid (At (w9.heap.size) 1 (.slice sp7 sl7 sc7) v10) := by rw [hv10]; exact At.ext (At.n0 (by rfl)) (Ext.refl _)
      have b3_2 : Hid (At (w9.heap.size) 2 (.slice tp7 tl7 tc7) v10) := by rw [hv10]; exact At.ext (At.n0 (by rfl)) (Ext.refl _)
      have k3 : Hid (Bx 3 (w9.heap.size) v10) := by rw [hv10]; exact Bx.gr (Bx.n0 3 ⟨rfl, by decide⟩ (by decide) noI_s3) (Ext.gr (Ext.refl _))
      have u3 : Hid (w9.heap.size < v10.heap.size) := b3_0.out.2
      have e10_ : Ext w v10 := Ext.trans e9_ y10
      rw [← hv10]
      clear hv10
      have hkeep1 : AllAt' ([(cs1, 0, .string s), (cs1, 1, .int .i64 ((b : Nat) : Int)), (cs1, 2, .bool true), (w5.heap.size, 0, .bool sb5), (w5.heap.size, 1, .slice sp5 sl5 sc5), (w5.heap.size, 2, .slice tp5 tl5 tc5), (w7.heap.size, 0, .bool sb6), (w7.heap.size, 1, .slice sp6 sl6 sc6), (w7.heap.size, 2, .slice tp6 tl6 tc6), (w9.heap.size, 0, .bool sb7), (w9.heap.size, 1, .slice sp7 sl7 sc7), (w9.heap.size, 2, .slice tp7 tl7 tc7)] : List (Nat × Nat × Value)) v10 := AllAt'.cons (b0_0.out.ext (x4.trans (x5.trans (y6.trans (x7.trans (y8.trans (x9.trans y10))))))) (AllAt'.cons (b0_1.out.ext (x4.trans (x5.trans (y6.trans (x7.trans (y8.trans (x9.trans y10))))))) (AllAt'.cons (b0_2.out.ext (x4.trans (x5.trans (y6.trans (x7.trans (y8.trans (x9.trans y10))))))) (AllAt'.cons (b1_0.out.ext (x7.trans (y8.trans (x9.trans y10)))) (AllAt'.cons (b1_1.out.ext (x7.trans (y8.trans (x9.trans y10)))) (AllAt'.cons (b1_2.out.ext (x7.trans (y8.trans (x9.trans y10)))) (AllAt'.cons (b2_0.out.ext (x9.trans y10)) (AllAt'.cons (b2_1.out.ext (x9.trans y10)) (AllAt'.cons (b2_2.out.ext (x9.trans y10)) (AllAt'.cons b3_0.out (AllAt'.cons b3_1.out (AllAt'.cons b3_2.out (AllAt'.nil _))))))))))))
      have hob1 : ObOk w.heap.size v10 (([(cs1, 0, .string s), (cs1, 1, .int .i64 ((b : Nat) : Int)), (cs1, 2, .bool true), (w5.heap.size, 0, .bool sb5), (w5.heap.size, 1, .slice sp5 sl5 sc5), (w5.heap.size, 2, .slice tp5 tl5 tc5), (w7.heap.size, 0, .bool sb6), (w7.heap.size, 1, .slice sp6 sl6 sc6), (w7.heap.size, 2, .slice tp6 tl6 tc6), (w9.heap.size, 0, .bool sb7), (w9.heap.size, 1, .slice sp7 sl7 sc7), (w9.heap.size, 2, .slice tp7 tl7 tc7)] : List (Nat × Nat × Value)).map (·.1)) ([] : List (Nat × List (Nat × Value))) := trivial
      have hne1 : AllNe (([] : List (Nat × List (Nat × Value))).map (·.1)) := trivial
      (try simp only [List.append_eq, List.cons_append, List.nil_append])
      refine wp_region_gen ⟨[113, 114, 115, 116, 117, 118, 119, 120, 121, 122, 123, 124, 125, 126, 127, 128, 129, 4], fun i => false, fun i => ([none, none, none, none, none, none, none, none, none, none, none, none, none, none, none, none, none, none] : List (Option (BoxRef × Nat))).getD i none, fun i => ([Sg.val (.int .i64 0), Sg.val (.bool true), Sg.val (.bool true), Sg.val (.int .i64 0), Sg.val (.bool true), Sg.val (.bool true), Sg.val (.bool true), Sg.val (.int .i64 0), Sg.val (.bool true), Sg.val (.bool true), Sg.val (.bool true), Sg.ratO w.heap.size (pcostQ k), Sg.ratO w.heap.size (pcostQ j), Sg.ratO w.heap.size ((pcostQ k) - (pcostQ j)), Sg.ratO w.heap.size (costQ k), Sg.val (.bool true), Sg.val (.bool true), Sg.val (.bool true)] : List Sg).getD i Sg.any, [(cs1, 0, .string s), (cs1, 1, .int .i64 ((b : Nat) : Int)), (cs1, 2, .bool true), (w5.heap.size, 0, .bool sb5), (w5.heap.size, 1, .slice sp5 sl5 sc5), (w5.heap.size, 2, .slice tp5 tl5 tc5), (w7.heap.size, 0, .bool sb6), (w7.heap.size, 1, .slice sp6 sl6 sc6), (w7.heap.size, 2, .slice tp6 tl6 tc6), (w9.heap.size, 0, .bool sb7), (w9.heap.size, 1, .slice sp7 sl7 sc7), (w9.heap.size, 2, .slice tp7 tl7 tc7)], []⟩ w.heap.size (by kernel_rfl) (by kernel_rfl) e10_.size ?hfr hkeep1 hob1 hne1 ?hs ?he
      case hfr =>
        intro i v wk hi hst hv
        exact absurd hi (by simp)
      case hs =>
        refine ⟨?_, ?_, ?_, ?_, ?_, ?_, ?_, ?_, ?_, ?_, ?_, ?_, ?_, ?_, ?_, ?_, ?_, ?_, trivial⟩
        · refine RStep.op rfl rfl (fun ac wk hp K hK => ?_)
          have t13_ : ac.tmps[13]?.getD undef = .int .i64 0 := hp.slot 13 rfl rfl
          have HP := Lib.hid hp
          clear hp
          go_simp
          refine hK.out _ _ ?_ (Ext.refl _) (fun h => absurd h (by simp))
          exact rfl
        · refine RStep.op rfl rfl (fun ac wk hp K hK => ?_)
          have u0e := hp.get 0 (by decide +kernel) rfl
          have t113_ : ac.tmps[113]?.getD undef = .int .i64 0 := slot_is' u0e
          have HP := Lib.hid hp
          clear hp
          go_simp
          refine hK.out _ _ ?_ (Ext.refl _) (fun h => absurd h (by simp))
          exact rfl
        · refine RStep.op rfl rfl (fun ac wk hp K hK => ?_)
          have u1e := hp.get 1 (by decide +kernel) rfl
          have t114_ : ac.tmps[114]?.getD undef = .bool true := slot_is' u1e
          have HP := Lib.hid hp
          clear hp
          go_simp
          refine hK.out _ _ ?_ (Ext.refl _) (fun h => absurd h (by simp))
          exact rfl
        · refine RStep.yes 2 true rfl rfl (by decide +kernel) rfl rfl (fun ac wk hp K hK => ?_)
          have t15_ : ac.tmps[15]?.getD undef = .int .i64 0 := hp.slot 15 rfl rfl
          have HP := Lib.hid hp
          clear hp
          go_simp
          refine hK.out _ _ ?_ (Ext.refl _) (fun h => absurd h (by simp))
          exact rfl
        · refine RStep.yes 2 true rfl rfl (by decide +kernel) rfl rfl (fun ac wk hp K hK => ?_)
          have u3e := hp.get 3 (by decide +kernel) rfl
          have t116_ : ac.tmps[116]?.getD undef = .int .i64 0 := slot_is' u3e
          have HP := Lib.hid hp
          clear hp
          go_simp
          refine hK.out _ _ ?_ (Ext.refl _) (fun h => absurd h (by simp))
          exact rfl
        · refine RStep.op rfl rfl (fun ac wk hp K hK => ?_)
          have u2e := hp.get 2 (by decide +kernel) rfl
          have t115_ : ac.tmps[115]?.getD undef = .bool true := slot_is' u2e
          have u4e := hp.get 4 (by decide +kernel) rfl
          have t117_ : ac.tmps[117]?.getD undef = .bool true := slot_is' u4e
          have HP := Lib.hid hp
          clear hp
          go_simp
          refine hK.out _ _ ?_ (Ext.refl _) (fun h => absurd h (by simp))
          exact rfl
        · refine RStep.op rfl rfl (fun ac wk hp K hK => ?_)
          have u5e := hp.get 5 (by decide +kernel) rfl
          have t118_ : ac.tmps[118]?.getD undef = .bool true := slot_is' u5e
          have HP := Lib.hid hp
          clear hp
          go_simp
          refine hK.out _ _ ?_ (Ext.refl _) (fun h => absurd h (by simp))
          exact rfl
        · refine RStep.yes 6 true rfl rfl (by decide +kernel) rfl rfl (fun ac wk hp K hK => ?_)
          have t18_ : ac.tmps[18]?.getD undef = .int .i64 0 := hp.slot 18 rfl rfl
          have HP := Lib.hid hp
          clear hp
          go_simp
          refine hK.out _ _ ?_ (Ext.refl _) (fun h => absurd h (by simp))
          exact rfl
        · refine RStep.yes 6 true rfl rfl (by decide +kernel) rfl rfl (fun ac wk hp K hK => ?_)
          have u7e := hp.get 7 (by decide +kernel) rfl
          have t120_ : ac.tmps[120]?.getD undef = .int .i64 0 := slot_is' u7e
          have HP := Lib.hid hp
          clear hp
          go_simp
          refine hK.out _ _ ?_ (Ext.refl _) (fun h => absurd h (by simp))
          exact rfl
        · refine RStep.op rfl rfl (fun ac wk hp K hK => ?_)
          have u6e := hp.get 6 (by decide +kernel) rfl
          have t119_ : ac.tmps[119]?.getD undef = .bool true := slot_is' u6e
          have u8e := hp.get 8 (by decide +kernel) rfl
          have t121_ : ac.tmps[121]?.getD undef = .bool true := slot_is' u8e
          have HP := Lib.hid hp
          clear hp
          go_simp
          refine hK.out _ _ ?_ (Ext.refl _) (fun h => absurd h (by simp))
          exact rfl
        · refine RStep.op rfl rfl (fun ac wk hp K hK => ?_)
          have u9e := hp.get 9 (by decide +kernel) rfl
          have t122_ : ac.tmps[122]?.getD undef = .bool true := slot_is' u9e
          have HP := Lib.hid hp
          clear hp
          go_simp
          refine hK.out _ _ ?_ (Ext.refl _) (fun h => absurd h (by simp))
          exact rfl
        · refine RStep.yes 10 true rfl rfl (by decide +kernel) rfl rfl (fun ac wk hp K hK => ?_)
          have t12_ : ac.tmps[12]?.getD undef = .pointer (some ⟨w5.heap.size, 0, none⟩) := hp.slot 12 rfl rfl
          have c0_ := hp.cell 3 rfl
          have c1_ := hp.cell 4 rfl
          have c2_ := hp.cell 5 rfl
          have HP := Lib.hid hp
          clear hp
          go_simp
          refine hK.out _ _ ?_ (Ext.refl _) (fun h => absurd h (by simp))
          exact ⟨_, _, _, _, _, _, _, _, _, rfl, (e5.gr ((y6.gr.trans (x7.gr.trans (y8.gr.trans (x9.gr.trans y10.gr)))).trans HP.out.gr)), ((o5.gr ((y6.gr.trans (x7.gr.trans (y8.gr.trans (x9.gr.trans y10.gr)))).trans HP.out.gr)).mono e4_.size)⟩
        · refine RStep.yes 10 true rfl rfl (by decide +kernel) rfl rfl (fun ac wk hp K hK => ?_)
          have t14_ : ac.tmps[14]?.getD undef = .pointer (some ⟨w7.heap.size, 0, none⟩) := hp.slot 14 rfl rfl
          have c0_ := hp.cell 6 rfl
          have c1_ := hp.cell 7 rfl
          have c2_ := hp.cell 8 rfl
          have HP := Lib.hid hp
          clear hp
          go_simp
          refine hK.out _ _ ?_ (Ext.refl _) (fun h => absurd h (by simp))
          exact ⟨_, _, _, _, _, _, _, _, _, rfl, (e6.gr ((y8.gr.trans (x9.gr.trans y10.gr)).trans HP.out.gr)), ((o6.gr ((y8.gr.trans (x9.gr.trans y10.gr)).trans HP.out.gr)).mono e6_.size)⟩
        · refine RStep.yes 10 true rfl rfl (by decide +kernel) rfl rfl (fun ac wk hp K hK => ?_)
          obtain ⟨u11b, u11p, u11n, u11c, u11q, u11k, u11d, u11m, u11l, u11e, u11i, u11o⟩ := hp.get 11 (by decide +kernel) rfl
          have t124_ : ac.tmps[124]?.getD undef = .agg #[.bool u11b, .slice u11p u11n u11c, .slice u11q u11k u11d] := slot_is' u11e
          obtain ⟨u12b, u12p, u12n, u12c, u12q, u12k, u12d, u12m, u12l, u12e, u12i, u12o⟩ := hp.get 12 (by decide +kernel) rfl
          have t125_ : ac.tmps[125]?.getD undef = .agg #[.bool u12b, .slice u12p u12n u12c, .slice u12q u12k u12d] := slot_is' u12e
          have HP := Lib.hid hp
          clear hp
          go_simp
          refine (rsub_is (u11i.inR (k := (3 * k + 1)) (pcostQ_len KB.out)) (u12i.inR (k := (3 * j + 1)) (pcostQ_len JB.out)) (by have := K64.out; have := J64.out; omega)).mono ?_
          rintro e wk' ⟨sb8, sv8, su8, sm8, sd8, rfl, e8, o8, ix⟩
          obtain ⟨sp8, sl8, sc8, tp8, tl8, tc8, rfl, rfl⟩ := e8.slice
          refine hK.out _ _ ?_ ix (fun h => absurd h (by simp))
          exact ⟨_, _, _, _, _, _, _, _, _, rfl, e8, (o8.mono (Nat.le_trans e10_.size HP.out.gr.size))⟩
        · refine RStep.yes 10 true rfl rfl (by decide +kernel) rfl rfl (fun ac wk hp K hK => ?_)
          have t17_ : ac.tmps[17]?.getD undef = .pointer (some ⟨w9.heap.size, 0, none⟩) := hp.slot 17 rfl rfl
          have c0_ := hp.cell 9 rfl
          have c1_ := hp.cell 10 rfl
          have c2_ := hp.cell 11 rfl
          have HP := Lib.hid hp
          clear hp
          go_simp
          refine hK.out _ _ ?_ (Ext.refl _) (fun h => absurd h (by simp))
          exact ⟨_, _, _, _, _, _, _, _, _, rfl, (e7.gr (y10.gr.trans HP.out.gr)), ((o7.gr (y10.gr.trans HP.out.gr)).mono e8_.size)⟩
        · refine RStep.yes 10 true rfl rfl (by decide +kernel) rfl rfl (fun ac wk hp K hK => ?_)
          obtain ⟨u13b, u13p, u13n, u13c, u13q, u13k, u13d, u13m, u13l, u13e, u13i, u13o⟩ := hp.get 13 (by decide +kernel) rfl
          have t126_ : ac.tmps[126]?.getD undef = .agg #[.bool u13b, .slice u13p u13n u13c, .slice u13q u13k u13d] := slot_is' u13e
          obtain ⟨u14b, u14p, u14n, u14c, u14q, u14k, u14d, u14m, u14l, u14e, u14i, u14o⟩ := hp.get 14 (by decide +kernel) rfl
          have t127_ : ac.tmps[127]?.getD undef = .agg #[.bool u14b, .slice u14p u14n u14c, .slice u14q u14k u14d] := slot_is' u14e
          have HP := Lib.hid hp
          clear hp
          go_simp
          refine (rsame_calls (u13i.inR (k := ((3 * k + 1) + (3 * j + 1) + 1)) (LenR.sub (pcostQ_len KB.out) (pcostQ_len JB.out))) (u14i.inR (k := 2) (costQ_len KB.out)) (by have := K64.out; have := J64.out; omega) true HPC.out).mono ?_
          rintro e wk' ⟨rfl, ix⟩
          refine hK.out _ _ ?_ ix (fun h => absurd h (by simp))
          exact rfl
        · refine RStep.op rfl rfl (fun ac wk hp K hK => ?_)
          have u10e := hp.get 10 (by decide +kernel) rfl
          have t123_ : ac.tmps[123]?.getD undef = .bool true := slot_is' u10e
          have u15e := hp.get 15 (by decide +kernel) rfl
          have t128_ : ac.tmps[128]?.getD undef = .bool true := slot_is' u15e
          have HP := Lib.hid hp
          clear hp
          go_simp
          refine hK.out _ _ ?_ (Ext.refl _) (fun h => absurd h (by simp))
          exact rfl
        · refine RStep.op rfl rfl (fun ac wk hp K hK => ?_)
          have u16e := hp.get 16 (by decide +kernel) rfl
          have t129_ : ac.tmps[129]?.getD undef = .bool true := slot_is' u16e
          have HP := Lib.hid hp
          clear hp
          go_simp
          refine hK.out _ _ ?_ (Ext.refl _) (fun h => absurd h (by simp))
          exact rfl
      case he =>
        intro ac v11 hM
        have y1_0e := hM.post 0 rfl rfl
        have y1_1e := hM.post 1 rfl rfl
        have y1_2e := hM.post 2 rfl rfl
        have y1_3e := hM.post 3 rfl rfl
        have y1_4e := hM.post 4 rfl rfl
        have y1_5e := hM.post 5 rfl rfl
        have y1_6e := hM.post 6 rfl rfl
        have y1_7e := hM.post 7 rfl rfl
        have y1_8e := hM.post 8 rfl rfl
        have y1_9e := hM.post 9 rfl rfl
        have y1_10e := hM.post 10 rfl rfl
        obtain ⟨y1_11b, y1_11p, y1_11n, y1_11c, y1_11q, y1_11k, y1_11d, y1_11m, y1_11l, y1_11e, y1_11i, y1_11o⟩ := hM.post 11 rfl rfl
        obtain ⟨y1_12b, y1_12p, y1_12n, y1_12c, y1_12q, y1_12k, y1_12d, y1_12m, y1_12l, y1_12e, y1_12i, y1_12o⟩ := hM.post 12 rfl rfl
        obtain ⟨y1_13b, y1_13p, y1_13n, y1_13c, y1_13q, y1_13k, y1_13d, y1_13m, y1_13l, y1_13e, y1_13i, y1_13o⟩ := hM.post 13 rfl rfl
        obtain ⟨y1_14b, y1_14p, y1_14n, y1_14c, y1_14q, y1_14k, y1_14d, y1_14m, y1_14l, y1_14e, y1_14i, y1_14o⟩ := hM.post 14 rfl rfl
        have y1_15e := hM.post 15 rfl rfl
        have y1_16e := hM.post 16 rfl rfl
        have y1_17e := hM.post 17 rfl rfl
        have b0_0 : Hid (At (cs1) 0 (.string s) v11) := Lib.hid (hM.keep.at 0 rfl)
        have b0_1 : Hid (At (cs1) 1 (.int .i64 ((b : Nat) : Int)) v11) := Lib.hid (hM.keep.at 1 rfl)
        have b0_2 : Hid (At (cs1) 2 (.bool true) v11) := Lib.hid (hM.keep.at 2 rfl)
        have b1_0 : Hid (At (w5.heap.size) 0 (.bool sb5) v11) := Lib.hid (hM.keep.at 3 rfl)
        have b1_1 : Hid (At (w5.heap.size) 1 (.slice sp5 sl5 sc5) v11) := Lib.hid (hM.keep.at 4 rfl)
        have b1_2 : Hid (At (w5.heap.size) 2 (.slice tp5 tl5 tc5) v11) := Lib.hid (hM.keep.at 5 rfl)
        have b2_0 : Hid (At (w7.heap.size) 0 (.bool sb6) v11) := Lib.hid (hM.keep.at 6 rfl)
        have b2_1 : Hid (At (w7.heap.size) 1 (.slice sp6 sl6 sc6) v11) := Lib.hid (hM.keep.at 7 rfl)
        have b2_2 : Hid (At (w7.heap.size) 2 (.slice tp6 tl6 tc6) v11) := Lib.hid (hM.keep.at 8 rfl)
        have b3_0 : Hid (At (w9.heap.size) 0 (.bool sb7) v11) := Lib.hid (hM.keep.at 9 rfl)
        have b3_1 : Hid (At (w9.heap.size) 1 (.slice sp7 sl7 sc7) v11) := Lib.hid (hM.keep.at 10 rfl)
        have b3_2 : Hid (At (w9.heap.size) 2 (.slice tp7 tl7 tc7) v11) := Lib.hid (hM.keep.at 11 rfl)
        have gv11 : Gr v10 v11 := hM.gr
        have e11_ : Ext w v11 := Ext.below e10_ hM.blw
        have z0_ : sl ac 113 = .int .i64 0 := y1_0e
        have z1_ : sl ac 114 = .bool true := y1_1e
        have z2_ : sl ac 115 = .bool true := y1_2e
        have z3_ : sl ac 116 = .int .i64 0 := y1_3e
        have z4_ : sl ac 117 = .bool true := y1_4e
        have z5_ : sl ac 118 = .bool true := y1_5e
        have z6_ : sl ac 119 = .bool true := y1_6e
        have z7_ : sl ac 120 = .int .i64 0 := y1_7e
        have z8_ : sl ac 121 = .bool true := y1_8e
        have z9_ : sl ac 122 = .bool true := y1_9e
        have z10_ : sl ac 123 = .bool true := y1_10e
        have z11_ : sl ac 124 = .agg #[.bool y1_11b, .slice y1_11p y1_11n y1_11c, .slice y1_11q y1_11k y1_11d] := y1_11e
        have z12_ : sl ac 125 = .agg #[.bool y1_12b, .slice y1_12p y1_12n y1_12c, .slice y1_12q y1_12k y1_12d] := y1_12e
        have z13_ : sl ac 126 = .agg #[.bool y1_13b, .slice y1_13p y1_13n y1_13c, .slice y1_13q y1_13k y1_13d] := y1_13e
        have z14_ : sl ac 127 = .agg #[.bool y1_14b, .slice y1_14p y1_14n y1_14c, .slice y1_14q y1_14k y1_14d] := y1_14e
        have z15_ : sl ac 128 = .bool true := y1_15e
        have z16_ : sl ac 129 = .bool true := y1_16e
        have z17_ : sl ac 4 = .bool true := y1_17e
        rw [hM.ag.lay]
        simp only [lay, List.foldl_cons, List.foldl_nil, List.setIfInBounds_toArray, List.set_cons_zero, List.set_cons_succ, z0_, z1_, z2_, z3_, z4_, z5_, z6_, z7_, z8_, z9_, z10_, z11_, z12_, z13_, z14_, z15_, z16_, z17_]
        clear hM hkeep1 hob1 hne1 z0_ z1_ z2_ z3_ z4_ z5_ z6_ z7_ z8_ z9_ z10_ z11_ z12_ z13_ z14_ z15_ z16_ z17_ y1_0e y1_1e y1_2e y1_3e y1_4e y1_5e y1_6e y1_7e y1_8e y1_9e y1_10e y1_11e y1_12e y1_13e y1_14e y1_15e y1_16e y1_17e
        go_wp2_with fail
        go_ret
        exact ⟨rfl, e11_⟩

theorem permDrawn_calls (w : World) (s : ByteArray) (hs : s.size ≤ maxLen) (n : Nat) (hn : n < 256) :
    Calls Tryz.prog 12 #[.string s, .int .u8 (n : Int)] w (Yes w) := by
  cases hb : okS s.data.toList with
  | false =>
    rcases Nat.lt_or_ge 2000 s.size with h | h
    · exact permDrawn_long w s hs n _ hn rfl h hb
    · exact permDrawn_form w s hs n _ hn rfl h hb
  | true =>
    obtain ⟨k, hk⟩ : ∃ k, n % 65 = k := ⟨_, rfl⟩
    rcases Nat.lt_or_ge k 2 with h | h
    · rcases Nat.eq_zero_or_pos k with h0 | h0
      · exact permDrawn_none w s hs n k hn hk hb h0
      · exact permDrawn_one w s hs n k hn hk hb (by omega)
    · rcases hd : drawsB s.data.toList k 0 with ⟨_ | vs, b⟩
      · exact permDrawn_over w s hs n k hn hk hb h b hd
      · exact permDrawn_some w s hs n k hn hk hb h vs b hd
end Go.Proofs.YtkfioaoooodmnaaGreatDoor
