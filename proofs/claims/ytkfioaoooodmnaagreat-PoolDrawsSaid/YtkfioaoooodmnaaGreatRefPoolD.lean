/- The reference's Draw of chapter 13. -/
import Derived.Test.YtkfioaoooodmnaaGreatPartJ
import Derived.Test.YtkfioaoooodmnaaGreatRefPool
import Derived.Test.YtkfioaoooodmnaaGreatRefDraw
namespace Go.Proofs.YtkfioaoooodmnaaGreat
open Go Go.RowKit

theorem OwnI.mvo {ty : TypeId} {B t : Nat} {w w' : World} {v : Value} {L : List Int} (h : OwnI ty B w v L) (m : Mv t w w') (hB : t < B) : OwnI ty B w' v L := by
  rcases h with ⟨h1, h2⟩ | ⟨a, e1, e2, e3, h4⟩
  · refine .inl ⟨h1, ?_⟩
    rcases h2 with h2 | ⟨g, cap, cur, e, hg, hh, rest⟩
    · exact .inl h2
    · exact .inr ⟨g, cap, cur, e, hg, by rw [m.oth g (Array.getElem?_eq_some_iff.1 hh).1 (by omega)]; exact hh, rest⟩
  · exact .inr ⟨a, e1, e2, e3, fun p hp => ⟨(h4 p hp).1, Nat.lt_of_lt_of_le (h4 p hp).2 m.size⟩⟩
/-- in the midst of the loop over the numbers -/
structure NuMem (S : ByteArray) (w : World) (t a : Nat) (out : List Nat) (v : Value) (wr : World) : Prop where
  row : wr.ownsRow w.heap.size 3 1 v (intsU out).length ((intsU out).map zv)
  mv : Mv t w wr
  cur : Cur S t a false wr
  lt : t < w.heap.size
theorem NuMem.move {S : ByteArray} {w : World} {t a a' : Nat} {out : List Nat} {v : Value} {wr w1 : World} (h : NuMem S w t a out v wr) (m : Mv t wr w1) (c : Cur S t a' false w1) : NuMem S w t a' out v w1 := by
  refine ⟨?_, h.mv.trans m, c, h.lt⟩
  obtain ⟨h1, h2⟩ := h.row
  refine ⟨h1, ?_⟩
  rcases h2 with h2 | ⟨g, cap, cur, e, hg, hh, rest⟩
  · exact .inl h2
  · exact .inr ⟨g, cap, cur, e, hg, by rw [m.oth g (Array.getElem?_eq_some_iff.1 hh).1 (by have := h.lt; omega)]; exact hh, rest⟩
theorem Mv.grown' {t : Nat} {w wr w' : World} {row : Option Nat} (h : Mv t w wr) (ht : t ≤ w.heap.size) (hg : wr.grownBy w' row) (hr : ∀ k, row = some k → w.heap.size ≤ k) : Mv t w w' :=
  ⟨Below.grown h.blw hg (Nat.le_trans ht h.size) (fun k hk => Nat.le_trans ht (hr k hk)), fun b hb hn => (hg.block b (Nat.lt_of_lt_of_le hb h.size) (fun e => by have := hr b e.symm; omega)).trans (h.oth b hb hn)⟩
theorem Cur.grown' {S : ByteArray} {s a : Nat} {ov : Bool} {w w' : World} {row : Option Nat} (h : Cur S s a ov w) (hg : w.grownBy w' row) (hr : ∀ k, row = some k → s < k) : Cur S s a ov w' :=
  ⟨h.c0.grown hg hr, h.c1.grown hg hr, h.c2.grown hg hr, h.bx.grown hg hr⟩
theorem NuMem.grow {S : ByteArray} {w : World} {t a d : Nat} {out : List Nat} {v v' : Value} {wr w1 w' : World} (h : NuMem S w t a out v wr) (k : Ext wr w1) {C : List Value} (h1 : w'.ownsRow w.heap.size 3 1 v' ((intsU out).length + 1) ((intsU out).map zv ++ C)) (hC : C = [zv (d : Int)]) (hg : w1.grownBy w' v.ownBlock) :
    NuMem S w t a (out ++ [d]) v' w' := by
  subst hC
  have e : intsU (out ++ [d]) = intsU out ++ [(d : Int)] := by simp [intsU]
  have hr : ∀ b, v.ownBlock = some b → w.heap.size ≤ b := fun b hb => (h.row.lt b hb).1
  refine ⟨?_, (h.mv.tail' k (Nat.le_of_lt h.cur.lt)).grown' (Nat.le_of_lt h.lt) hg hr, (h.cur.ext k).grown' hg (fun b hb => Nat.lt_of_lt_of_le h.lt (hr b hb)), h.lt⟩
  rw [e, List.length_append, List.map_append]; exact h1

set_option maxHeartbeats 4000000 in
set_option maxRecDepth 100000 in
theorem rpl_up {S : ByteArray} {t a b : Nat} {w : World} {p : Option (List Nat)} (hc : Cur S t a false w) (ho : okS S.data.toList = true) (ha : a ≤ S.size) (k n : Nat) (hkn : k ≤ n) (hn : n ≤ 64) (hd : upB S.data.toList (n - k) k a = (p, b)) :
    Calls Tryz.prog 15 #[.pointer (some ⟨t, 0, none⟩), .int .i64 (k : Int), .int .i64 (n : Int)] w (RetUp S t b k p w) := by
  have HC := Lib.hid hc
  have HO := Lib.hid ho
  have HA := Lib.hid ha
  have HSZ : Hid (S.size = S.data.toList.length) := Lib.size_eq S
  obtain ⟨m, hm⟩ : ∃ m, n - k = m := ⟨_, rfl⟩
  rw [hm] at hd
  have HD := Lib.hid hd
  have KM : Hid (k + m = n) := by show _ = _; omega
  have MK : Hid (n - k = m) := hm
  have KN := Lib.hid hkn
  have N64 := Lib.hid hn
  have k1 : (k : Int) ≤ n := by omega
  have n1 : (n : Int) ≤ 64 := by omega
  have MAY : Hid (decide (mayP (k : Int) (n : Int)) = true) := by show _ = _; rw [decide_eq_true_eq]; unfold mayP; omega
  clear hc ho hd ha hkn hn hm
  go_enter Tryz.func15, Tryz.ntmps15
  go_wp2_with fail
  refine (rmay13_calls _ _ _ true MAY.out).mono ?_
  rintro e w1 ⟨rfl, x1⟩
  have X1 := Lib.hid x1
  clear x1
  go_wp2_with fail
  have P0 : Hid (NuMem S w1 t a [] (.slice none 0 0) w1) := ⟨World.ownsRow_nil .., Mv.refl _ _, HC.out.ext X1.out, (HC.out.ext X1.out).lt⟩
  go_loopw [8, 9] (fun v8 v9 wr => ∃ (i c : Nat) (out : List Nat), v9 = .int .i64 ((k + i : Nat) : Int) ∧ i ≤ m ∧ c ≤ S.size ∧ Hid (upB S.data.toList m k a = preU out (upB S.data.toList (m - i) (k + i) c) ∧ out.length = i) ∧ NuMem S w1 t c out v8 wr) (fun _ v9 _ => n - (intOf v9).toNat)
  case atStart => exact ⟨0, a, [], rfl, Nat.zero_le _, HA.out, ⟨(preU_nil _).symm, rfl⟩, P0.out⟩
  case round =>
    obtain ⟨i, c, out, rfl, him, hcS, hp, hP⟩ := hrel
    have PM := Lib.hid hP
    have HCS := Lib.hid hcS
    obtain ⟨va, vc, rfl⟩ := row_sliceI hP.row
    have MVX : Hid (Mv t w wr) := (X1.out.mv (Nat.le_of_lt HC.out.lt)).trans hP.mv
    clear hP hcS
    by_cases hi : i < m
    · obtain ⟨j, hj⟩ : ∃ j, m - i = j + 1 := ⟨m - i - 1, by omega⟩
      obtain ⟨M, hM⟩ : ∃ M, k + i + 1 = M := ⟨_, rfl⟩
      obtain ⟨z, hz⟩ : ∃ z, k + i = z := ⟨_, rfl⟩
      obtain ⟨x, y, c', hdr⟩ := drawIs S.data.toList (k + i + 1) c
      have hx := hdr.lt (by omega)
      have hle := hdr.le (by rw [← HSZ.out]; exact HCS.out)
      have hkm := KM.out
      have hn64 := N64.out
      have hwM : IntKind.i64.wrap ((z : Int) + 1) = (M : Int) := by rw [IntWalk.i64_in _ (by omega)]; omega
      have hMz : (M : Int) = ((k + (i + 1) : Nat) : Int) := by omega
      have hM1 : (M : Int) ≤ 64 := by omega
      have hx1 : (x : Int) ≤ 64 := by omega
      have hzn : z < n := by omega
      have MB : Hid (M < Bs) := by show M < Bs; rw [Bs_def]; omega
      have M1 : Hid (1 ≤ M) := by show 1 ≤ M; omega
      have HDR : Hid (DrawIs S.data.toList M c x y c') := by rw [← hM]; exact hdr
      have LT : Hid (i + 1 ≤ m) := hi
      have HMK := Lib.hid hMz
      have HZ := Lib.hid hz
      rw [hz]
      cases y
      case false =>
        have HE : Hid (p = none ∧ b = c') := by
          have e := hp.out.1
          rw [hj, upB_no hdr, HD.out] at e
          injection e with e1 e2
          exact ⟨e1, e2⟩
        obtain ⟨e1, e2⟩ := HE.out
        subst e1 e2
        clear hdr hle hj hM hx hp hz hkm hn64 hi him HE hMz
        go_wp2_with fail
        refine (rdraw_ok PM.out.cur HO.out HCS.out M MB.out M1.out HDR.out).mono ?_
        rintro e w6 ⟨rfl, mv6, d6⟩
        have D6 := Lib.hid d6
        have MV6 := Lib.hid (MVX.out.trans mv6)
        clear mv6 d6 hwM
        go_wp2_with fail
        go_ret2
        exact RetPl.none (y := false) rfl MV6.out D6.out
      have HREL : Hid (upB S.data.toList m k a = preU (out ++ [x]) (upB S.data.toList (m - (i + 1)) (k + (i + 1)) c') ∧ (out ++ [x]).length = i + 1) := by
        refine ⟨?_, by simp [hp.out.2]⟩
        rw [hp.out.1, hj, upB_yes hdr, preU_app, show m - (i + 1) = j by omega]
        rfl
      have HCS' : Hid (c' ≤ S.size) := by show _ ≤ _; rw [HSZ.out]; exact hle.2
      have HLN : Hid ((intsU out).length + [((x : Nat) : Int)].length ≤ 100000) := by show _ ≤ 100000; rw [intsU_length, hp.out.2]; simp; omega
      clear hdr hle hj hM hx hp hz hkm hn64 hi him hMz
      go_wp2_with fail
      refine (rdraw_ok PM.out.cur HO.out HCS.out M MB.out M1.out HDR.out).mono ?_
      rintro e w6 ⟨rfl, mv6, d6⟩
      have PM6 := Lib.hid (PM.out.move mv6 d6)
      have HEX := Lib.hid ((Ext.refl w6).alloc (.cells #[.int .i64 (x : Int)] 3))
      have HRW := Lib.hid (ownsRow_ext' PM6.out.row HEX.out)
      have HBS : Hid (w1.heap.size ≤ (w6.alloc (.cells #[.int .i64 (x : Int)] 3)).heap.size) := Nat.le_trans PM6.out.mv.size HEX.out.size
      clear mv6 d6
      go_wp2_with (at_builtin; refine append_ints rfl _ _ 43 3 Tryz.underlying43 info_int rfl w1.heap.size _ _ _ rfl HRW.out HBS.out _ [(x : Int)] rfl (ints_lit w6 [(x : Int)] _ rfl 1 rfl (by simp)) HLN.out ?_; intro v' w' hown' hgrow; have HN2 := Lib.hid (PM6.out.grow HEX.out hown' rfl hgrow); clear hown' hgrow)
      rw [HMK.out]
      exact ⟨⟨i + 1, c', out ++ [x], by first | rfl | go_num, LT.out, HCS'.out, HREL.out, HN2.out⟩, by simp [intOf]; have := HZ.out; omega⟩
    · have ei : i = m := by omega
      subst ei
      have HE : Hid (p = some out ∧ b = c) := by
        have e := hp.out.1
        rw [Nat.sub_self, HD.out] at e
        simp only [upB, preU, List.append_nil] at e
        injection e with e1 e2
        exact ⟨e1, e2⟩
      obtain ⟨e1, e2⟩ := HE.out
      subst e1 e2
      have hok := upB_ok i k a HD.out
      have OKJ := Lib.hid hok.2
      have OL := Lib.hid hok.1
      have JL : Hid ((intsU out).length = n - k) := by show _ = _; rw [intsU_length, OL.out, MK.out]
      have ROW : Hid (Ints wr (.slice va (intsU out).length vc) (intsU out)) := Own.sl (.inl PM.out.row)
      have DX := Lib.hid PM.out.cur
      have hzn : (n : Int) ≤ ((k + i : Nat) : Int) := by have := KM.out; omega
      obtain ⟨z, hz⟩ : ∃ z, k + i = z := ⟨_, rfl⟩
      rw [hz] at hzn ⊢
      clear hp hok hi him HE hz PM
      go_wp2_with fail
      refine (rrow13_ok ROW.out k n KN.out N64.out JL.out OKJ.out).mono ?_
      rintro e w6 ⟨r6, rfl, o6, x6⟩
      have O6 : Hid (OwnZ 3 w.heap.size w6 r6 (poolF k (intsU out))) := ⟨o6.1.mono MVX.out.size, o6.2⟩
      have D6 := Lib.hid (DX.out.ext x6)
      have MV6 := Lib.hid (MVX.out.tail' x6 (Nat.le_of_lt DX.out.lt))
      clear o6 x6
      go_wp2_with fail
      go_ret2
      exact ⟨_, rfl, O6.out, MV6.out, D6.out⟩

set_option maxHeartbeats 4000000 in
set_option maxRecDepth 100000 in
theorem rpl_bad (w : World) (v : Value) (k n : Int) (h : ¬ mayP k n) :
    Calls Tryz.prog 15 #[v, .int .i64 k, .int .i64 n] w fun e w' => e = .returned (.tuple #[.slice none 0 0, .bool false]) ∧ Ext w w' := by
  have MAY : Hid (decide (mayP k n) = false) := by show _ = _; rw [decide_eq_false_iff_not]; exact h
  clear h
  go_enter Tryz.func15, Tryz.ntmps15
  go_wp2_with fail
  refine (rmay13_calls _ _ _ false MAY.out).mono ?_
  rintro e w1 ⟨rfl, x1⟩
  have X1 := Lib.hid x1
  clear x1
  go_wp2_with fail
  go_ret2
  exact ⟨rfl, X1.out⟩

set_option maxHeartbeats 4000000 in
set_option maxRecDepth 100000 in
theorem rpl_full (w : World) (v : Value) (n : Nat) (hn : n ≤ 64) :
    Calls Tryz.prog 15 #[v, .int .i64 (n : Int), .int .i64 (n : Int)] w fun e w' => ∃ r, e = .returned (.tuple #[r, .bool true]) ∧ OwnZ 3 w.heap.size w' r (poolF n []) ∧ Ext w w' := by
  have N64 := Lib.hid hn
  have t2 : (n : Int) ≤ 64 := by omega
  have MAY : Hid (decide (mayP (n : Int) (n : Int)) = true) := by show _ = _; rw [decide_eq_true_eq]; unfold mayP; omega
  clear hn
  go_enter Tryz.func15, Tryz.ntmps15
  go_wp2_with fail
  refine (rmay13_calls _ _ _ true MAY.out).mono ?_
  rintro e w1 ⟨rfl, x1⟩
  have X1 := Lib.hid x1
  clear x1
  go_wp2_with fail
  refine wp_loop_rounds 1 ?_
  rw [rounds_succ]
  go_wp2_with fail
  refine (rrow13_ok (Ints.nil _) n n (Nat.le_refl _) N64.out (by simp) trivial).mono ?_
  rintro e w5 ⟨r5, rfl, o5, x5⟩
  have O5 : Hid (OwnZ 3 w.heap.size w5 r5 (poolF n [])) := ⟨o5.1.mono X1.out.size, o5.2⟩
  have X5 := Lib.hid (X1.out.trans x5)
  clear o5 x5
  go_wp2_with fail
  go_ret2
  exact ⟨_, rfl, O5.out, X5.out⟩

set_option maxHeartbeats 4000000 in
set_option maxRecDepth 100000 in
theorem rpl_over {S : ByteArray} {t a : Nat} {w : World} (hc : Cur S t a true w) (k n : Nat) (hkn : k < n) (hn : n ≤ 64) :
    Calls Tryz.prog 15 #[.pointer (some ⟨t, 0, none⟩), .int .i64 (k : Int), .int .i64 (n : Int)] w fun e w' => e = .returned (.tuple #[.slice none 0 0, .bool false]) ∧ Ext w w' := by
  have HC := Lib.hid hc
  obtain ⟨M, hM⟩ : ∃ M, k + 1 = M := ⟨_, rfl⟩
  have t1 : (k : Int) + 1 ≤ n := by omega
  have t2 : (n : Int) ≤ 64 := by omega
  have t5 : (M : Int) ≤ 64 := by omega
  have MB : Hid (M < Bs) := by show M < Bs; rw [Bs_def]; omega
  have M1 : Hid (1 ≤ M) := by show 1 ≤ M; omega
  have MAY : Hid (decide (mayP (k : Int) (n : Int)) = true) := by show _ = _; rw [decide_eq_true_eq]; unfold mayP; omega
  have hwM : IntKind.i64.wrap ((k : Int) + 1) = (M : Int) := by rw [IntWalk.i64_in _ (by omega)]; omega
  clear hc hkn hn hM
  go_enter Tryz.func15, Tryz.ntmps15
  go_wp2_with fail
  refine (rmay13_calls _ _ _ true MAY.out).mono ?_
  rintro e w1 ⟨rfl, x1⟩
  have X1 := Lib.hid x1
  clear x1
  go_wp2_with fail
  refine wp_loop_rounds 1 ?_
  rw [rounds_succ]
  go_wp2_with fail
  refine (rdraw_over (HC.out.ext X1.out) M MB.out M1.out).mono ?_
  rintro e w3 ⟨rfl, x3⟩
  have X3 := Lib.hid (X1.out.trans x3)
  clear x3
  go_wp2_with fail
  go_ret2
  exact ⟨rfl, X3.out⟩

theorem rpl_all {S : ByteArray} {t a a' : Nat} {ov ov' y : Bool} {w : World} {L : List Int} (hc : Cur S t a ov w) (ho : okS S.data.toList = true) (ha : a ≤ S.size) (k n : Int) (hr : plRes S.data.toList k n a ov = (L, y, a', ov')) :
    Calls Tryz.prog 15 #[.pointer (some ⟨t, 0, none⟩), .int .i64 k, .int .i64 n] w (RetPl S t a' L y ov' w) := by
  have hm : ∀ {w'}, Ext w w' → Mv t w w' := fun h => h.mv (Nat.le_of_lt hc.lt)
  unfold plRes at hr
  split at hr
  · rename_i h
    obtain ⟨rfl, rfl, rfl, rfl⟩ : L = [] ∧ y = false ∧ a' = a ∧ ov' = ov := by simp only [Prod.mk.injEq] at hr; exact ⟨hr.1.symm, hr.2.1.symm, hr.2.2.1.symm, hr.2.2.2.symm⟩
    exact (rpl_bad w _ k n h).mono fun e w' ⟨h1, h2⟩ => .none h1 (hm h2) (hc.ext h2)
  rename_i h
  have h := Decidable.of_not_not h
  have h' := h
  unfold mayP at h'
  obtain ⟨kk, rfl⟩ : ∃ kk : Nat, k = (kk : Int) := ⟨k.toNat, by omega⟩
  obtain ⟨nn, rfl⟩ : ∃ nn : Nat, n = (nn : Int) := ⟨n.toNat, by omega⟩
  split at hr
  · rename_i e
    have e : kk = nn := by omega
    subst e
    obtain ⟨rfl, rfl, rfl, rfl⟩ : L = poolF kk [] ∧ y = true ∧ a' = a ∧ ov' = ov := by simp only [Prod.mk.injEq] at hr; exact ⟨hr.1.symm, hr.2.1.symm, hr.2.2.1.symm, hr.2.2.2.symm⟩
    exact (rpl_full w _ kk (by omega)).mono fun e w' ⟨r, h1, h2, h3⟩ => ⟨r, h1, h2, hm h3, hc.ext h3⟩
  split at hr
  · rename_i e; subst e
    obtain ⟨rfl, rfl, rfl, rfl⟩ : L = [] ∧ y = false ∧ a' = a ∧ ov' = true := by simp only [Prod.mk.injEq] at hr; exact ⟨hr.1.symm, hr.2.1.symm, hr.2.2.1.symm, hr.2.2.2.symm⟩
    exact (rpl_over hc kk nn (by omega) (by omega)).mono fun e w' ⟨h1, h2⟩ => .none h1 (hm h2) (hc.ext h2)
  rename_i e
  obtain rfl : ov = false := by simpa using e
  simp only [Int.toNat_natCast] at hr
  rcases hq : upB S.data.toList (nn - kk) kk a with ⟨_ | vs, b⟩
  · rw [hq] at hr
    obtain ⟨rfl, rfl, rfl, rfl⟩ : L = [] ∧ y = false ∧ a' = b ∧ ov' = true := by simp only [Prod.mk.injEq] at hr; exact ⟨hr.1.symm, hr.2.1.symm, hr.2.2.1.symm, hr.2.2.2.symm⟩
    exact rpl_up hc ho ha kk nn (by omega) (by omega) hq
  · rw [hq] at hr
    obtain ⟨rfl, rfl, rfl, rfl⟩ : L = poolF kk (intsU vs) ∧ y = true ∧ a' = b ∧ ov' = false := by simp only [Prod.mk.injEq] at hr; exact ⟨hr.1.symm, hr.2.1.symm, hr.2.2.1.symm, hr.2.2.2.symm⟩
    exact rpl_up hc ho ha kk nn (by omega) (by omega) hq
end Go.Proofs.YtkfioaoooodmnaaGreat
