/- The reference's Draw. -/
import Derived.Test.YtkfioaoooodmnaaGreatDoorRefPerm
namespace Go.Proofs.YtkfioaoooodmnaaGreatDoor
open Go Go.RowKit

set_option maxHeartbeats 4000000 in
set_option maxRecDepth 100000 in
theorem rpdraw_some {S : ByteArray} {t a b : Nat} {w : World} {vs : List Nat} (hc : Cur S t a false w) (ho : okS S.data.toList = true) (ha : a ≤ S.size) (n : Nat) (h1 : 1 ≤ n) (hn : n ≤ 64) (hd : drawsB S.data.toList n a = (some vs, b)) :
    Calls Tryz.prog 47 #[.pointer (some ⟨t, 0, none⟩), .int .i64 (n : Int)] w fun e w' => ∃ g cap, e = .returned (.tuple #[.slice (some ⟨g, 0, none⟩) n cap, .bool true]) ∧ w.heap.size ≤ g ∧ RowZ 3 g cap (rowF vs (things n)) w' ∧ Mv t w w' ∧ Cur S t b false w' := by
  have HC := Lib.hid hc
  have HO := Lib.hid ho
  have HD := Lib.hid hd
  have HA := Lib.hid ha
  have HSZ : Hid (S.size = S.data.toList.length) := Lib.size_eq S
  have H1 := Lib.hid h1
  have H64 := Lib.hid hn
  have t1 : (n : Int) ≤ 64 := by omega
  have t2 : ((n : Int) == 0) = false := by rw [beq_eq_false_iff_ne]; omega
  obtain ⟨m, hm⟩ : ∃ m, n = m + 1 := ⟨n - 1, by omega⟩
  have hwm : IntKind.i64.wrap ((n : Int) - 1) = (m : Int) := by rw [IntWalk.i64_in _ (by omega)]; omega
  have hmn : (m : Int) + 1 ≤ n := by omega
  have HM := Lib.hid hm
  clear hc ho hd ha h1 hn hm
  go_enter Tryz.func47, Tryz.ntmps47
  go_wp2_with fail
  clear hwm
  go_loopw [6, 7] (fun v6 v7 wr => ∃ (k c : Nat) (out : List Nat) (j : Nat), v7 = .int .i64 (j : Int) ∧ j + k = m ∧ k ≤ m ∧ c ≤ S.size ∧ Hid (drawsB S.data.toList n a = preD out (drawsB S.data.toList (n - k) c) ∧ out.length = k) ∧ PdMem S w t c out v6 wr) (fun _ v7 _ => (intOf v7).toNat)
  case atStart => exact ⟨0, a, [], m, rfl, rfl, Nat.zero_le _, HA.out, ⟨(preD_nil _).symm, rfl⟩, ⟨World.ownsRow_nil .., Mv.refl _ _, HC.out, HC.out.lt⟩⟩
  case round =>
    obtain ⟨k, c, out, j, rfl, hjk, hkm, hcS, hp, hP⟩ := hrel
    have HJK := Lib.hid hjk
    have PM := Lib.hid hP
    have HCS := Lib.hid hcS
    have HKM := Lib.hid hkm
    obtain ⟨va, vc, rfl⟩ := row_sliceI hP.row
    clear hP hcS
    by_cases hk : k < m
    · obtain ⟨q, hq⟩ : ∃ q, n - k = q + 2 := ⟨n - k - 2, by have := HM.out; omega⟩
      obtain ⟨x, y, c', hdr⟩ := drawIs S.data.toList (q + 2) c
      have hy : y = true := by
        cases y
        · have e := hp.out.1
          rw [hq, drawsB_no hdr, HD.out] at e
          cases e
        · rfl
      subst hy
      obtain ⟨M, hM⟩ : ∃ M, q + 2 = M := ⟨_, rfl⟩
      have hx := hdr.lt (by omega)
      have hle := hdr.le (by rw [← HSZ.out]; exact HCS.out)
      have HREL : Hid (drawsB S.data.toList n a = preD (out ++ [x]) (drawsB S.data.toList (n - (k + 1)) c') ∧ (out ++ [x]).length = k + 1) := by
        refine ⟨?_, by simp [hp.out.2]⟩
        rw [hp.out.1, hq, drawsB_yes hdr, preD_app, show n - (k + 1) = q + 1 by omega]
      have HCS' : Hid (c' ≤ S.size) := by show _ ≤ _; rw [HSZ.out]; exact hle.2
      have hnm := HM.out
      have hj1 : (1 : Int) ≤ j := by omega
      have hj64 : (j : Int) ≤ 64 := by omega
      have hMj : (j : Int) + 1 = (M : Int) := by omega
      have hMi : IntKind.i64.wrap ((j : Int) + 1) = (M : Int) := by rw [IntWalk.i64_in _ (by omega)]; omega
      obtain ⟨j', hj'⟩ : ∃ j', j - 1 = j' := ⟨_, rfl⟩
      have hjw : IntKind.i64.wrap ((j : Int) - 1) = (j' : Int) := by rw [IntWalk.i64_in _ (by omega)]; omega
      have HJ1 : Hid (j' + (k + 1) = m) := by show _ = _; omega
      have HJ2 : Hid (j' < j) := by show _ < _; omega
      have hM1 : (M : Int) ≤ 64 := by omega
      have hx1 : (x : Int) ≤ 64 := by omega
      have MB : Hid (M < Bs) := by show M < Bs; rw [Bs_def]; omega
      have M1 : Hid (1 ≤ M) := by show 1 ≤ M; omega
      have HDR : Hid (DrawIs S.data.toList M c x true c') := by rw [← hM]; exact hdr
      have HLN : Hid ((intsOf out).length + [((x : Nat) : Int)].length ≤ 100000) := by show _ ≤ 100000; rw [intsOf_length, hp.out.2]; simp; omega
      have HKK : Hid (k + 1 ≤ m) := hk
      clear hdr hle hq hM hx hp hnm hjk hj'
      go_wp2_with fail
      refine (rdraw_ok PM.out.cur HO.out HCS.out M MB.out M1.out HDR.out).mono ?_
      rintro e w1 ⟨rfl, mv1, c1⟩
      have PM1 := Lib.hid (PM.out.move mv1 c1)
      have HEX := Lib.hid ((Ext.refl w1).alloc (.cells #[.int .i64 (x : Int)] 3))
      have HRW := Lib.hid (ownsRow_ext' PM1.out.row HEX.out)
      have HBS : Hid (w.heap.size ≤ (w1.alloc (.cells #[.int .i64 (x : Int)] 3)).heap.size) := Nat.le_trans PM1.out.mv.size HEX.out.size
      clear mv1 c1 hMi
      go_wp2_with (at_builtin; refine append_ints rfl _ _ 65 3 Tryz.underlying65 info_int rfl w.heap.size _ _ _ rfl HRW.out HBS.out _ [(x : Int)] rfl (ints_lit w1 [(x : Int)] _ rfl 1 rfl (by simp)) HLN.out ?_; intro v' w' hown' hgrow; have HN2 := Lib.hid (PM1.out.grow HEX.out hown' rfl hgrow); clear hown' hgrow)
      exact ⟨⟨k + 1, c', out ++ [x], j', by go_num, HJ1.out, HKK.out, HCS'.out, HREL.out, HN2.out⟩, by simp [intOf]; have := HJ2.out; omega⟩
    · have ek : m = k := by omega
      have ej : j = 0 := by omega
      subst ek ej
      clear hjk
      have HE : Hid (vs = out ∧ b = c) := by
        have e := hp.out.1
        rw [show n - m = 1 by have := HM.out; omega, HD.out] at e
        simp only [drawsB, preD, List.append_nil] at e
        injection e with e1 e2
        injection e1 with e1
        exact ⟨e1, e2⟩
      have hok := drawsB_ok n a HD.out
      have HERR : Hid (errP (intsOf out) = 0) := by
        rw [← HE.out.1]
        exact errP_intsOf hok.2 (by rw [hok.1]; have := H64.out; have := H1.out; omega)
      have HL : Hid ((intsOf out).length + 1 = n) := by show _ = _; rw [intsOf_length, hp.out.2]; exact HM.out.symm
      clear hp hok
      go_wp2_with fail
      refine (rrow_ok (D := intsOf out) (Own.sl (.inl PM.out.row)) HERR.out).mono ?_
      rintro e w5 ⟨g, gc, rfl, hg, hr, x5⟩
      rw [HL.out, natsOf_intsOf, ← HE.out.1] at hr
      rw [HL.out]
      have HG : Hid (w.heap.size ≤ g) := Nat.le_trans PM.out.mv.size hg
      have HR := Lib.hid hr
      have MV := Lib.hid (PM.out.mv.tail x5 (Nat.le_of_lt PM.out.cur.lt))
      have CU : Hid (Cur S t b false w5) := by have := PM.out.cur.ext x5; rw [HE.out.2]; exact this
      clear hg hr x5
      go_wp2_with fail
      go_ret2
      exact ⟨g, gc, rfl, HG.out, HR.out, MV.out, CU.out⟩

set_option maxHeartbeats 4000000 in
set_option maxRecDepth 100000 in
theorem rpdraw_none {S : ByteArray} {t a b : Nat} {w : World} (hc : Cur S t a false w) (ho : okS S.data.toList = true) (ha : a ≤ S.size) (n : Nat) (h1 : 1 ≤ n) (hn : n ≤ 64) (hd : drawsB S.data.toList n a = (none, b)) :
    Calls Tryz.prog 47 #[.pointer (some ⟨t, 0, none⟩), .int .i64 (n : Int)] w fun e w' => e = .returned (.tuple #[.slice none 0 0, .bool false]) ∧ Mv t w w' ∧ Cur S t b true w' := by
  have HC := Lib.hid hc
  have HO := Lib.hid ho
  have HD := Lib.hid hd
  have HA := Lib.hid ha
  have HSZ : Hid (S.size = S.data.toList.length) := Lib.size_eq S
  have H1 := Lib.hid h1
  have H64 := Lib.hid hn
  have t1 : (n : Int) ≤ 64 := by omega
  have t2 : ((n : Int) == 0) = false := by rw [beq_eq_false_iff_ne]; omega
  obtain ⟨m, hm⟩ : ∃ m, n = m + 1 := ⟨n - 1, by omega⟩
  have hwm : IntKind.i64.wrap ((n : Int) - 1) = (m : Int) := by rw [IntWalk.i64_in _ (by omega)]; omega
  have hmn : (m : Int) + 1 ≤ n := by omega
  have HM := Lib.hid hm
  clear hc ho hd ha h1 hn hm
  go_enter Tryz.func47, Tryz.ntmps47
  go_wp2_with fail
  clear hwm
  go_loopw [6, 7] (fun v6 v7 wr => ∃ (k c : Nat) (out : List Nat) (j : Nat), v7 = .int .i64 (j : Int) ∧ j + k = m ∧ k ≤ m ∧ c ≤ S.size ∧ Hid (drawsB S.data.toList n a = preD out (drawsB S.data.toList (n - k) c) ∧ out.length = k) ∧ PdMem S w t c out v6 wr) (fun _ v7 _ => (intOf v7).toNat)
  case atStart => exact ⟨0, a, [], m, rfl, rfl, Nat.zero_le _, HA.out, ⟨(preD_nil _).symm, rfl⟩, ⟨World.ownsRow_nil .., Mv.refl _ _, HC.out, HC.out.lt⟩⟩
  case round =>
    obtain ⟨k, c, out, j, rfl, hjk, hkm, hcS, hp, hP⟩ := hrel
    have HJK := Lib.hid hjk
    have PM := Lib.hid hP
    have HCS := Lib.hid hcS
    have HKM := Lib.hid hkm
    obtain ⟨va, vc, rfl⟩ := row_sliceI hP.row
    clear hP hcS
    by_cases hk : k < m
    · obtain ⟨q, hq⟩ : ∃ q, n - k = q + 2 := ⟨n - k - 2, by have := HM.out; omega⟩
      obtain ⟨x, y, c', hdr⟩ := drawIs S.data.toList (q + 2) c
      obtain ⟨M, hM⟩ : ∃ M, q + 2 = M := ⟨_, rfl⟩
      have hx := hdr.lt (by omega)
      have hle := hdr.le (by rw [← HSZ.out]; exact HCS.out)
      have hnm := HM.out
      have hj1 : (1 : Int) ≤ j := by omega
      have hj64 : (j : Int) ≤ 64 := by omega
      have hMj : (j : Int) + 1 = (M : Int) := by omega
      have hMi : IntKind.i64.wrap ((j : Int) + 1) = (M : Int) := by rw [IntWalk.i64_in _ (by omega)]; omega
      obtain ⟨j', hj'⟩ : ∃ j', j - 1 = j' := ⟨_, rfl⟩
      have hjw : IntKind.i64.wrap ((j : Int) - 1) = (j' : Int) := by rw [IntWalk.i64_in _ (by omega)]; omega
      have HJ1 : Hid (j' + (k + 1) = m) := by show _ = _; omega
      have HJ2 : Hid (j' < j) := by show _ < _; omega
      have hM1 : (M : Int) ≤ 64 := by omega
      have hx1 : (x : Int) ≤ 64 := by omega
      have MB : Hid (M < Bs) := by show M < Bs; rw [Bs_def]; omega
      have M1 : Hid (1 ≤ M) := by show 1 ≤ M; omega
      have HDR : Hid (DrawIs S.data.toList M c x y c') := by rw [← hM]; exact hdr
      have HKK : Hid (k + 1 ≤ m) := hk
      cases y
      case false =>
        have HBC : Hid (b = c') := by
          have e := hp.out.1
          rw [hq, drawsB_no hdr, HD.out] at e
          injection e
        clear hdr hle hq hM hx hp hnm hjk hj'
        go_wp2_with fail
        refine (rdraw_ok PM.out.cur HO.out HCS.out M MB.out M1.out HDR.out).mono ?_
        rintro e w1 ⟨rfl, mv1, c1⟩
        have MV1 := Lib.hid (PM.out.mv.trans mv1)
        have C1 := Lib.hid c1
        clear mv1 c1 hMi
        go_wp2_with fail
        go_ret2
        exact ⟨rfl, MV1.out, by rw [HBC.out]; exact C1.out⟩
      have HREL : Hid (drawsB S.data.toList n a = preD (out ++ [x]) (drawsB S.data.toList (n - (k + 1)) c') ∧ (out ++ [x]).length = k + 1) := by
        refine ⟨?_, by simp [hp.out.2]⟩
        rw [hp.out.1, hq, drawsB_yes hdr, preD_app, show n - (k + 1) = q + 1 by omega]
      have HCS' : Hid (c' ≤ S.size) := by show _ ≤ _; rw [HSZ.out]; exact hle.2
      have HLN : Hid ((intsOf out).length + [((x : Nat) : Int)].length ≤ 100000) := by show _ ≤ 100000; rw [intsOf_length, hp.out.2]; simp; omega
      clear hdr hle hq hM hx hp hnm hjk hj'
      go_wp2_with fail
      refine (rdraw_ok PM.out.cur HO.out HCS.out M MB.out M1.out HDR.out).mono ?_
      rintro e w1 ⟨rfl, mv1, c1⟩
      have PM1 := Lib.hid (PM.out.move mv1 c1)
      have HEX := Lib.hid ((Ext.refl w1).alloc (.cells #[.int .i64 (x : Int)] 3))
      have HRW := Lib.hid (ownsRow_ext' PM1.out.row HEX.out)
      have HBS : Hid (w.heap.size ≤ (w1.alloc (.cells #[.int .i64 (x : Int)] 3)).heap.size) := Nat.le_trans PM1.out.mv.size HEX.out.size
      clear mv1 c1 hMi
      go_wp2_with (at_builtin; refine append_ints rfl _ _ 65 3 Tryz.underlying65 info_int rfl w.heap.size _ _ _ rfl HRW.out HBS.out _ [(x : Int)] rfl (ints_lit w1 [(x : Int)] _ rfl 1 rfl (by simp)) HLN.out ?_; intro v' w' hown' hgrow; have HN2 := Lib.hid (PM1.out.grow HEX.out hown' rfl hgrow); clear hown' hgrow)
      exact ⟨⟨k + 1, c', out ++ [x], j', by go_num, HJ1.out, HKK.out, HCS'.out, HREL.out, HN2.out⟩, by simp [intOf]; have := HJ2.out; omega⟩
    · have ek : m = k := by omega
      have ej : j = 0 := by omega
      subst ek ej
      clear hjk
      exfalso
      have e := hp.out.1
      rw [show n - m = 1 by have := HM.out; omega, HD.out] at e
      cases e

set_option maxHeartbeats 2000000 in
set_option maxRecDepth 100000 in
/-- of no things: an empty row; of too many, or fewer than none: none -/
theorem rpdraw_zero (w : World) (v : Value) :
    Calls Tryz.prog 47 #[v, .int .i64 0] w fun e w' => e = .returned (.tuple #[.slice none 0 0, .bool true]) ∧ Ext w w' := by
  go_enter Tryz.func47, Tryz.ntmps47
  go_wp2_with fail
  go_ret2
  exact ⟨rfl, Ext.refl _⟩
set_option maxHeartbeats 2000000 in
set_option maxRecDepth 100000 in
theorem rpdraw_bad (w : World) (v : Value) (n : Int) (h : n < 0 ∨ 64 < n) :
    Calls Tryz.prog 47 #[v, .int .i64 n] w fun e w' => e = .returned (.tuple #[.slice none 0 0, .bool false]) ∧ Ext w w' := by
  rcases h with h | h
  · go_enter Tryz.func47, Tryz.ntmps47
    go_wp2_with fail
    go_ret2
    exact ⟨rfl, Ext.refl _⟩
  · have h2 : ¬ n < 0 := by omega
    go_enter Tryz.func47, Tryz.ntmps47
    go_wp2_with fail
    go_ret2
    exact ⟨rfl, Ext.refl _⟩
set_option maxHeartbeats 2000000 in
set_option maxRecDepth 100000 in
/-- of two things or more, when the bits are over, or by nobody's cursor: none -/
theorem rpdraw_over {S : ByteArray} {t a : Nat} {w : World} (hc : Cur S t a true w) (n : Nat) (h1 : 2 ≤ n) (hn : n ≤ 64) :
    Calls Tryz.prog 47 #[.pointer (some ⟨t, 0, none⟩), .int .i64 (n : Int)] w fun e w' => e = .returned (.tuple #[.slice none 0 0, .bool false]) ∧ Ext w w' := by
  have HC := Lib.hid hc
  have t1 : (n : Int) ≤ 64 := by omega
  have t3 : (2 : Int) ≤ n := by omega
  have t2 : ((n : Int) == 0) = false := by rw [beq_eq_false_iff_ne]; omega
  have N1 : Hid (1 ≤ n) := by show 1 ≤ n; omega
  obtain ⟨m, hm⟩ : ∃ m, n - 1 = m := ⟨_, rfl⟩
  have hw1 : IntKind.i64.wrap ((n : Int) - 1) = (m : Int) := by rw [IntWalk.i64_in _ (by omega)]; omega
  have hw2 : IntKind.i64.wrap ((m : Int) + 1) = (n : Int) := by rw [IntWalk.i64_in _ (by omega)]; omega
  have hm1 : (1 : Int) ≤ m := by omega
  have MB : Hid (n < Bs) := by show n < Bs; rw [Bs_def]; omega
  clear hc h1 hn hm
  go_enter Tryz.func47, Tryz.ntmps47
  go_wp2_with fail
  refine wp_loop_rounds 1 ?_
  rw [rounds_succ]
  go_wp2_with fail
  refine (rdraw_over HC.out n MB.out N1.out).mono ?_
  rintro e w1 ⟨rfl, x1⟩
  have X1 := Lib.hid x1
  clear x1
  go_wp2_with fail
  go_ret2
  exact ⟨rfl, X1.out⟩
end Go.Proofs.YtkfioaoooodmnaaGreatDoor
