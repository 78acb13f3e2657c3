/- Contracts of tombolaref05: Make, Sign, Show, Read; the law's long. -/
import Derived.Test.YtomhfipgabpfiaaDoorWhole8
import Derived.Test.YtomhfipgabpfiaaDoorRefTrim
namespace Go.Proofs.YtomhfipgabpfiaaDoor
open Go Go.RowKit

def longI (Ls : List (List Nat)) : Bool := Ls.any fun A => decide (10 < A.length)

set_option maxHeartbeats 1000000 in
set_option maxRecDepth 1000000 in
theorem ilong_calls {w : World} {v : Value} {xs : List Value} {n : Nat} {Ls : List (List Nat)} (hv : Sl 2 w v n xs) (hn : Ls.length = n) (hx : ∀ i, i < n → ∃ A u, Ls[i]? = some A ∧ Limbs w u A ∧ xs[i * 2 + 1]? = some u) :
    Calls Tryd.prog 11 #[v] w fun e w' => e = .returned (.bool (longI Ls)) ∧ w = w' := by
  obtain ⟨h1, a, cap, rfl, h3, h4, h5, h6⟩ := hv
  unfold maxLen at h4
  have H5 := Lib.hid h5
  have H6 := Lib.hid h6
  have HX := Lib.hid hx
  have HLN := Lib.hid hn
  have HXL := Lib.hid h1
  clear h5 h6 hx hn h1
  go_enter Tryd.func11, Tryd.ntmps11
  go_wp2_with fail
  go_loop [2, 3] (fun _ v3 => ∃ i : Nat, v3 = .int .i64 (i : Int) ∧ i ≤ n ∧ longI (Ls.take i) = false) (fun _ v3 => n - (intOf v3).toNat)
  case atStart => exact ⟨0, rfl, Nat.zero_le _, rfl⟩
  case round =>
    obtain ⟨i, rfl, hi, hl⟩ := hrel
    have HL := Lib.hid hl
    clear hl
    by_cases hin : i < n
    · cases a with
      | none => have := H5.out rfl; omega
      | some p =>
        obtain ⟨q1, q2, q3⟩ := H6.out p rfl (by omega)
        obtain ⟨b, o, sp⟩ := p
        subst q1
        obtain ⟨A, u, hA, hL, hu⟩ := HX.out i hin
        obtain ⟨hil, hiu⟩ := List.getElem?_eq_some_iff.1 hu
        have hc := q3 _ hil
        obtain ⟨pa, pc, hs, -, -, -⟩ := hL.open
        rw [hiu, hs] at hc
        have hcell : w.cell? ⟨b, o + i * 2 + 1, none⟩ = some (.slice pa A.length pc) := by rw [Nat.add_assoc]; exact hc
        clear hc hiu
        have HA := Lib.hid hA
        clear hs hA q3 hL hu hil
        by_cases h24 : 10 < A.length
        · have HD : Hid (longI Ls = true) := by
            show _ = _
            rw [longI, List.any_eq_true]
            exact ⟨A, List.mem_of_getElem? HA.out, by simpa using h24⟩
          have h25 : (11 : Int) ≤ (A.length : Int) := by omega
          clear h24
          go_wp2_with fail
          go_ret
          exact ⟨ret_eq (by rw [HD.out]; rfl), rfl⟩
        · have h25 : (A.length : Int) ≤ 10 := by omega
          have HF : Hid (longI (Ls.take (i + 1)) = false) := by
            show _ = _
            have h := HL.out
            obtain ⟨hil, hiA⟩ := List.getElem?_eq_some_iff.1 HA.out
            rw [List.take_succ_eq_append_getElem hil, longI, List.any_append, hiA]
            rw [longI] at h
            rw [h]
            simp; omega
          clear h24
          go_wp2_with fail
          exact ⟨⟨i + 1, rfl, by omega, HF.out⟩, by simp [intOf]; omega⟩
    · obtain rfl : i = n := by omega
      have HD : Hid (longI Ls = false) := by
        show _ = _
        have h := HL.out
        rwa [← HLN.out, List.take_length] at h
      go_wp2_with fail
      go_ret
      exact ⟨ret_eq (by rw [HD.out]; rfl), rfl⟩

theorem sl2_lit (w : World) (t : TypeId) (C : Array Value) (n : Nat) (hn : C.size = n * 2) (h63 : n ≤ maxLen) :
    Sl 2 (w.alloc (.cells C t)) (.slice (some ⟨w.heap.size, 0, none⟩) n n) n C.toList := by
  refine ⟨by simpa using hn, _, n, rfl, Nat.le_refl _, h63, (fun e => by cases e), fun p hp _ => ?_⟩
  obtain rfl := Option.some.inj hp
  refine ⟨rfl, by simp, fun j hj => ?_⟩
  have hj' : j < C.size := by simpa using hj
  rw [cell_of_row _ w.heap.size _ C t (0, 0) (heap_alloc_new w _), Nat.zero_add, Array.getElem?_eq_getElem hj']
  simp

theorem ilong1_calls {w : World} {v : Value} {A : List Nat} (hA : Limbs w v A) (c : Bool) (b : Bool) (hb : decide (10 < A.length) = b) {s : Nat} (hs : w.heap.size = s) :
    Calls Tryd.prog 11 #[.slice (some ⟨s, 0, none⟩) 1 1] (w.alloc (.cells #[.bool c, v] 25)) fun e w' => e = .returned (.bool b) ∧ w.alloc (.cells #[.bool c, v] 25) = w' := by
  subst hs
  have h := ilong_calls (Ls := [A]) (sl2_lit w 25 #[.bool c, v] 1 rfl (by unfold maxLen; omega)) rfl (fun i hi => by
    obtain rfl : i = 0 := by omega
    exact ⟨A, v, rfl, hA.ext ((Ext.refl w).alloc _), rfl⟩)
  refine h.mono fun e w' ⟨h1, h2⟩ => ⟨by rw [h1, ← hb]; simp [longI], h2⟩
theorem ilong2_calls {w : World} {v u : Value} {A B : List Nat} (hA : Limbs w v A) (hB : Limbs w u B) (c d : Bool) (b : Bool) (hb : (decide (10 < A.length) || decide (10 < B.length)) = b) {s : Nat} (hs : w.heap.size = s) :
    Calls Tryd.prog 11 #[.slice (some ⟨s, 0, none⟩) 2 2] (w.alloc (.cells #[.bool c, v, .bool d, u] 25)) fun e w' => e = .returned (.bool b) ∧ w.alloc (.cells #[.bool c, v, .bool d, u] 25) = w' := by
  subst hs
  have h := ilong_calls (Ls := [A, B]) (sl2_lit w 25 #[.bool c, v, .bool d, u] 2 rfl (by unfold maxLen; omega)) rfl (fun i hi => by
    have y := (Ext.refl w).alloc (.cells #[.bool c, v, .bool d, u] 25)
    by_cases h0 : i = 0
    · subst h0; exact ⟨A, v, rfl, hA.ext y, rfl⟩
    · obtain rfl : i = 1 := by omega
      exact ⟨B, u, rfl, hB.ext y, rfl⟩)
  refine h.mono fun e w' ⟨h1, h2⟩ => ⟨by rw [h1, ← hb]; simp [longI], h2⟩
theorem ilong3_calls {w : World} {v u z : Value} {A B C : List Nat} (hA : Limbs w v A) (hB : Limbs w u B) (hC : Limbs w z C) (c d f : Bool) (b : Bool) (hb : (decide (10 < A.length) || (decide (10 < B.length) || decide (10 < C.length))) = b) {s : Nat} (hs : w.heap.size = s) :
    Calls Tryd.prog 11 #[.slice (some ⟨s, 0, none⟩) 3 3] (w.alloc (.cells #[.bool c, v, .bool d, u, .bool f, z] 25)) fun e w' => e = .returned (.bool b) ∧ w.alloc (.cells #[.bool c, v, .bool d, u, .bool f, z] 25) = w' := by
  subst hs
  have h := ilong_calls (Ls := [A, B, C]) (sl2_lit w 25 #[.bool c, v, .bool d, u, .bool f, z] 3 rfl (by unfold maxLen; omega)) rfl (fun i hi => by
    have y := (Ext.refl w).alloc (.cells #[.bool c, v, .bool d, u, .bool f, z] 25)
    by_cases h0 : i = 0
    · subst h0; exact ⟨A, v, rfl, hA.ext y, rfl⟩
    by_cases h1 : i = 1
    · subst h1; exact ⟨B, u, rfl, hB.ext y, rfl⟩
    · obtain rfl : i = 2 := by omega
      exact ⟨C, z, rfl, hC.ext y, rfl⟩)
  refine h.mono fun e w' ⟨h1, h2⟩ => ⟨by rw [h1, ← hb]; simp [longI], h2⟩
set_option maxHeartbeats 1000000 in
set_option maxRecDepth 100000 in
theorem refmake_calls {w : World} {v : Value} {A : List Nat} (hA : Limbs w v A) (hl : A.length ≤ 65536) (neg : Bool) :
    Calls Tryd.prog 34 #[.bool neg, v] w (RetI w (iv neg A)) := by
  have HE : Hid (decide (iv neg A < 0) = (neg && !decide (val A = 0))) := iv_neg neg A
  have HB : Hid ((iv neg A).natAbs = val A) := iv_abs neg A
  have HL := Lib.hid hl
  have HLM := Lib.hid (dig_val_len hA.2)
  obtain ⟨pa, pc, rfl, -, -, -⟩ := hA.open
  have y0 := (Ext.refl w).alloc (.cells #[.bool false, .slice none 0 0] 25)
  clear hl
  cases neg with
  | false =>
    go_enter Tryd.func34, Tryd.ntmps34
    go_wp2_with fail
    refine (reftrim_calls (hA.ext y0) HL.out).mono ?_
    rintro e w1 ⟨r, rfl, hr, x1⟩
    obtain ⟨c1, c2, c3, c4⟩ := box2 x1
    obtain ⟨ra, rc, rfl, -, -, -⟩ := hr.limbs.open
    go_wp2_with fail
    refine bodyPost_ret (v := .agg #[.bool false, .slice ra (dig (val A)).length rc]) (by simp [results, Tryd.results34, go_sem, c1, c2]) rfl ⟨_, by rw [HE.out]; rfl, ?_, ?_⟩
    · rw [HB.out]; exact (hr.set2 (by simp) _ _).mono (by simp)
    · exact ext_box2 (y0.trans x1) (Nat.le_refl _) _ _
  | true =>
    obtain ⟨n, hn⟩ : ∃ n, n = val A := ⟨_, rfl⟩
    by_cases h0 : n = 0
    · have HD : Hid (dig (val A) = []) := by show _ = _; rw [← hn, h0, dig_zero]
      have HV : Hid (decide (val A = 0) = true) := by show _ = _; rw [← hn]; simpa using h0
      clear hn h0
      go_enter Tryd.func34, Tryd.ntmps34
      go_wp2_with fail
      refine (reftrim_calls (hA.ext y0) HL.out).mono ?_
      rintro e w1 ⟨r, rfl, hr, x1⟩
      obtain ⟨c1, c2, c3, c4⟩ := box2 x1
      rw [HD.out] at hr
      obtain ⟨ra, rc, rfl, -, -, -⟩ := hr.limbs.open
      go_wp2_with fail
      refine bodyPost_ret (v := .agg #[.bool false, .slice ra 0 rc]) (by simp [results, Tryd.results34, go_sem, c1, c2]) rfl ⟨_, by rw [HE.out, HV.out]; rfl, ?_, ?_⟩
      · rw [HB.out, HD.out]; exact (hr.set2 (by simp) _ _).mono (by simp)
      · exact ext_box2 (y0.trans x1) (Nat.le_refl _) _ _
    · have HV : Hid (decide (val A = 0) = false) := by show _ = _; rw [← hn]; simpa using h0
      have HD : Hid ((1 : Int) ≤ ((dig (val A)).length : Nat)) := by
        show _ ≤ _
        have : dig (val A) ≠ [] := by rw [← hn]; intro e; apply h0; rw [← val_dig n, e]; rfl
        have := List.length_pos_iff.2 this
        omega
      clear hn h0
      go_enter Tryd.func34, Tryd.ntmps34
      go_wp2_with fail
      refine (reftrim_calls (hA.ext y0) HL.out).mono ?_
      rintro e w1 ⟨r, rfl, hr, x1⟩
      obtain ⟨c1, c2, c3, c4⟩ := box2 x1
      obtain ⟨ra, rc, rfl, -, -, -⟩ := hr.limbs.open
      have h1 := HD.out
      have h2 : 0 < (dig (val A)).length := by omega
      go_wp2_with fail
      refine bodyPost_ret (v := .agg #[.bool true, .slice ra (dig (val A)).length rc]) (by simp [results, Tryd.results34, go_sem, c1, c2]) rfl ⟨_, by rw [HE.out, HV.out]; rfl, ?_, ?_⟩
      · rw [HB.out]; exact (hr.set2 (by simp) _ _).mono (by simp)
      · exact ext_box2 (y0.trans x1) (Nat.le_refl _) _ _

theorem refmake_ok {w : World} {v : Value} {A : List Nat} (hA : Limbs w v A) (hl : A.length ≤ 65536) (neg : Bool) {b : Bool} {m : Nat} (hb : decide (iv neg A < 0) = b) (hm : (iv neg A).natAbs = m) :
    Calls Tryd.prog 34 #[.bool neg, v] w fun e w' => ∃ v, e = .returned (.agg #[.bool b, v]) ∧ OwnL w.heap.size w' v (dig m) ∧ Ext w w' :=
  (refmake_calls hA hl neg).mono fun _ _ h => h.by hb hm

set_option maxHeartbeats 1000000 in
set_option maxRecDepth 100000 in
theorem refsign_calls {w : World} {v : Value} {A : List Nat} (hA : Limbs w v A) (hl : A.length ≤ 65536) (neg : Bool) :
    Calls Tryd.prog 36 #[.agg #[.bool neg, v]] w fun e w' => e = .returned (.int .i64 (iv neg A).sign) ∧ Ext w w' := by
  have HL := Lib.hid hl
  obtain ⟨pa, pc, rfl, -, -, -⟩ := hA.open
  obtain ⟨b, hb⟩ : ∃ b, decide (iv neg A < 0) = b := ⟨_, rfl⟩
  obtain ⟨m, hm⟩ : ∃ m, (iv neg A).natAbs = m := ⟨_, rfl⟩
  have hS : (iv neg A).sign = if m = 0 then 0 else if b then -1 else 1 := by
    rw [← hm, ← hb]
    generalize iv neg A = z
    rcases Int.lt_trichotomy z 0 with h | h | h
    · rw [Int.sign_eq_neg_one_of_neg h, if_neg (by omega), decide_eq_true h]; rfl
    · subst h; rfl
    · rw [Int.sign_eq_one_of_pos h, if_neg (by omega), decide_eq_false (by omega)]; rfl
  have HS := Lib.hid hS
  have HB := Lib.hid hb
  have HM := Lib.hid hm
  have y0 := (Ext.refl w).alloc (.cells #[.bool neg, .slice pa A.length pc] 25)
  clear hl hS hb hm
  by_cases h0 : m = 0
  · have HD : Hid (dig m = []) := by show _ = _; rw [h0, dig_zero]
    have HR : Hid ((iv neg A).sign = 0) := by show _ = _; rw [HS.out, if_pos h0]
    clear h0
    go_enter Tryd.func36, Tryd.ntmps36
    go_wp2_with fail
    refine (refmake_ok (hA.ext y0) HL.out neg HB.out HM.out).mono ?_
    rintro e w1 ⟨r, rfl, hr, x1⟩
    obtain ⟨c1, c2, c3, c4⟩ := box2 x1
    rw [HD.out] at hr
    obtain ⟨ra, rc, rfl, -, -, -⟩ := hr.limbs.open
    go_wp2_with fail
    go_ret
    exact ⟨ret_eq (int_eq (by rw [HR.out])), ext_box2 (y0.trans x1) (Nat.le_refl _) _ _⟩
  · have hd : (1 : Int) ≤ ((dig m).length : Nat) := by
      have : dig m ≠ [] := by intro e; apply h0; rw [← val_dig m, e]; rfl
      have := List.length_pos_iff.2 this
      omega
    have HR : Hid ((iv neg A).sign = if b then -1 else 1) := by show _ = _; rw [HS.out, if_neg h0]
    clear h0
    cases b with
    | true =>
      go_enter Tryd.func36, Tryd.ntmps36
      go_wp2_with fail
      refine (refmake_ok (hA.ext y0) HL.out neg HB.out HM.out).mono ?_
      rintro e w1 ⟨r, rfl, hr, x1⟩
      obtain ⟨c1, c2, c3, c4⟩ := box2 x1
      obtain ⟨ra, rc, rfl, -, -, -⟩ := hr.limbs.open
      go_wp2_with fail
      go_ret
      exact ⟨ret_eq (int_eq (by rw [HR.out]; rfl)), ext_box2 (y0.trans x1) (Nat.le_refl _) _ _⟩
    | false =>
      go_enter Tryd.func36, Tryd.ntmps36
      go_wp2_with fail
      refine (refmake_ok (hA.ext y0) HL.out neg HB.out HM.out).mono ?_
      rintro e w1 ⟨r, rfl, hr, x1⟩
      obtain ⟨c1, c2, c3, c4⟩ := box2 x1
      obtain ⟨ra, rc, rfl, -, -, -⟩ := hr.limbs.open
      go_wp2_with fail
      go_ret
      exact ⟨ret_eq (int_eq (by rw [HR.out]; rfl)), ext_box2 (y0.trans x1) (Nat.le_refl _) _ _⟩

set_option maxHeartbeats 1000000 in
set_option maxRecDepth 100000 in
theorem refishow_calls {w : World} {v : Value} {A : List Nat} (hA : Limbs w v A) (hl : A.length ≤ 65535) (neg : Bool) (s t : ByteArray) (hs : s.data.toList = showL (iv neg A).natAbs)
    (ht : t.data.toList = if iv neg A < 0 then 45 :: s.data.toList else s.data.toList) (hsz : s.size ≤ 4294967296) :
    Calls Tryd.prog 16 #[.agg #[.bool neg, v]] w fun e w' => e = .returned (.string t) ∧ Ext w w' := by
  obtain ⟨pa, pc, rfl, -, -, -⟩ := hA.open
  have L1 := Lib.hid hl
  rw [iv_abs] at hs
  have H := Lib.hid hs
  have y0 := (Ext.refl w).alloc (.cells #[.bool neg, .slice pa A.length pc] 25)
  by_cases h0 : iv neg A < 0
  · rw [if_pos h0] at ht
    have HT : Hid (ByteArray.mk #[45] ++ s = t) := by
      show _ = _
      exact append_of (by rw [ht]; rfl)
    have HS : Hid ((iv neg A).sign = -1) := Int.sign_eq_neg_one_of_neg h0
    have hsz1 : ((s.size : Int) + 1 ≤ 9223372036854775807) := by omega
    clear hl hs ht h0 hsz
    go_enter Tryd.func16, Tryd.ntmps16
    go_wp2_with fail
    refine (refsign_calls (hA.ext y0) (by have := L1.out; omega) neg).mono ?_
    rintro e w2 ⟨rfl, x2⟩
    rw [HS.out]
    obtain ⟨c1, c2, -⟩ := box2 x2
    go_wp2_with fail
    refine (refshow_str (hA.ext (y0.trans x2)) (by have := L1.out; omega) s H.out).mono ?_
    rintro e w1 ⟨rfl, x1⟩
    go_wp2_with fail
    go_ret
    exact ⟨ret_eq (congrArg Value.string HT.out), y0.trans (x2.trans x1)⟩
  · rw [if_neg h0] at ht
    have HT : Hid (s = t) := by
      show _ = _
      rw [← Lib.mk_data s, ← Lib.mk_data t, ht]
    obtain ⟨k, hk⟩ : ∃ k, k = (iv neg A).sign := ⟨_, rfl⟩
    have HK := Lib.hid hk
    have hk0 : ¬ k < 0 := by rw [hk, Int.sign_neg_iff]; exact h0
    clear hl hs ht h0 hsz hk
    go_enter Tryd.func16, Tryd.ntmps16
    go_wp2_with fail
    refine (refsign_calls (hA.ext y0) (by have := L1.out; omega) neg).mono ?_
    rintro e w2 ⟨rfl, x2⟩
    rw [← HK.out]
    obtain ⟨c1, c2, -⟩ := box2 x2
    go_wp2_with fail
    refine (refshow_str (hA.ext (y0.trans x2)) (by have := L1.out; omega) s H.out).mono ?_
    rintro e w1 ⟨rfl, x1⟩
    go_wp2_with fail
    go_ret
    exact ⟨ret_eq (congrArg Value.string HT.out), y0.trans (x2.trans x1)⟩

theorem refmaker_ok {w : World} {v : Value} {r : Nat} (hA : Limbs w v (dig r)) (hl : (dig r).length ≤ 65536) :
    Calls Tryd.prog 34 #[.bool false, v] w fun e w' => ∃ v, e = .returned (.agg #[.bool false, v]) ∧ OwnL w.heap.size w' v (dig r) ∧ Ext w w' :=
  refmake_ok hA hl false (by rw [iv_dig_false]; simp) (by rw [iv_dig_false]; omega)
theorem len_pos {n : Nat} (h : ¬ n = 0) : (1 : Int) ≤ ((dig n).length : Nat) := by
  have : dig n ≠ [] := by intro e; apply h; rw [← val_dig n, e]; rfl
  have := List.length_pos_iff.2 this
  omega
theorem head_bn {l : List UInt8} (h : l ≠ []) : l.head? = some 45 ↔ bn l 0 = 45 := by
  cases l with
  | nil => exact absurd rfl h
  | cons a l =>
    simp only [bn, List.head?_cons, Option.some.injEq, List.getElem?_cons_zero, Option.getD_some]
    constructor
    · rintro rfl; rfl
    · intro h; exact UInt8.toNat_inj.1 (by rw [h]; rfl)

set_option maxHeartbeats 2000000 in
set_option maxRecDepth 100000 in
theorem refiread_calls (s : ByteArray) (w : World) (hs : s.size ≤ 500) :
    Calls Tryd.prog 14 #[.string s] w (RetIR w (errI s.data.toList : Nat) (readI s.data.toList)) := by
  have hsi : (s.size : Int) ≤ 500 := by omega
  have y0 := (Ext.refl w).alloc (.cells #[.bool false, .slice none 0 0] 25)
  have hlen : s.data.toList.length = s.size := (Lib.size_eq s).symm
  by_cases h0 : s.data.toList = []
  · have hs0 : s = ⟨#[]⟩ := by rw [← Lib.mk_data s, h0]
    subst hs0
    have HE : Hid (((errI [] : Nat) : Int) = 4) := by show _ = _; unfold errI; rfl
    clear hsi hlen hs h0
    go_enter Tryd.func14, Tryd.ntmps14
    go_wp2_with fail
    refine (refread_str ⟨#[]⟩ _ (by decide) 4 0 rfl rfl).mono ?_
    rintro e w1 ⟨v, rfl, hv, x1⟩
    obtain ⟨c1, c2, d1, d2⟩ := box2 x1
    go_wp2_with fail
    refine bodyPost_ret (v := .tuple #[.agg #[.bool false, .slice none 0 0], .int .i64 4]) (by simp [results, Tryd.results14, go_sem, c1, c2]) rfl (RetIR.err (l := []) HE.out (by decide) (ext_box2 (y0.trans x1) (Nat.le_refl _) _ _))
  have hget : ∀ i (h : i < s.size), ((s[i]'h).toNat : Int) = (bn s.data.toList i : Int) := fun i h => bn_get s i h
  have hne : s.toList.isEmpty = false := by rw [Lib.toList_data]; simpa using h0
  have hne2 : ¬ s.toList = [] := by rw [Lib.toList_data]; exact h0
  have hs1 : 0 < s.size := by rw [← hlen]; exact List.length_pos_iff.2 h0
  by_cases hb : bn s.data.toList 0 = 45
  · have hh := (head_bn h0).2 hb
    obtain ⟨t, ht⟩ : ∃ t, t = s.extract 1 s.size := ⟨_, rfl⟩
    have htl : t.data.toList = s.data.toList.tail := by rw [ht, Lib.extract_data, List.drop_one, List.take_of_length_le (by rw [List.length_tail]; omega)]
    have hts : t.size ≤ 500 := by rw [Lib.size_eq t, htl, List.length_tail]; omega
    obtain ⟨k, hk⟩ : ∃ k, ((errR t.data.toList : Nat) : Int) = k := ⟨_, rfl⟩
    obtain ⟨n, hn⟩ : ∃ n, readN t.data.toList = n := ⟨_, rfl⟩
    have hL : (dig n).length ≤ 65536 := by rw [← hn]; exact digits_501 (by rw [← Lib.size_eq t]; omega)
    have hEI : ((errI s.data.toList : Nat) : Int) = if k = 0 then (if n = 0 then 3 else 0) else k := by
      unfold errI
      rw [if_pos hh, ← htl, hn, ← hk]
      by_cases h : errR t.data.toList = 0
      · rw [h]; by_cases h2 : n = 0 <;> simp [h2]
      · rw [if_pos h, if_neg (by omega)]
    have hRI : readI s.data.toList = if errI s.data.toList ≠ 0 then 0 else -(n : Int) := by
      unfold readI
      rw [if_pos hh, ← htl, hn]
    have HT := Lib.hid ht
    have HK := Lib.hid hk
    have HN := Lib.hid hn
    have HL := Lib.hid hL
    have HTS : Hid (t.size ≤ maxLen) := by show _ ≤ _; unfold maxLen; omega
    have HEI := Lib.hid hEI
    have HRI := Lib.hid hRI
    clear ht htl hts hk hn hL hEI hRI hlen hh hs h0
    by_cases hk0 : k = 0
    · subst hk0
      by_cases hn0 : n = 0
      · have HE3 : Hid (((errI s.data.toList : Nat) : Int) = 3) := by show _ = _; rw [HEI.out, if_pos rfl, if_pos hn0]
        have HD : Hid (dig n = []) := by show _ = _; rw [hn0, dig_zero]
        clear hn0
        go_enter Tryd.func14, Tryd.ntmps14
        go_wp2_with fail
        rw [← HT.out]
        refine (refread_str t _ HTS.out 0 n HK.out HN.out).mono ?_
        rintro e w1 ⟨v, rfl, hv, x1⟩
        obtain ⟨c1, c2, d1, d2⟩ := box2 x1
        rw [HD.out] at hv
        obtain ⟨ra, rc, rfl, -, -, -⟩ := hv.limbs.open
        go_wp2_with fail
        refine bodyPost_ret (v := .tuple #[.agg #[.bool false, .slice none 0 0], .int .i64 3]) (by simp [results, Tryd.results14, go_sem, c1, c2]) rfl (RetIR.err HE3.out (by decide) (ext_box2 (y0.trans x1) (Nat.le_refl _) _ _))
      · have HE3 : Hid (errI s.data.toList = 0) := by show _ = _; have := HEI.out; rw [if_pos rfl, if_neg hn0] at this; omega
        have HR3 : Hid (readI s.data.toList = -(n : Int)) := by show _ = _; rw [HRI.out, if_neg (by rw [HE3.out]; simp)]
        have HB : Hid (decide (iv true (dig n) < 0) = true) := by show _ = _; rw [iv_dig_true]; simp; omega
        have HM : Hid ((iv true (dig n)).natAbs = n) := by show _ = _; rw [iv_dig_true]; omega
        have HN0 := Lib.hid hn0
        have hd1 := len_pos hn0
        clear hn0
        go_enter Tryd.func14, Tryd.ntmps14
        go_wp2_with fail
        rw [← HT.out]
        refine (refread_str t _ HTS.out 0 n HK.out HN.out).mono ?_
        rintro e w1 ⟨v, rfl, hv, x1⟩
        obtain ⟨va, vc, rfl, -, -, -⟩ := hv.limbs.open
        go_wp2_with fail
        refine (refmake_ok hv.limbs HL.out true HB.out HM.out).mono ?_
        rintro e w3 ⟨r, rfl, hr, x3⟩
        obtain ⟨c1, c2, d1, d2⟩ := box2 (x1.trans x3)
        obtain ⟨ra, rc, rfl, -, -, -⟩ := hr.limbs.open
        go_wp2_with fail
        refine bodyPost_ret (v := .tuple #[.agg #[.bool true, .slice ra (dig n).length rc], .int .i64 0]) (by simp [results, Tryd.results14, go_sem, c1, c2]) rfl (RetIR.ok (m := n) HE3.out HR3.out (by have := HN0.out; simp; omega) (by omega) ?_ (ext_box2 (y0.trans (x1.trans x3)) (Nat.le_refl _) _ _))
        have z1 := x1.size
        simp at z1
        exact (hr.set2 (by omega) _ _).mono (by omega)
    · have HE3 : Hid (((errI s.data.toList : Nat) : Int) = k) := by show _ = _; rw [HEI.out, if_neg hk0]
      go_enter Tryd.func14, Tryd.ntmps14
      go_wp2_with fail
      rw [← HT.out]
      refine (refread_str t _ HTS.out k n HK.out HN.out).mono ?_
      rintro e w1 ⟨v, rfl, hv, x1⟩
      obtain ⟨c1, c2, d1, d2⟩ := box2 x1
      go_wp2_with fail
      refine bodyPost_ret (v := .tuple #[.agg #[.bool false, .slice none 0 0], .int .i64 k]) (by simp [results, Tryd.results14, go_sem, c1, c2]) rfl (RetIR.err HE3.out hk0 (ext_box2 (y0.trans x1) (Nat.le_refl _) _ _))
  · have hh : ¬ s.data.toList.head? = some 45 := fun h => hb ((head_bn h0).1 h)
    obtain ⟨k, hk⟩ : ∃ k, ((errR s.data.toList : Nat) : Int) = k := ⟨_, rfl⟩
    obtain ⟨n, hn⟩ : ∃ n, readN s.data.toList = n := ⟨_, rfl⟩
    have hL : (dig n).length ≤ 65536 := by rw [← hn]; exact digits_501 (by omega)
    have hEI : ((errI s.data.toList : Nat) : Int) = k := by unfold errI; rw [if_neg hh]; exact hk
    have hRI : readI s.data.toList = if errI s.data.toList ≠ 0 then 0 else (n : Int) := by unfold readI; rw [if_neg hh, hn]
    have HK := Lib.hid hk
    have HN := Lib.hid hn
    have HL := Lib.hid hL
    have HTS : Hid (s.size ≤ maxLen) := by show _ ≤ _; unfold maxLen; omega
    have HEI := Lib.hid hEI
    have HRI := Lib.hid hRI
    clear hk hn hL hEI hRI hlen hh hs h0
    by_cases hk0 : k = 0
    · subst hk0
      have HE3 : Hid (errI s.data.toList = 0) := by show _ = _; have := HEI.out; omega
      have HR3 : Hid (readI s.data.toList = (n : Int)) := by show _ = _; rw [HRI.out, if_neg (by rw [HE3.out]; simp)]
      go_enter Tryd.func14, Tryd.ntmps14
      go_wp2_with fail
      refine (refread_str s _ HTS.out 0 n HK.out HN.out).mono ?_
      rintro e w1 ⟨v, rfl, hv, x1⟩
      go_wp2_with fail
      refine (refmaker_ok hv.limbs HL.out).mono ?_
      rintro e w3 ⟨r, rfl, hr, x3⟩
      obtain ⟨c1, c2, d1, d2⟩ := box2 (x1.trans x3)
      obtain ⟨ra, rc, rfl, -, -, -⟩ := hr.limbs.open
      go_wp2_with fail
      refine bodyPost_ret (v := .tuple #[.agg #[.bool false, .slice ra (dig n).length rc], .int .i64 0]) (by simp [results, Tryd.results14, go_sem, c1, c2]) rfl (RetIR.ok (m := n) HE3.out HR3.out (by simp) (by omega) ?_ (ext_box2 (y0.trans (x1.trans x3)) (Nat.le_refl _) _ _))
      have z1 := x1.size
      simp at z1
      exact (hr.set2 (by omega) _ _).mono (by omega)
    · have HE3 := HEI
      go_enter Tryd.func14, Tryd.ntmps14
      go_wp2_with fail
      refine (refread_str s _ HTS.out k n HK.out HN.out).mono ?_
      rintro e w1 ⟨v, rfl, hv, x1⟩
      obtain ⟨c1, c2, d1, d2⟩ := box2 x1
      go_wp2_with fail
      refine bodyPost_ret (v := .tuple #[.agg #[.bool false, .slice none 0 0], .int .i64 k]) (by simp [results, Tryd.results14, go_sem, c1, c2]) rfl (RetIR.err HE3.out hk0 (ext_box2 (y0.trans x1) (Nat.le_refl _) _ _))

end Go.Proofs.YtomhfipgabpfiaaDoor
