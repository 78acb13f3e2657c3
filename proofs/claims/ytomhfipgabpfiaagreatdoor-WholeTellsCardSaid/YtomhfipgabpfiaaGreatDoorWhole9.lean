/- Contracts of tombolaref05: Make, Sign, Show, Read; the law's long. -/
import Derived.Test.YtomhfipgabpfiaaGreatDoorWhole8
import Derived.Test.YtomhfipgabpfiaaGreatDoorRefTrim
namespace Go.Proofs.YtomhfipgabpfiaaGreatDoor
open Go Go.RowKit

def longI (Ls : List (List Nat)) : Bool := Ls.any fun A => decide (10 < A.length)

set_option maxHeartbeats 1000000 in
set_option maxRecDepth 1000000 in
theorem ilong_calls {w : World} {v : Value} {xs : List Value} {n : Nat} {Ls : List (List Nat)} (hv : Sl 2 w v n xs) (hn : Ls.length = n) (hx : ∀ i, i < n → ∃ A u, Ls[i]? = some A ∧ Limbs w u A ∧ xs[i * 2 + 1]? = some u) :
    Calls Tryz.prog 5 #[v] w fun e w' => e = .returned (.bool (longI Ls)) ∧ w = w' := by
  obtain ⟨h1, a, cap, rfl, h3, h4, h5, h6⟩ := hv
  unfold maxLen at h4
  have H5 := Lib.hid h5
  have H6 := Lib.hid h6
  have HX := Lib.hid hx
  have HLN := Lib.hid hn
  have HXL := Lib.hid h1
  clear h5 h6 hx hn h1
  go_enter Tryz.func5, Tryz.ntmps5
  go_wp2_with fail
  go_loop [2, 3] (fun _ v3 => ∃ i : Nat, v3 = .int .i64 (i : Int) ∧ i ≤ n ∧ longI (Ls.take i) = false) (fun _ v3 => n - (intOf v3).toNat)
  case atStart => exact ⟨0, rfl, Nat.zero_le _, rfl⟩
  case round =>
    obtain ⟨i, rfl, hi, hl⟩ := hrel
    have HL := Lib.hid hl
    clear hl
    by_cases hin : i < n
    · cases a with
      | none => have := H5.out rfl; omega
      | some p =>
        obtain ⟨q1, q2, q3⟩ := H6.out p rfl (by omega)
        obtain ⟨b, o, sp⟩ := p
        subst q1
        obtain ⟨A, u, hA, hL, hu⟩ := HX.out i hin
        obtain ⟨hil, hiu⟩ := List.getElem?_eq_some_iff.1 hu
        have hc := q3 _ hil
        obtain ⟨pa, pc, hs, -, -, -⟩ := hL.open
        rw [hiu, hs] at hc
        have hcell : w.cell? ⟨b, o + i * 2 + 1, none⟩ = some (.slice pa A.length pc) := by rw [Nat.add_assoc]; exact hc
        clear hc hiu
        have HA := Lib.hid hA
        clear hs hA q3 hL hu hil
        by_cases h24 : 10 < A.length
        · have HD : Hid (longI Ls = true) := by
            show _ = _
            rw [longI, List.any_eq_true]
            exact ⟨A, List.mem_of_getElem? HA.out, by simpa using h24⟩
          have h25 : (11 : Int) ≤ (A.length : Int) := by omega
          clear h24
          go_wp2_with fail
          go_ret
          exact ⟨ret_eq (by rw [HD.out]; rfl), rfl⟩
        · have h25 : (A.length : Int) ≤ 10 := by omega
          have HF : Hid (longI (Ls.take (i + 1)) = false) := by
            show _ = _
            have h := HL.out
            obtain ⟨hil, hiA⟩ := List.getElem?_eq_some_iff.1 HA.out
            rw [List.take_succ_eq_append_getElem hil, longI, List.any_append, hiA]
            rw [longI] at h
            rw [h]
            simp; omega
          clear h24
          go_wp2_with fail
          exact ⟨⟨i + 1, rfl, by omega, HF.out⟩, by simp [intOf]; omega⟩
    · obtain rfl : i = n := by omega
      have HD : Hid (longI Ls = false) := by
        show _ = _
        have h := HL.out
        rwa [← HLN.out, List.take_length] at h
      go_wp2_with fail
      go_ret
      exact ⟨ret_eq (by rw [HD.out]; rfl), rfl⟩

theorem sl2_lit (w : World) (t : TypeId) (C : Array Value) (n : Nat) (hn : C.size = n * 2) (h63 : n ≤ maxLen) :
    Sl 2 (w.alloc (.cells C t)) (.slice (some ⟨w.heap.size, 0, none⟩) n n) n C.toList := by
  refine ⟨by simpa using hn, _, n, rfl, Nat.le_refl _, h63, (fun e => by cases e), fun p hp _ => ?_⟩
  obtain rfl := Option.some.inj hp
  refine ⟨rfl, by simp, fun j hj => ?_⟩
  have hj' : j < C.size := by simpa using hj
  rw [cell_of_row _ w.heap.size _ C t (0, 0) (heap_alloc_new w _), Nat.zero_add, Array.getElem?_eq_getElem hj']
  simp

theorem ilong1_calls {w : World} {v : Value} {A : List Nat} (hA : Limbs w v A) (c : Bool) (b : Bool) (hb : decide (10 < A.length) = b) {s : Nat} (hs : w.heap.size = s) :
    Calls Tryz.prog 5 #[.slice (some ⟨s, 0, none⟩) 1 1] (w.alloc (.cells #[.bool c, v] 25)) fun e w' => e = .returned (.bool b) ∧ w.alloc (.cells #[.bool c, v] 25) = w' := by
  subst hs
  have h := ilong_calls (Ls := [A]) (sl2_lit w 25 #[.bool c, v] 1 rfl (by unfold maxLen; omega)) rfl (fun i hi => by
    obtain rfl : i = 0 := by omega
    exact ⟨A, v, rfl, hA.ext ((Ext.refl w).alloc _), rfl⟩)
  refine h.mono fun e w' ⟨h1, h2⟩ => ⟨by rw [h1, ← hb]; simp [longI], h2⟩
theorem ilong2_calls {w : World} {v u : Value} {A B : List Nat} (hA : Limbs w v A) (hB : Limbs w u B) (c d : Bool) (b : Bool) (hb : (decide (10 < A.length) || decide (10 < B.length)) = b) {s : Nat} (hs : w.heap.size = s) :
    Calls Tryz.prog 5 #[.slice (some ⟨s, 0, none⟩) 2 2] (w.alloc (.cells #[.bool c, v, .bool d, u] 25)) fun e w' => e = .returned (.bool b) ∧ w.alloc (.cells #[.bool c, v, .bool d, u] 25) = w' := by
  subst hs
  have h := ilong_calls (Ls := [A, B]) (sl2_lit w 25 #[.bool c, v, .bool d, u] 2 rfl (by unfold maxLen; omega)) rfl (fun i hi => by
    have y := (Ext.refl w).alloc (.cells #[.bool c, v, .bool d, u] 25)
    by_cases h0 : i = 0
    · subst h0; exact ⟨A, v, rfl, hA.ext y, rfl⟩
    · obtain rfl : i = 1 := by omega
      exact ⟨B, u, rfl, hB.ext y, rfl⟩)
  refine h.mono fun e w' ⟨h1, h2⟩ => ⟨by rw [h1, ← hb]; simp [longI], h2⟩
theorem ilong3_calls {w : World} {v u z : Value} {A B C : List Nat} (hA : Limbs w v A) (hB : Limbs w u B) (hC : Limbs w z C) (c d f : Bool) (b : Bool) (hb : (decide (10 < A.length) || (decide (10 < B.length) || decide (10 < C.length))) = b) {s : Nat} (hs : w.heap.size = s) :
    Calls Tryz.prog 5 #[.slice (some ⟨s, 0, none⟩) 3 3] (w.alloc (.cells #[.bool c, v, .bool d, u, .bool f, z] 25)) fun e w' => e = .returned (.bool b) ∧ w.alloc (.cells #[.bool c, v, .bool d, u, .bool f, z] 25) = w' := by
  subst hs
  have h := ilong_calls (Ls := [A, B, C]) (sl2_lit w 25 #[.bool c, v, .bool d, u, .bool f, z] 3 rfl (by unfold maxLen; omega)) rfl (fun i hi => by
    have y := (Ext.refl w).alloc (.cells #[.bool c, v, .bool d, u, .bool f, z] 25)
    by_cases h0 : i = 0
    · subst h0; exact ⟨A, v, rfl, hA.ext y, rfl⟩
    by_cases h1 : i = 1
    · subst h1; exact ⟨B, u, rfl, hB.ext y, rfl⟩
    · obtain rfl : i = 2 := by omega
      exact ⟨C, z, rfl, hC.ext y, rfl⟩)
  refine h.mono fun e w' ⟨h1, h2⟩ => ⟨by rw [h1, ← hb]; simp [longI], h2⟩
set_option maxHeartbeats 1000000 in
set_option maxRecDepth 100000 in
theorem refmake_calls {w : World} {v : Value} {A : List Nat} (hA : Limbs w v A) (hl : A.length ≤ 65536) (neg : Bool) :
    Calls Tryz.prog 23 #[.bool neg, v] w (RetI w (iv neg A)) := by
  have HE : Hid (decide (iv neg A < 0) = (neg && !decide (val A = 0))) := iv_neg neg A
  have HB : Hid ((iv neg A).natAbs = val A) := iv_abs neg A
  have HL := Lib.hid hl
  have HLM := Lib.hid (dig_val_len hA.2)
  obtain ⟨pa, pc, rfl, -, -, -⟩ := hA.open
  have y0 := (Ext.refl w).alloc (.cells #[.bool false, .slice none 0 0] 25)
  clear hl
  cases neg with
  | false =>
    go_enter Tryz.func23, Tryz.ntmps23
    go_wp2_with fail
    refine (reftrim_calls (hA.ext y0) HL.out).mono ?_
    rintro e w1 ⟨r, rfl, hr, x1⟩
    obtain ⟨c1, c2, c3, c4⟩ := box2 x1
    obtain ⟨ra, rc, rfl, -, -, -⟩ := hr.limbs.open
    go_wp2_with fail
    refine bodyPost_ret (v := .agg #[.bool false, .slice ra (dig (val A)).length rc]) (by simp [results, Tryz.results23, go_sem, c1, c2]) rfl ⟨_, by rw [HE.out]; rfl, ?_, ?_⟩
    · rw [HB.out]; exact (hr.set2 (by simp) _ _).mono (by simp)
    · exact ext_box2 (y0.trans x1) (Nat.le_refl _) _ _
  | true =>
    obtain ⟨n, hn⟩ : ∃ n, n = val A := ⟨_, rfl⟩
    by_cases h0 : n = 0
    · have HD : Hid (dig (val A) = []) := by show _ = _; rw [← hn, h0, dig_zero]
      have HV : Hid (decide (val A = 0) = true) := by show _ = _; rw [← hn]; simpa using h0
      clear hn h0
      go_enter Tryz.func23, Tryz.ntmps23
      go_wp2_with fail
      refine (reftrim_calls (hA.ext y0) HL.out).mono ?_
      rintro e w1 ⟨r, rfl, hr, x1⟩
      obtain ⟨c1, c2, c3, c4⟩ := box2 x1
      rw [HD.out] at hr
      obtain ⟨ra, rc, rfl, -, -, -⟩ := hr.limbs.open
      go_wp2_with fail
      refine bodyPost_ret (v := .agg #[.bool false, .slice ra 0 rc]) (by simp [results, Tryz.results23, go_sem, c1, c2]) rfl ⟨_, by rw [HE.out, HV.out]; rfl, ?_, ?_⟩
      · rw [HB.out, HD.out]; exact (hr.set2 (by simp) _ _).mono (by simp)
      · exact ext_box2 (y0.trans x1) (Nat.le_refl _) _ _
    · have HV : Hid (decide (val A = 0) = false) := by show _ = _; rw [← hn]; simpa using h0
      have HD : Hid ((1 : Int) ≤ ((dig (val A)).length : Nat)) := by
        show _ ≤ _
        have : dig (val A) ≠ [] := by rw [← hn]; intro e; apply h0; rw [← val_dig n, e]; rfl
        have := List.length_pos_iff.2 this
        omega
      clear hn h0
      go_enter Tryz.func23, Tryz.ntmps23
      go_wp2_with fail
      refine (reftrim_calls (hA.ext y0) HL.out).mono ?_
      rintro e w1 ⟨r, rfl, hr, x1⟩
      obtain ⟨c1, c2, c3, c4⟩ := box2 x1
      obtain ⟨ra, rc, rfl, -, -, -⟩ := hr.limbs.open
      have h1 := HD.out
      have h2 : 0 < (dig (val A)).length := by omega
      go_wp2_with fail
      refine bodyPost_ret (v := .agg #[.bool true, .slice ra (dig (val A)).length rc]) (by simp [results, Tryz.results23, go_sem, c1, c2]) rfl ⟨_, by rw [HE.out, HV.out]; rfl, ?_, ?_⟩
      · rw [HB.out]; exact (hr.set2 (by simp) _ _).mono (by simp)
      · exact ext_box2 (y0.trans x1) (Nat.le_refl _) _ _

theorem refmake_ok {w : World} {v : Value} {A : List Nat} (hA : Limbs w v A) (hl : A.length ≤ 65536) (neg : Bool) {b : Bool} {m : Nat} (hb : decide (iv neg A < 0) = b) (hm : (iv neg A).natAbs = m) :
    Calls Tryz.prog 23 #[.bool neg, v] w fun e w' => ∃ v, e = .returned (.agg #[.bool b, v]) ∧ OwnL w.heap.size w' v (dig m) ∧ Ext w w' :=
  (refmake_calls hA hl neg).mono fun _ _ h => h.by hb hm

set_option maxHeartbeats 1000000 in
set_option maxRecDepth 100000 in
theorem refsign_calls {w : World} {v : Value} {A : List Nat} (hA : Limbs w v A) (hl : A.length ≤ 65536) (neg : Bool) :
    Calls Tryz.prog 29 #[.agg #[.bool neg, v]] w fun e w' => e = .returned (.int .i64 (iv neg A).sign) ∧ Ext w w' := by
  have HL := Lib.hid hl
  obtain ⟨pa, pc, rfl, -, -, -⟩ := hA.open
  obtain ⟨b, hb⟩ : ∃ b, decide (iv neg A < 0) = b := ⟨_, rfl⟩
  obtain ⟨m, hm⟩ : ∃ m, (iv neg A).natAbs = m := ⟨_, rfl⟩
  have hS : (iv neg A).sign = if m = 0 then 0 else if b then -1 else 1 := by
    rw [← hm, ← hb]
    generalize iv neg A = z
    rcases Int.lt_trichotomy z 0 with h | h | h
    · rw [Int.sign_eq_neg_one_of_neg h, if_neg (by omega), decide_eq_true h]; rfl
    · subst h; rfl
    · rw [Int.sign_eq_one_of_pos h, if_neg (by omega), decide_eq_false (by omega)]; rfl
  have HS := Lib.hid hS
  have HB := Lib.hid hb
  have HM := Lib.hid hm
  have y0 := (Ext.refl w).alloc (.cells #[.bool neg, .slice pa A.length pc] 25)
  clear hl hS hb hm
  by_cases h0 : m = 0
  · have HD : Hid (dig m = []) := by show _ = _; rw [h0, dig_zero]
    have HR : Hid ((iv neg A).sign = 0) := by show _ = _; rw [HS.out, if_pos h0]
    clear h0
    go_enter Tryz.func29, Tryz.ntmps29
    go_wp2_with fail
    refine (refmake_ok (hA.ext y0) HL.out neg HB.out HM.out).mono ?_
    rintro e w1 ⟨r, rfl, hr, x1⟩
    obtain ⟨c1, c2, c3, c4⟩ := box2 x1
    rw [HD.out] at hr
    obtain ⟨ra, rc, rfl, -, -, -⟩ := hr.limbs.open
    go_wp2_with fail
    go_ret
    exact ⟨ret_eq (int_eq (by rw [HR.out])), ext_box2 (y0.trans x1) (Nat.le_refl _) _ _⟩
  · have hd : (1 : Int) ≤ ((dig m).length : Nat) := by
      have : dig m ≠ [] := by intro e; apply h0; rw [← val_dig m, e]; rfl
      have := List.length_pos_iff.2 this
      omega
    have HR : Hid ((iv neg A).sign = if b then -1 else 1) := by show _ = _; rw [HS.out, if_neg h0]
    clear h0
    cases b with
    | true =>
      go_enter Tryz.func29, Tryz.ntmps29
      go_wp2_with fail
      refine (refmake_ok (hA.ext y0) HL.out neg HB.out HM.out).mono ?_
      rintro e w1 ⟨r, rfl, hr, x1⟩
      obtain ⟨c1, c2, c3, c4⟩ := box2 x1
      obtain ⟨ra, rc, rfl, -, -, -⟩ := hr.limbs.open
      go_wp2_with fail
      go_ret
      exact ⟨ret_eq (int_eq (by rw [HR.out]; rfl)), ext_box2 (y0.trans x1) (Nat.le_refl _) _ _⟩
    | false =>
      go_enter Tryz.func29, Tryz.ntmps29
      go_wp2_with fail
      refine (refmake_ok (hA.ext y0) HL.out neg HB.out HM.out).mono ?_
      rintro e w1 ⟨r, rfl, hr, x1⟩
      obtain ⟨c1, c2, c3, c4⟩ := box2 x1
      obtain ⟨ra, rc, rfl, -, -, -⟩ := hr.limbs.open
      go_wp2_with fail
      go_ret
      exact ⟨ret_eq (int_eq (by rw [HR.out]; rfl)), ext_box2 (y0.trans x1) (Nat.le_refl _) _ _⟩

theorem refmaker_ok {w : World} {v : Value} {r : Nat} (hA : Limbs w v (dig r)) (hl : (dig r).length ≤ 65536) :
    Calls Tryz.prog 23 #[.bool false, v] w fun e w' => ∃ v, e = .returned (.agg #[.bool false, v]) ∧ OwnL w.heap.size w' v (dig r) ∧ Ext w w' :=
  refmake_ok hA hl false (by rw [iv_dig_false]; simp) (by rw [iv_dig_false]; omega)
theorem len_pos {n : Nat} (h : ¬ n = 0) : (1 : Int) ≤ ((dig n).length : Nat) := by
  have : dig n ≠ [] := by intro e; apply h; rw [← val_dig n, e]; rfl
  have := List.length_pos_iff.2 this
  omega
end Go.Proofs.YtomhfipgabpfiaaGreatDoor
