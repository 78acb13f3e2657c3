/- Contracts of tombolaref05: Neg, May, Add, Sub, Mul, Cmp. -/
import Derived.Test.YtefeglkbikcjeaaGreatDoorPartC
import Derived.Test.YtefeglkbikcjeaaGreatDoorRef03
namespace Go.Proofs.YtefeglkbikcjeaaGreatDoor
open Go Go.RowKit

set_option maxHeartbeats 1000000 in
set_option maxRecDepth 100000 in
theorem refneg_calls {w : World} {v : Value} {A : List Nat} (hA : Limbs w v A) (hl : A.length ≤ 65536) (neg : Bool) :
    Calls Tryz.prog 18 #[.agg #[.bool neg, v]] w (RetI w (-(iv neg A))) := by
  obtain ⟨pa, pc, rfl, -, -, -⟩ := hA.open
  have HV : Hid (iv (!neg) A = -(iv neg A)) := by show _ = _; unfold iv; cases neg <;> simp
  have y0 := ((Ext.refl w).alloc (.cells #[.bool neg, .slice pa A.length pc] 25)).alloc (.cells #[.bool false, .slice none 0 0] 25)
  have HL := Lib.hid hl
  clear hl
  go_enter Tryz.func18, Tryz.ntmps18
  go_wp2_with fail
  refine (refmake_calls (hA.ext y0) HL.out (!neg)).mono ?_
  rintro e w2 ⟨r, rfl, hr, x2⟩
  rw [HV.out] at hr
  obtain ⟨c1, c2, c3, c4⟩ := box2 x2
  rw [show (w.alloc (.cells #[.bool neg, .slice pa A.length pc] 25)).heap.size = w.heap.size + 1 by simp] at c1 c2 c3 c4
  obtain ⟨ra, rc, rfl, -, -, -⟩ := hr.limbs.open
  go_wp2_with fail
  refine bodyPost_ret (v := .agg #[.bool (decide (iv (!neg) A < 0)), .slice ra (dig (-(iv neg A)).natAbs).length rc]) (by simp [results, Tryz.results18, go_sem, c1, c2]) rfl (RetI.mk (by rw [HV.out]) ?_ ?_ rfl)
  · exact (hr.set2 (by simp) _ _).mono (by simp; omega)
  · exact ext_box2 (y0.trans x2) (by simp) _ _

set_option maxHeartbeats 2000000 in
set_option maxRecDepth 100000 in
theorem refiadd_calls {w : World} {v u : Value} {A B : List Nat} (hA : Limbs w v A) (hB : Limbs w u B) (hl : A.length ≤ 65535) (hl2 : B.length ≤ 65535) (n1 n2 : Bool) :
    Calls Tryz.prog 19 #[.agg #[.bool n1, v], .agg #[.bool n2, u]] w (RetI w (iv n1 A + iv n2 B)) := by
  obtain ⟨pa, pc, rfl, -, -, -⟩ := hA.open
  obtain ⟨qa, qc, rfl, -, -, -⟩ := hB.open
  have L1 := Lib.hid hl
  have L2 := Lib.hid hl2
  have LS := Lib.hid (len_add hA.2 hB.2 hl hl2)
  have LD := Lib.hid (len_sub hA.2 hl (val B))
  have LD2 := Lib.hid (len_sub hB.2 hl2 (val A))
  have y0 := (((Ext.refl w).alloc (.cells #[.bool n1, .slice pa A.length pc] 25)).alloc (.cells #[.bool n2, .slice qa B.length qc] 25)).alloc (.cells #[.bool false, .slice none 0 0] 25)
  have m0 := (argsAt_mk w n1 n2 (.slice pa A.length pc) (.slice qa B.length qc) 25 25).ext ((Ext.refl _).alloc (.cells #[.bool false, .slice none 0 0] 25))
  have e0 := nilAt_mk ((w.alloc (.cells #[.bool n1, .slice pa A.length pc] 25)).alloc (.cells #[.bool n2, .slice qa B.length qc] 25)) 25
  rw [show ((w.alloc (.cells #[.bool n1, .slice pa A.length pc] 25)).alloc (.cells #[.bool n2, .slice qa B.length qc] 25)).heap.size = w.heap.size + 1 + 1 by simp] at e0
  obtain ⟨W0, hW0⟩ : ∃ W0, W0 = (((w.alloc (.cells #[.bool n1, .slice pa A.length pc] 25)).alloc (.cells #[.bool n2, .slice qa B.length qc] 25)).alloc (.cells #[.bool false, .slice none 0 0] 25)) := ⟨_, rfl⟩
  have hne : ¬ w.heap.size = w.heap.size + 1 + 1 := by omega
  have hne' : ¬ w.heap.size + 1 + 1 = w.heap.size := by omega
  clear hl hl2
  by_cases hn : n1 = n2
  · subst hn
    have hz : iv n1 (dig (val A + val B)) = iv n1 A + iv n1 B := by unfold iv; rw [val_dig]; split <;> omega
    obtain ⟨b8, hb8⟩ : ∃ b, decide (iv n1 (dig (val A + val B)) < 0) = b := ⟨_, rfl⟩
    obtain ⟨m8, hm8⟩ : ∃ m, (iv n1 (dig (val A + val B))).natAbs = m := ⟨_, rfl⟩
    have HZ := Lib.hid hz
    have H8 := Lib.hid hb8
    have K8 := Lib.hid hm8
    clear hz hb8 hm8
    go_enter Tryz.func19, Tryz.ntmps19
    go_wp2_with fail
    rw [← hW0] at y0 m0 e0 ⊢
    clear hW0
    have M0 := Lib.hid m0
    have E0 := Lib.hid e0
    obtain ⟨⟨a1, a2⟩, ⟨b1, b2⟩, -⟩ := m0
    obtain ⟨⟨c1, c2⟩, ⟨d1, d2⟩, hs⟩ := e0
    go_region_held3 (fun W => W.cell? ⟨w.heap.size, 0, none⟩ = some (.bool n1) ∧ W.cell? ⟨w.heap.size, 1, none⟩ = some (.slice pa A.length pc) ∧ W.cell? ⟨w.heap.size + 1, 1, none⟩ = some (.slice qa B.length qc)) (go_keep)
      (first
        | (go_at_call 66; refine (refadd_calls (hA.ext y0.drew) (hB.ext y0.drew) (by have := L1.out; omega) (by have := L2.out; omega)).mono ?_; rintro e w7 ⟨r7, rfl, hr7, x7⟩; obtain ⟨⟨k1, k2⟩, ⟨k3, k4⟩, -⟩ := M0.out.ext (((Ext.refl W0).drew).trans x7); obtain ⟨⟨k5, k6⟩, ⟨k7, k8⟩, -⟩ := E0.out.ext (((Ext.refl W0).drew).trans x7); obtain ⟨ra, rc, rfl, -, -, -⟩ := hr7.limbs.open)
        | (go_at_call 69; refine (refmake_ok hr7.limbs LS.out n1 H8.out K8.out).mono ?_; rintro e w8 ⟨r8, rfl, hr8, x8⟩; obtain ⟨⟨j1, j2⟩, ⟨j3, j4⟩, -⟩ := M0.out.ext (((Ext.refl W0).drew).trans (x7.trans x8)); obtain ⟨⟨j5, j6⟩, ⟨j7, j8⟩, js⟩ := E0.out.ext (((Ext.refl W0).drew).trans (x7.trans x8)); obtain ⟨sa, sc, rfl, -, -, -⟩ := hr8.limbs.open))
    go_wp2_with fail
    refine bodyPost_ret (v := .agg #[.bool b8, .slice sa (dig m8).length sc]) (by simp [results, Tryz.results19, go_sem, j5, j6]) rfl (by rw [← HZ.out]; exact RetI.of H8.out K8.out ((hr8.set2 (by have := x7.size; simp at this; omega) _ _).mono (by have := x7.size; simp at this; omega)) (ext_box2 (y0.drew.trans (x7.trans x8)) (by omega) _ _))
  · have hg : (n1 == n2) = false := by simpa using hn
    obtain ⟨a, ha⟩ : ∃ a, val A = a := ⟨_, rfl⟩
    obtain ⟨b, hb⟩ : ∃ b, val B = b := ⟨_, rfl⟩
    by_cases hab : a < b
    · have hz : iv n2 (dig (val B - val A)) = iv n1 A + iv n2 B := by
        unfold iv; rw [val_dig, ha, hb]; cases n1 <;> cases n2 <;> simp at hn ⊢ <;> omega
      obtain ⟨b8, hb8⟩ : ∃ b, decide (iv n2 (dig (val B - val A)) < 0) = b := ⟨_, rfl⟩
      obtain ⟨m8, hm8⟩ : ∃ m, (iv n2 (dig (val B - val A))).natAbs = m := ⟨_, rfl⟩
      have HZ := Lib.hid hz
      have H8 := Lib.hid hb8
      have K8 := Lib.hid hm8
      have HAB : Hid (val A < val B) := by show _ < _; rw [ha, hb]; exact hab
      clear hz hb8 hm8 ha hb hab
      go_enter Tryz.func19, Tryz.ntmps19
      go_wp2_with fail
      rw [← hW0] at y0 m0 e0 ⊢
      clear hW0
      have M0 := Lib.hid m0
      have E0 := Lib.hid e0
      refine (refsub_calls (hA.ext y0) (hB.ext y0) (by have := L1.out; omega) (by have := L2.out; omega)).mono ?_
      rintro e w7 ⟨r7, rfl, hr7, x7⟩
      rw [if_pos HAB.out]
      obtain ⟨⟨k1, k2⟩, ⟨k3, k4⟩, -⟩ := M0.out.ext x7
      clear m0 e0
      go_wp2_with fail
      refine (refsub_calls (hB.ext (y0.trans x7)) (hA.ext (y0.trans x7)) (by have := L2.out; omega) (by have := L1.out; omega)).mono ?_
      rintro e w8 ⟨r8, rfl, hr8, x8⟩
      rw [if_neg (by have := HAB.out; omega)]
      obtain ⟨⟨k1, k2⟩, ⟨k3, k4⟩, -⟩ := M0.out.ext (x7.trans x8)
      go_wp2_with fail
      refine (refmake_ok hr8.limbs LD2.out n2 H8.out K8.out).mono ?_
      rintro e w9 ⟨r9, rfl, hr9, x9⟩
      obtain ⟨⟨j5, j6⟩, ⟨j7, j8⟩, js⟩ := E0.out.ext (x7.trans (x8.trans x9))
      obtain ⟨sa, sc, rfl, -, -, -⟩ := hr9.limbs.open
      go_wp2_with fail
      have z7 := x7.size
      have z8 := x8.size
      have z0 := y0.size
      have zE := E0.out.2.2
      refine bodyPost_ret (v := .agg #[.bool b8, .slice sa (dig m8).length sc]) (by simp [results, Tryz.results19, go_sem, j5, j6]) rfl (by rw [← HZ.out]; exact RetI.of H8.out K8.out ((hr9.set2 (by omega) _ _).mono (by omega)) (ext_box2 (y0.trans (x7.trans (x8.trans x9))) (by omega) _ _))
    · have hz : iv n1 (dig (val A - val B)) = iv n1 A + iv n2 B := by
        unfold iv; rw [val_dig, ha, hb]; cases n1 <;> cases n2 <;> simp at hn ⊢ <;> omega
      obtain ⟨b8, hb8⟩ : ∃ b, decide (iv n1 (dig (val A - val B)) < 0) = b := ⟨_, rfl⟩
      obtain ⟨m8, hm8⟩ : ∃ m, (iv n1 (dig (val A - val B))).natAbs = m := ⟨_, rfl⟩
      have HZ := Lib.hid hz
      have H8 := Lib.hid hb8
      have K8 := Lib.hid hm8
      have HAB : Hid (¬ val A < val B) := by show ¬ _ < _; rw [ha, hb]; exact hab
      clear hz hb8 hm8 ha hb hab
      go_enter Tryz.func19, Tryz.ntmps19
      go_wp2_with fail
      rw [← hW0] at y0 m0 e0 ⊢
      clear hW0
      have M0 := Lib.hid m0
      have E0 := Lib.hid e0
      refine (refsub_calls (hA.ext y0) (hB.ext y0) (by have := L1.out; omega) (by have := L2.out; omega)).mono ?_
      rintro e w7 ⟨r7, rfl, hr7, x7⟩
      rw [if_neg HAB.out]
      obtain ⟨⟨k1, k2⟩, ⟨k3, k4⟩, -⟩ := M0.out.ext x7
      clear m0 e0
      go_wp2_with fail
      refine (refmake_ok hr7.limbs LD.out n1 H8.out K8.out).mono ?_
      rintro e w9 ⟨r9, rfl, hr9, x9⟩
      obtain ⟨⟨j5, j6⟩, ⟨j7, j8⟩, js⟩ := E0.out.ext (x7.trans x9)
      obtain ⟨sa, sc, rfl, -, -, -⟩ := hr9.limbs.open
      go_wp2_with fail
      have z7 := x7.size
      have z0 := y0.size
      have zE := E0.out.2.2
      refine bodyPost_ret (v := .agg #[.bool b8, .slice sa (dig m8).length sc]) (by simp [results, Tryz.results19, go_sem, j5, j6]) rfl (by rw [← HZ.out]; exact RetI.of H8.out K8.out ((hr9.set2 (by omega) _ _).mono (by omega)) (ext_box2 (y0.trans (x7.trans x9)) (by omega) _ _))

theorem refiadd_ok {w : World} {v u : Value} {A B : List Nat} (hA : Limbs w v A) (hB : Limbs w u B) (hl : A.length ≤ 65535) (hl2 : B.length ≤ 65535) (n1 n2 : Bool) {b : Bool} {m : Nat} (hb : decide (iv n1 A + iv n2 B < 0) = b) (hm : (iv n1 A + iv n2 B).natAbs = m) :
    Calls Tryz.prog 19 #[.agg #[.bool n1, v], .agg #[.bool n2, u]] w fun e w' => ∃ v, e = .returned (.agg #[.bool b, v]) ∧ OwnL w.heap.size w' v (dig m) ∧ Ext w w' :=
  (refiadd_calls hA hB hl hl2 n1 n2).mono fun _ _ h => h.by hb hm
theorem refneg_ok {w : World} {v : Value} {A : List Nat} (hA : Limbs w v A) (hl : A.length ≤ 65536) (neg : Bool) {b : Bool} {m : Nat} (hb : decide (-(iv neg A) < 0) = b) (hm : (-(iv neg A)).natAbs = m) :
    Calls Tryz.prog 18 #[.agg #[.bool neg, v]] w fun e w' => ∃ v, e = .returned (.agg #[.bool b, v]) ∧ OwnL w.heap.size w' v (dig m) ∧ Ext w w' :=
  (refneg_calls hA hl neg).mono fun _ _ h => h.by hb hm

set_option maxHeartbeats 1000000 in
set_option maxRecDepth 100000 in
theorem refisub_calls {w : World} {v u : Value} {A B : List Nat} (hA : Limbs w v A) (hB : Limbs w u B) (hl : A.length ≤ 65535) (hl2 : B.length ≤ 65535) (n1 n2 : Bool) :
    Calls Tryz.prog 20 #[.agg #[.bool n1, v], .agg #[.bool n2, u]] w (RetI w (iv n1 A - iv n2 B)) := by
  obtain ⟨pa, pc, rfl, -, -, -⟩ := hA.open
  obtain ⟨qa, qc, rfl, -, -, -⟩ := hB.open
  have L1 := Lib.hid hl
  have L2 := Lib.hid hl2
  obtain ⟨b7, hb7⟩ : ∃ b, decide (-(iv n2 B) < 0) = b := ⟨_, rfl⟩
  obtain ⟨m7, hm7⟩ : ∃ m, (-(iv n2 B)).natAbs = m := ⟨_, rfl⟩
  have L3 : Hid ((dig m7).length ≤ 65535) := by show _ ≤ _; rw [← hm7, Int.natAbs_neg]; exact len_abs hB.2 hl2 n2
  have hz : iv n1 A + iv b7 (dig m7) = iv n1 A - iv n2 B := by rw [← hb7, ← hm7, iv_sgn]; omega
  obtain ⟨b8, hb8⟩ : ∃ b, decide (iv n1 A + iv b7 (dig m7) < 0) = b := ⟨_, rfl⟩
  obtain ⟨m8, hm8⟩ : ∃ m, (iv n1 A + iv b7 (dig m7)).natAbs = m := ⟨_, rfl⟩
  have HZ := Lib.hid hz
  have H7 := Lib.hid hb7
  have K7 := Lib.hid hm7
  have H8 := Lib.hid hb8
  have K8 := Lib.hid hm8
  clear hz hb7 hm7 hb8 hm8
  have y0 := (((Ext.refl w).alloc (.cells #[.bool n1, .slice pa A.length pc] 25)).alloc (.cells #[.bool n2, .slice qa B.length qc] 25)).alloc (.cells #[.bool false, .slice none 0 0] 25)
  have m0 := (argsAt_mk w n1 n2 (.slice pa A.length pc) (.slice qa B.length qc) 25 25).ext ((Ext.refl _).alloc (.cells #[.bool false, .slice none 0 0] 25))
  have e0 := nilAt_mk ((w.alloc (.cells #[.bool n1, .slice pa A.length pc] 25)).alloc (.cells #[.bool n2, .slice qa B.length qc] 25)) 25
  rw [show ((w.alloc (.cells #[.bool n1, .slice pa A.length pc] 25)).alloc (.cells #[.bool n2, .slice qa B.length qc] 25)).heap.size = w.heap.size + 1 + 1 by simp] at e0
  obtain ⟨W0, hW0⟩ : ∃ W0, W0 = (((w.alloc (.cells #[.bool n1, .slice pa A.length pc] 25)).alloc (.cells #[.bool n2, .slice qa B.length qc] 25)).alloc (.cells #[.bool false, .slice none 0 0] 25)) := ⟨_, rfl⟩
  clear hl hl2
  go_enter Tryz.func20, Tryz.ntmps20
  go_wp2_with fail
  rw [← hW0] at y0 m0 e0 ⊢
  clear hW0
  have M0 := Lib.hid m0
  have E0 := Lib.hid e0
  obtain ⟨⟨a1, a2⟩, ⟨b1, b2⟩, -⟩ := m0
  obtain ⟨⟨c1, c2⟩, ⟨d1, d2⟩, hs⟩ := e0
  have hne : ¬ w.heap.size = w.heap.size + 1 + 1 := by omega
  have hne' : ¬ w.heap.size + 1 + 1 = w.heap.size := by omega
  go_region_held3 (fun W => W.cell? ⟨w.heap.size, 0, none⟩ = some (.bool n1) ∧ W.cell? ⟨w.heap.size, 1, none⟩ = some (.slice pa A.length pc) ∧ W.cell? ⟨w.heap.size + 1, 0, none⟩ = some (.bool n2) ∧ W.cell? ⟨w.heap.size + 1, 1, none⟩ = some (.slice qa B.length qc)) (go_keep)
    (first
      | (go_at_call 18; refine (refneg_ok (hB.ext y0.drew) (by have := L2.out; omega) n2 H7.out K7.out).mono ?_; rintro e w7 ⟨r7, rfl, hr7, x7⟩; obtain ⟨⟨k1, k2⟩, ⟨k3, k4⟩, -⟩ := M0.out.ext (((Ext.refl W0).drew).trans x7); obtain ⟨⟨k5, k6⟩, ⟨k7, k8⟩, -⟩ := E0.out.ext (((Ext.refl W0).drew).trans x7); obtain ⟨ra, rc, rfl, -, -, -⟩ := hr7.limbs.open)
      | (go_at_call 19; refine (refiadd_ok ((hA.ext y0.drew).ext x7) hr7.limbs L1.out L3.out n1 b7 H8.out K8.out).mono ?_; rintro e w8 ⟨r8, rfl, hr8, x8⟩; obtain ⟨⟨j1, j2⟩, ⟨j3, j4⟩, -⟩ := M0.out.ext (((Ext.refl W0).drew).trans (x7.trans x8)); obtain ⟨⟨j5, j6⟩, ⟨j7, j8⟩, js⟩ := E0.out.ext (((Ext.refl W0).drew).trans (x7.trans x8)); obtain ⟨sa, sc, rfl, -, -, -⟩ := hr8.limbs.open))
  go_wp2_with fail
  refine bodyPost_ret (v := .agg #[.bool b8, .slice sa (dig m8).length sc]) (by simp [results, Tryz.results20, go_sem, j5, j6]) rfl (by rw [← HZ.out]; exact RetI.of H8.out K8.out ((hr8.set2 (by have := x7.size; simp at this; omega) _ _).mono (by have := x7.size; simp at this; omega)) (ext_box2 (y0.drew.trans (x7.trans x8)) (by omega) _ _))

set_option maxHeartbeats 1000000 in
set_option maxRecDepth 100000 in
theorem refimul_calls {w : World} {v u : Value} {A B : List Nat} (hA : Limbs w v A) (hB : Limbs w u B) (hl : A.length + B.length ≤ 65536) (n1 n2 : Bool) :
    Calls Tryz.prog 21 #[.agg #[.bool n1, v], .agg #[.bool n2, u]] w (RetI w (iv n1 A * iv n2 B)) := by
  obtain ⟨pa, pc, rfl, -, -, -⟩ := hA.open
  obtain ⟨qa, qc, rfl, -, -, -⟩ := hB.open
  have L1 := Lib.hid hl
  obtain ⟨b6, hb6⟩ : ∃ b, (!(n1 == n2)) = b := ⟨_, rfl⟩
  have L3 := Lib.hid (len_mul hA.2 hB.2 hl)
  have hz := mul_iv n1 n2 A B
  rw [hb6] at hz
  have H6 := Lib.hid hb6
  clear hb6
  obtain ⟨b8, hb8⟩ : ∃ b, decide (iv b6 (dig (val A * val B)) < 0) = b := ⟨_, rfl⟩
  obtain ⟨m8, hm8⟩ : ∃ m, (iv b6 (dig (val A * val B))).natAbs = m := ⟨_, rfl⟩
  have HZ := Lib.hid hz
  have H8 := Lib.hid hb8
  have K8 := Lib.hid hm8
  clear hz hb8 hm8
  have y0 := (((Ext.refl w).alloc (.cells #[.bool n1, .slice pa A.length pc] 25)).alloc (.cells #[.bool n2, .slice qa B.length qc] 25)).alloc (.cells #[.bool false, .slice none 0 0] 25)
  have m0 := (argsAt_mk w n1 n2 (.slice pa A.length pc) (.slice qa B.length qc) 25 25).ext ((Ext.refl _).alloc (.cells #[.bool false, .slice none 0 0] 25))
  have e0 := nilAt_mk ((w.alloc (.cells #[.bool n1, .slice pa A.length pc] 25)).alloc (.cells #[.bool n2, .slice qa B.length qc] 25)) 25
  rw [show ((w.alloc (.cells #[.bool n1, .slice pa A.length pc] 25)).alloc (.cells #[.bool n2, .slice qa B.length qc] 25)).heap.size = w.heap.size + 1 + 1 by simp] at e0
  obtain ⟨W0, hW0⟩ : ∃ W0, W0 = (((w.alloc (.cells #[.bool n1, .slice pa A.length pc] 25)).alloc (.cells #[.bool n2, .slice qa B.length qc] 25)).alloc (.cells #[.bool false, .slice none 0 0] 25)) := ⟨_, rfl⟩
  clear hl
  go_enter Tryz.func21, Tryz.ntmps21
  go_wp2_with fail
  rw [← hW0] at y0 m0 e0 ⊢
  clear hW0
  have M0 := Lib.hid m0
  have E0 := Lib.hid e0
  obtain ⟨⟨a1, a2⟩, ⟨b1, b2⟩, -⟩ := m0
  obtain ⟨⟨c1, c2⟩, ⟨d1, d2⟩, hs⟩ := e0
  have hne : ¬ w.heap.size = w.heap.size + 1 + 1 := by omega
  have hne' : ¬ w.heap.size + 1 + 1 = w.heap.size := by omega
  go_region_held3 (fun W => W.cell? ⟨w.heap.size, 0, none⟩ = some (.bool n1) ∧ W.cell? ⟨w.heap.size, 1, none⟩ = some (.slice pa A.length pc) ∧ W.cell? ⟨w.heap.size + 1, 0, none⟩ = some (.bool n2) ∧ W.cell? ⟨w.heap.size + 1, 1, none⟩ = some (.slice qa B.length qc)) (go_keep)
    (first
      | (go_at_call 78; refine (refmul_calls (hA.ext y0.drew) (hB.ext y0.drew) (by have := L1.out; omega) (by have := L1.out; omega)).mono ?_; rintro e w7 ⟨r7, rfl, hr7, x7⟩; obtain ⟨⟨k1, k2⟩, ⟨k3, k4⟩, -⟩ := M0.out.ext (((Ext.refl W0).drew).trans x7); obtain ⟨⟨k5, k6⟩, ⟨k7, k8⟩, -⟩ := E0.out.ext (((Ext.refl W0).drew).trans x7))
      | (go_at_call 69; rw [H6.out]; refine (refmake_ok hr7.limbs L3.out b6 H8.out K8.out).mono ?_; rintro e w8 ⟨r8, rfl, hr8, x8⟩; obtain ⟨⟨j1, j2⟩, ⟨j3, j4⟩, -⟩ := M0.out.ext (((Ext.refl W0).drew).trans (x7.trans x8)); obtain ⟨⟨j5, j6⟩, ⟨j7, j8⟩, js⟩ := E0.out.ext (((Ext.refl W0).drew).trans (x7.trans x8)); obtain ⟨sa, sc, rfl, -, -, -⟩ := hr8.limbs.open))
  go_wp2_with fail
  refine bodyPost_ret (v := .agg #[.bool b8, .slice sa (dig m8).length sc]) (by simp [results, Tryz.results21, go_sem, j5, j6]) rfl (by rw [← HZ.out]; exact RetI.of H8.out K8.out ((hr8.set2 (by have := x7.size; simp at this; omega) _ _).mono (by have := x7.size; simp at this; omega)) (ext_box2 (y0.drew.trans (x7.trans x8)) (by omega) _ _))

theorem refof_int {w : World} (z : Int) (n : Nat) (hn : n < Bs) (hz : z = (n : Int)) : Calls Tryz.prog 67 #[.int .u64 z] w (RetNat w n) := by
  subst hz; exact refof_calls hn

end Go.Proofs.YtefeglkbikcjeaaGreatDoor
