/- The contracts of tombolaref06.Over, Of, Count. -/
import Derived.Test.YtaklejkdmfgplaaGreatDoorRefMake06c
import Derived.Test.YtaklejkdmfgplaaGreatDoorInts2
namespace Go.Proofs.YtaklejkdmfgplaaGreatDoor
open Go Go.RowKit

theorem lito_n0 {w0 w : World} {C : Array Value} (A : List Nat) (hA : ∀ x ∈ A, x ≤ 65535) (hC : C.toList = A.map lv) (n : Nat) (hn : n = A.length) (hl : A.length ≤ 100) (hs : w0.heap.size ≤ w.heap.size) : OwnL w0.heap.size (w.alloc (.cells C 54)) (.slice (some ⟨w.heap.size, 0, none⟩) n n) A :=
  (own_lit w A (fun x hx => small_Bs (hA x hx)) C hC n hn (by rw [Lmax_def]; omega)).mono hs
theorem lito_n1 {w0 w : World} {o1 : Obj} {C : Array Value} (A : List Nat) (hA : ∀ x ∈ A, x ≤ 65535) (hC : C.toList = A.map lv) (n : Nat) (hn : n = A.length) (hl : A.length ≤ 100) (hs : w0.heap.size ≤ w.heap.size) : OwnL w0.heap.size ((w.alloc o1).alloc (.cells C 54)) (.slice (some ⟨w.heap.size + 1, 0, none⟩) n n) A := by
  have := lito_n0 (w0 := w0) (w := w.alloc o1) A hA hC n hn hl (by simp; omega); simpa using this
set_option maxHeartbeats 4000000 in
set_option maxRecDepth 100000 in
theorem count06_is {w : World} {b : Bool} {v u : Value} {k : Nat} {q : Rat} (h : InR w b v u k q) (hk : k ≤ 1000) :
    Calls Tryz.prog 79 #[.agg #[.bool b, v, u]] w (RetR w q) := by
  obtain ⟨A, B, hA, hB, hq, hlA, hlB, hk1⟩ := h
  obtain ⟨pa, qa, rfl, -, -, -⟩ := hA.open
  obtain ⟨pb, qb, rfl, -, -, -⟩ := hB.open
  have HQ := Lib.hid hq
  have HLA := Lib.hid hlA
  have HLB := Lib.hid hlB
  have HK := Lib.hid hk
  clear hq hlA hlB hk
  by_cases hb0 : val B = 0
  · have HB0 := Lib.hid hb0
    clear hb0
    go_enter Tryz.func79, Tryz.ntmps79
    go_wp2_with fail
    obtain ⟨v1, hv1⟩ : ∃ W, W = ((w.alloc (.cells #[.bool b, .slice pa A.length qa, .slice pb B.length qb] 36)).alloc (.cells #[.bool false, .slice none 0 0, .slice none 0 0] 36)) := ⟨_, rfl⟩
    have y1 : Ext w v1 := by rw [hv1]; exact (((Ext.refl _).alloc _).alloc _)
    have b0_0 : Hid (At (w.heap.size) 0 (.bool b) v1) := by rw [hv1]; exact At.ext (At.n0 (by rfl)) ((Ext.refl _).alloc _)
    have b0_1 : Hid (At (w.heap.size) 1 (.slice pa A.length qa) v1) := by rw [hv1]; exact At.ext (At.n0 (by rfl)) ((Ext.refl _).alloc _)
    have b0_2 : Hid (At (w.heap.size) 2 (.slice pb B.length qb) v1) := by rw [hv1]; exact At.ext (At.n0 (by rfl)) ((Ext.refl _).alloc _)
    have k0 : Hid (Bx 3 (w.heap.size) v1) := by rw [hv1]; exact Bx.gr (Bx.n0 3 ⟨rfl, by decide⟩ (by decide) noI_s3) (Ext.gr ((Ext.refl _).alloc _))
    have u0 : Hid (w.heap.size < v1.heap.size) := b0_0.out.2
    have b1_0 : Hid (At (w.heap.size + 1) 0 (.bool false) v1) := by rw [hv1]; exact At.ext (At.n1 (by rfl)) (Ext.refl _)
    have b1_1 : Hid (At (w.heap.size + 1) 1 (.slice none 0 0) v1) := by rw [hv1]; exact At.ext (At.n1 (by rfl)) (Ext.refl _)
    have b1_2 : Hid (At (w.heap.size + 1) 2 (.slice none 0 0) v1) := by rw [hv1]; exact At.ext (At.n1 (by rfl)) (Ext.refl _)
    have k1 : Hid (Bx 3 (w.heap.size + 1) v1) := by rw [hv1]; exact Bx.gr (Bx.n1 3 ⟨rfl, by decide⟩ (by decide) noI_s3) (Ext.gr (Ext.refl _))
    have u1 : Hid (w.heap.size + 1 < v1.heap.size) := b1_0.out.2
    have e1_ : Ext w v1 := y1
    rw [← hv1]
    clear hv1
    refine (rmake06_zero ⟨_, (hA.ext y1), rfl, HLA.out⟩ ⟨_, (hB.ext y1), rfl, HLB.out⟩ HB0.out (by have h1 := HK.out; have h2 := HLA.out; have h3 := HLB.out; omega) (by have h1 := HK.out; have h2 := HLA.out; have h3 := HLB.out; omega)).mono ?_
    rintro e w2 ⟨rfl, x2⟩
    have e2_ : Ext w w2 := Ext.trans e1_ x2
    have g1_0 := (b1_0.out.ext x2).1
    have g1_1 := (b1_1.out.ext x2).1
    have g1_2 := (b1_2.out.ext x2).1
    have z1_0 := (k1.out.gr x2.gr).free 0
    have z1_1 := (k1.out.gr x2.gr).free 1
    have z1_2 := (k1.out.gr x2.gr).free 2
    have f1 : w.heap.size + 1 < w2.heap.size := (b1_0.out.ext x2).2
    have ff1 : w.heap.size + 1 < w2.heap.size + 1 := Nat.lt_succ_of_lt f1
    go_wp2_with fail
    obtain ⟨v3, hv3⟩ : ∃ W, W = (((w2.setCell ⟨w.heap.size + 1, 0, none⟩ (.bool false)).setCell ⟨w.heap.size + 1, 1, none⟩ (.slice none 0 0)).setCell ⟨w.heap.size + 1, 2, none⟩ (.slice (some ⟨w2.heap.size + 1, 0, none⟩) 1 1)) := ⟨_, rfl⟩
    have sv3 : v3 = setRow (w.heap.size + 1) 0 [.bool false, .slice none 0 0, .slice (some ⟨w2.heap.size + 1, 0, none⟩) 1 1] w2 := hv3
    have uv3 := setRow_bx' (o := 0) (cs := [.bool false, .slice none 0 0, .slice (some ⟨w2.heap.size + 1, 0, none⟩) 1 1]) (k1.out.gr x2.gr) (by simp) noI_s3
    have y3 : Gr w2 v3 := by rw [sv3]; exact setRow_gr' (o := 0) (cs := [.bool false, .slice none 0 0, .slice (some ⟨w2.heap.size + 1, 0, none⟩) 1 1]) (k1.out.gr x2.gr) (by simp) noI_s3
    have t3 : Hid (∀ t o u, t ≠ (w.heap.size + 1) → At t o u w2 → At t o u v3) := fun t o u h k => by rw [sv3]; exact k.setRow h _ _
    have e3_ : Ext w v3 := by rw [sv3]; exact setRow_below _ _ (by omega) _ _ e2_
    have zz3 : v3.heap.size = w2.heap.size := by rw [sv3, setRow_size]
    have b1_0 : Hid (At (w.heap.size + 1) 0 (.bool false) v3) := by rw [sv3]; exact uv3.2.1 0 _ rfl
    have b1_1 : Hid (At (w.heap.size + 1) 1 (.slice none 0 0) v3) := by rw [sv3]; exact uv3.2.1 1 _ rfl
    have b1_2 : Hid (At (w.heap.size + 1) 2 (.slice (some ⟨w2.heap.size + 1, 0, none⟩) 1 1) v3) := by rw [sv3]; exact uv3.2.1 2 _ rfl
    have k1 : Hid (Bx 3 (w.heap.size + 1) v3) := by rw [sv3]; exact uv3.1
    rw [← hv3]
    clear hv3 sv3 uv3
    obtain ⟨v4, hv4⟩ : ∃ W, W = ((v3.alloc (.cells #[.bool false, .slice none 0 0, .slice none 0 0] 36)).alloc (.cells #[.int .u64 1] 54)) := ⟨_, rfl⟩
    have y4 : Ext v3 v4 := by rw [hv4]; exact (((Ext.refl _).alloc _).alloc _)
    have b2_0 : Hid (At (w2.heap.size) 0 (.bool false) v4) := by rw [← zz3, hv4]; exact At.ext (At.n0 (by rfl)) ((Ext.refl _).alloc _)
    have b2_1 : Hid (At (w2.heap.size) 1 (.slice none 0 0) v4) := by rw [← zz3, hv4]; exact At.ext (At.n0 (by rfl)) ((Ext.refl _).alloc _)
    have b2_2 : Hid (At (w2.heap.size) 2 (.slice none 0 0) v4) := by rw [← zz3, hv4]; exact At.ext (At.n0 (by rfl)) ((Ext.refl _).alloc _)
    have k2 : Hid (Bx 3 (w2.heap.size) v4) := by rw [← zz3, hv4]; exact Bx.gr (Bx.n0 3 ⟨rfl, by decide⟩ (by decide) noI_s3) (Ext.gr ((Ext.refl _).alloc _))
    have u2 : Hid (w2.heap.size < v4.heap.size) := b2_0.out.2
    have r3 : Hid (Limbs v4 (.slice (some ⟨w2.heap.size + 1, 0, none⟩) 1 1) [1]) := by rw [← zz3, hv4]; exact (lit_n1 [1] (by decide) rfl 1 rfl (by decide)).ext (Ext.refl _)
    have ro3 : Hid (OwnL w.heap.size v4 (.slice (some ⟨w2.heap.size + 1, 0, none⟩) 1 1) [1]) := by rw [← zz3, hv4]; exact OwnL.ext (lito_n1 [1] (by decide) rfl 1 rfl (by decide) (by omega)) (Ext.refl _)
    have e4_ : Ext w v4 := Ext.trans e3_ y4
    rw [← hv4]
    clear hv4
    have c0 := (b1_0.out.ext y4).1
    have c1 := (b1_1.out.ext y4).1
    have c2 := (b1_2.out.ext y4).1
    refine bodyPost_ret (v := .agg #[.bool false, .slice none 0 0, .slice (some ⟨w2.heap.size + 1, 0, none⟩) 1 1]) (by simp [results, Tryz.results79, go_sem, c0, c1, c2]) rfl ?_
    exact ⟨_, _, _, _, _, rfl, by rw [← HQ.out, HB0.out, Rat.mkRat_zero]; exact isR_mk (q := 0) (zero_is _) (lit_dig r3.out (by decide) (by decide)) rfl, ⟨by rw [dig_zero]; exact OwnL.nil _ _, (show OwnL _ _ _ (dig 1) by rw [dig_one one_lt_Bs (by decide)]; exact ro3.out)⟩, e4_⟩
  · have HB0 : Hid (val B ≠ 0) := hb0
    clear hb0
    go_enter Tryz.func79, Tryz.ntmps79
    go_wp2_with fail
    obtain ⟨v1, hv1⟩ : ∃ W, W = ((w.alloc (.cells #[.bool b, .slice pa A.length qa, .slice pb B.length qb] 36)).alloc (.cells #[.bool false, .slice none 0 0, .slice none 0 0] 36)) := ⟨_, rfl⟩
    have y1 : Ext w v1 := by rw [hv1]; exact (((Ext.refl _).alloc _).alloc _)
    have b0_0 : Hid (At (w.heap.size) 0 (.bool b) v1) := by rw [hv1]; exact At.ext (At.n0 (by rfl)) ((Ext.refl _).alloc _)
    have b0_1 : Hid (At (w.heap.size) 1 (.slice pa A.length qa) v1) := by rw [hv1]; exact At.ext (At.n0 (by rfl)) ((Ext.refl _).alloc _)
    have b0_2 : Hid (At (w.heap.size) 2 (.slice pb B.length qb) v1) := by rw [hv1]; exact At.ext (At.n0 (by rfl)) ((Ext.refl _).alloc _)
    have k0 : Hid (Bx 3 (w.heap.size) v1) := by rw [hv1]; exact Bx.gr (Bx.n0 3 ⟨rfl, by decide⟩ (by decide) noI_s3) (Ext.gr ((Ext.refl _).alloc _))
    have u0 : Hid (w.heap.size < v1.heap.size) := b0_0.out.2
    have b1_0 : Hid (At (w.heap.size + 1) 0 (.bool false) v1) := by rw [hv1]; exact At.ext (At.n1 (by rfl)) (Ext.refl _)
    have b1_1 : Hid (At (w.heap.size + 1) 1 (.slice none 0 0) v1) := by rw [hv1]; exact At.ext (At.n1 (by rfl)) (Ext.refl _)
    have b1_2 : Hid (At (w.heap.size + 1) 2 (.slice none 0 0) v1) := by rw [hv1]; exact At.ext (At.n1 (by rfl)) (Ext.refl _)
    have k1 : Hid (Bx 3 (w.heap.size + 1) v1) := by rw [hv1]; exact Bx.gr (Bx.n1 3 ⟨rfl, by decide⟩ (by decide) noI_s3) (Ext.gr (Ext.refl _))
    have u1 : Hid (w.heap.size + 1 < v1.heap.size) := b1_0.out.2
    have e1_ : Ext w v1 := y1
    rw [← hv1]
    clear hv1
    refine (rmake06_is (q := q) ⟨_, (hA.ext y1), rfl, HLA.out⟩ ⟨_, (hB.ext y1), rfl, HLB.out⟩ HB0.out (by have h1 := HK.out; have h2 := HLA.out; have h3 := HLB.out; omega) (by have h1 := HK.out; have h2 := HLA.out; have h3 := HLB.out; omega) HQ.out).mono ?_
    rintro e w2 ⟨sb1, sv1, su1, sm1, sd1, rfl, e1, o1, x2⟩
    have e2_ : Ext w w2 := Ext.trans e1_ x2
    obtain ⟨sp1, sl1, sc1, tp1, tl1, tc1, rfl, rfl⟩ := e1.slice
    have g1_0 := (b1_0.out.ext x2).1
    have g1_1 := (b1_1.out.ext x2).1
    have g1_2 := (b1_2.out.ext x2).1
    have z1_0 := (k1.out.gr x2.gr).free 0
    have z1_1 := (k1.out.gr x2.gr).free 1
    have z1_2 := (k1.out.gr x2.gr).free 2
    have f1 : w.heap.size + 1 < w2.heap.size := (b1_0.out.ext x2).2
    have ff1 : w.heap.size + 1 < w2.heap.size + 1 := Nat.lt_succ_of_lt f1
    go_wp2_with fail
    obtain ⟨v3, hv3⟩ : ∃ W, W = (((w2.setCell ⟨w.heap.size + 1, 0, none⟩ (.bool sb1)).setCell ⟨w.heap.size + 1, 1, none⟩ (.slice sp1 sl1 sc1)).setCell ⟨w.heap.size + 1, 2, none⟩ (.slice tp1 tl1 tc1)) := ⟨_, rfl⟩
    have sv3 : v3 = setRow (w.heap.size + 1) 0 [.bool sb1, .slice sp1 sl1 sc1, .slice tp1 tl1 tc1] w2 := hv3
    have uv3 := setRow_bx' (o := 0) (cs := [.bool sb1, .slice sp1 sl1 sc1, .slice tp1 tl1 tc1]) (k1.out.gr x2.gr) (by simp) noI_s3
    have y3 : Gr w2 v3 := by rw [sv3]; exact setRow_gr' (o := 0) (cs := [.bool sb1, .slice sp1 sl1 sc1, .slice tp1 tl1 tc1]) (k1.out.gr x2.gr) (by simp) noI_s3
    have t3 : Hid (∀ t o u, t ≠ (w.heap.size + 1) → At t o u w2 → At t o u v3) := fun t o u h k => by rw [sv3]; exact k.setRow h _ _
    have e3_ : Ext w v3 := by rw [sv3]; exact setRow_below _ _ (by omega) _ _ e2_
    have zz3 : v3.heap.size = w2.heap.size := by rw [sv3, setRow_size]
    have b1_0 : Hid (At (w.heap.size + 1) 0 (.bool sb1) v3) := by rw [sv3]; exact uv3.2.1 0 _ rfl
    have b1_1 : Hid (At (w.heap.size + 1) 1 (.slice sp1 sl1 sc1) v3) := by rw [sv3]; exact uv3.2.1 1 _ rfl
    have b1_2 : Hid (At (w.heap.size + 1) 2 (.slice tp1 tl1 tc1) v3) := by rw [sv3]; exact uv3.2.1 2 _ rfl
    have k1 : Hid (Bx 3 (w.heap.size + 1) v3) := by rw [sv3]; exact uv3.1
    rw [← hv3]
    clear hv3 sv3 uv3
    obtain ⟨v4, hv4⟩ : ∃ W, W = (v3.alloc (.cells #[.bool sb1, .slice sp1 sl1 sc1, .slice tp1 tl1 tc1] 36)) := ⟨_, rfl⟩
    have y4 : Ext v3 v4 := by rw [hv4]; exact ((Ext.refl _).alloc _)
    have b2_0 : Hid (At (w2.heap.size) 0 (.bool sb1) v4) := by rw [← zz3, hv4]; exact At.ext (At.n0 (by rfl)) (Ext.refl _)
    have b2_1 : Hid (At (w2.heap.size) 1 (.slice sp1 sl1 sc1) v4) := by rw [← zz3, hv4]; exact At.ext (At.n0 (by rfl)) (Ext.refl _)
    have b2_2 : Hid (At (w2.heap.size) 2 (.slice tp1 tl1 tc1) v4) := by rw [← zz3, hv4]; exact At.ext (At.n0 (by rfl)) (Ext.refl _)
    have k2 : Hid (Bx 3 (w2.heap.size) v4) := by rw [← zz3, hv4]; exact Bx.gr (Bx.n0 3 ⟨rfl, by decide⟩ (by decide) noI_s3) (Ext.gr (Ext.refl _))
    have u2 : Hid (w2.heap.size < v4.heap.size) := b2_0.out.2
    have e4_ : Ext w v4 := Ext.trans e3_ y4
    rw [← hv4]
    clear hv4
    have c0 := (b1_0.out.ext y4).1
    have c1 := (b1_1.out.ext y4).1
    have c2 := (b1_2.out.ext y4).1
    refine bodyPost_ret (v := .agg #[.bool sb1, .slice sp1 sl1 sc1, .slice tp1 tl1 tc1]) (by simp [results, Tryz.results79, go_sem, c0, c1, c2]) rfl ?_
    exact ⟨_, _, _, _, _, rfl, (e1.gr (y3.trans y4.gr)), ((o1.gr (y3.trans y4.gr)).mono e1_.size), e4_⟩

end Go.Proofs.YtaklejkdmfgplaaGreatDoor
