/- Tables that nobody made, and nil; shares of places that are none. -/
import Derived.Test.YtefeglkbikcjeaaDoorPartH
namespace Go.Proofs.YtefeglkbikcjeaaDoor
open Go Go.RowKit

/-- no table: nil, or one that New did not make -/
def NoTab (pv : Value) (w : World) : Prop := pv = .pointer none ∨ ∃ s, pv = .pointer (some ⟨s, 0, none⟩) ∧ At s 0 (.slice none 0 0) w
theorem NoTab.ext {pv : Value} {w w' : World} (h : NoTab pv w) (x : Ext w w') : NoTab pv w' := by
  rcases h with h | ⟨s, h, hc⟩
  · exact .inl h
  · exact .inr ⟨s, h, hc.ext x⟩
set_option maxHeartbeats 1000000 in
theorem flen0 {w : World} {pv : Value} (h : NoTab pv w) : Calls Tryd.prog 34 #[pv] w fun e w' => e = .returned (.int .i64 0) ∧ Ext w w' := by
  rcases h with rfl | ⟨s, rfl, hc⟩
  · go_enter Tryd.func34, Tryd.ntmps34
    go_wp2_with fail
    go_ret
    exact ⟨rfl, Ext.refl _⟩
  · have c := hc.1
    go_enter Tryd.func34, Tryd.ntmps34
    go_wp2_with fail
    go_ret
    exact ⟨rfl, Ext.refl _⟩

set_option maxHeartbeats 2000000 in
set_option maxRecDepth 100000 in
theorem fsum0 {w : World} {pv : Value} (h : NoTab pv w)  :
    Calls Tryd.prog 26 #[pv] w fun e w' => e = .returned (.int .i64 0) ∧ Ext w w' := by
  rcases h with rfl | ⟨s, rfl, hc⟩
  · go_enter Tryd.func26, Tryd.ntmps26
    go_wp2_with fail
    refine (flen0 (.inl rfl)).mono ?_
    rintro e w1 ⟨rfl, x1⟩
    have e1_ : Ext w w1 := Ext.trans (Ext.refl w) x1
    go_wp2_with fail
    go_ret
    exact ⟨rfl, e1_⟩
  · go_enter Tryd.func26, Tryd.ntmps26
    go_wp2_with fail
    refine (flen0 (.inr ⟨_, rfl, hc⟩)).mono ?_
    rintro e w1 ⟨rfl, x1⟩
    have e1_ : Ext w w1 := Ext.trans (Ext.refl w) x1
    go_wp2_with fail
    go_ret
    exact ⟨rfl, e1_⟩

set_option maxHeartbeats 2000000 in
set_option maxRecDepth 100000 in
theorem fpick0 {w : World} {pv : Value} (h : NoTab pv w) (r : Int) :
    Calls Tryd.prog 28 #[pv, .int .i64 r] w fun e w' => e = .returned (.tuple #[.int .i64 0, .int .i64 2]) ∧ Ext w w' := by
  rcases h with rfl | ⟨s, rfl, hc⟩
  · go_enter Tryd.func28, Tryd.ntmps28
    go_wp2_with fail
    obtain ⟨v1, hv1⟩ : ∃ W, W = ((w.alloc (.cells #[.pointer none] 56)).alloc (.cells #[.int .i64 r] 2)) := ⟨_, rfl⟩
    have y1 : Ext w v1 := by rw [hv1]; exact (((Ext.refl _).alloc _).alloc _)
    have b0_0 : Hid (At (w.heap.size) 0 (.pointer none) v1) := by rw [hv1]; exact At.ext (At.n0 (by rfl)) ((Ext.refl _).alloc _)
    have k0 : Hid (Bx 1 (w.heap.size) v1) := by rw [hv1]; exact Bx.gr (Bx.n0 1 ⟨rfl, by decide⟩ (by decide) (by intro u hu; simp at hu; subst hu; trivial)) (Ext.gr ((Ext.refl _).alloc _))
    have u0 : Hid (w.heap.size < v1.heap.size) := b0_0.out.2
    have b1_0 : Hid (At (w.heap.size + 1) 0 (.int .i64 r) v1) := by rw [hv1]; exact At.ext (At.n1 (by rfl)) (Ext.refl _)
    have u1 : Hid (w.heap.size + 1 < v1.heap.size) := b1_0.out.2
    have e1_ : Ext w v1 := y1
    rw [← hv1]
    clear hv1
    refine (flen0 (.inl rfl)).mono ?_
    rintro e w2 ⟨rfl, x2⟩
    have e2_ : Ext w w2 := Ext.trans e1_ x2
    go_wp2_with fail
    go_ret2
    exact ⟨rfl, e2_⟩
  · go_enter Tryd.func28, Tryd.ntmps28
    go_wp2_with fail
    obtain ⟨v1, hv1⟩ : ∃ W, W = ((w.alloc (.cells #[.pointer (some ⟨s, 0, none⟩)] 56)).alloc (.cells #[.int .i64 r] 2)) := ⟨_, rfl⟩
    have y1 : Ext w v1 := by rw [hv1]; exact (((Ext.refl _).alloc _).alloc _)
    have b0_0 : Hid (At (w.heap.size) 0 (.pointer (some ⟨s, 0, none⟩)) v1) := by rw [hv1]; exact At.ext (At.n0 (by rfl)) ((Ext.refl _).alloc _)
    have k0 : Hid (Bx 1 (w.heap.size) v1) := by rw [hv1]; exact Bx.gr (Bx.n0 1 ⟨rfl, by decide⟩ (by decide) (by intro u hu; simp at hu; subst hu; trivial)) (Ext.gr ((Ext.refl _).alloc _))
    have u0 : Hid (w.heap.size < v1.heap.size) := b0_0.out.2
    have b1_0 : Hid (At (w.heap.size + 1) 0 (.int .i64 r) v1) := by rw [hv1]; exact At.ext (At.n1 (by rfl)) (Ext.refl _)
    have u1 : Hid (w.heap.size + 1 < v1.heap.size) := b1_0.out.2
    have e1_ : Ext w v1 := y1
    rw [← hv1]
    clear hv1
    refine (flen0 (.inr ⟨_, rfl, (hc.ext y1)⟩)).mono ?_
    rintro e w2 ⟨rfl, x2⟩
    have e2_ : Ext w w2 := Ext.trans e1_ x2
    go_wp2_with fail
    go_ret2
    exact ⟨rfl, e2_⟩

set_option maxHeartbeats 2000000 in
set_option maxRecDepth 100000 in
theorem fshare0 {w : World} {pv : Value} (h : NoTab pv w) (i : Int) :
    Calls Tryd.prog 29 #[pv, .int .i64 i] w (RetRE w 2) := by
  rcases h with rfl | ⟨s, rfl, hc⟩
  · go_enter Tryd.func29, Tryd.ntmps29
    go_wp2_with fail
    obtain ⟨v1, hv1⟩ : ∃ W, W = (w.alloc (.cells #[.bool false, .slice none 0 0, .slice none 0 0] 64)) := ⟨_, rfl⟩
    have y1 : Ext w v1 := by rw [hv1]; exact ((Ext.refl _).alloc _)
    have b0_0 : Hid (At (w.heap.size) 0 (.bool false) v1) := by rw [hv1]; exact At.ext (At.n0 (by rfl)) (Ext.refl _)
    have b0_1 : Hid (At (w.heap.size) 1 (.slice none 0 0) v1) := by rw [hv1]; exact At.ext (At.n0 (by rfl)) (Ext.refl _)
    have b0_2 : Hid (At (w.heap.size) 2 (.slice none 0 0) v1) := by rw [hv1]; exact At.ext (At.n0 (by rfl)) (Ext.refl _)
    have k0 : Hid (Bx 3 (w.heap.size) v1) := by rw [hv1]; exact Bx.gr (Bx.n0 3 ⟨rfl, by decide⟩ (by decide) noI_s3) (Ext.gr (Ext.refl _))
    have u0 : Hid (w.heap.size < v1.heap.size) := b0_0.out.2
    have e1_ : Ext w v1 := y1
    rw [← hv1]
    clear hv1
    refine (flen0 (.inl rfl)).mono ?_
    rintro e w2 ⟨rfl, x2⟩
    have e2_ : Ext w w2 := Ext.trans e1_ x2
    have g0_0 := (b0_0.out.ext x2).1
    have g0_1 := (b0_1.out.ext x2).1
    have g0_2 := (b0_2.out.ext x2).1
    have z0_0 := (k0.out.gr x2.gr).free 0
    have z0_1 := (k0.out.gr x2.gr).free 1
    have z0_2 := (k0.out.gr x2.gr).free 2
    have f0 : w.heap.size < w2.heap.size := (b0_0.out.ext x2).2
    go_wp2_with fail
    obtain ⟨v3, hv3⟩ : ∃ W, W = (((w2.setCell ⟨w.heap.size, 0, none⟩ (.bool false)).setCell ⟨w.heap.size, 1, none⟩ (.slice none 0 0)).setCell ⟨w.heap.size, 2, none⟩ (.slice none 0 0)) := ⟨_, rfl⟩
    have sv3 : v3 = setRow (w.heap.size) 0 [.bool false, .slice none 0 0, .slice none 0 0] w2 := hv3
    have uv3 := setRow_bx' (o := 0) (cs := [.bool false, .slice none 0 0, .slice none 0 0]) (k0.out.gr x2.gr) (by simp) noI_s3
    have y3 : Gr w2 v3 := by rw [sv3]; exact setRow_gr' (o := 0) (cs := [.bool false, .slice none 0 0, .slice none 0 0]) (k0.out.gr x2.gr) (by simp) noI_s3
    have t3 : Hid (∀ t o u, t ≠ (w.heap.size) → At t o u w2 → At t o u v3) := fun t o u h k => by rw [sv3]; exact k.setRow h _ _
    have e3_ : Ext w v3 := by rw [sv3]; exact setRow_below _ _ (by omega) _ _ e2_
    have b0_0 : Hid (At (w.heap.size) 0 (.bool false) v3) := by rw [sv3]; exact uv3.2.1 0 _ rfl
    have b0_1 : Hid (At (w.heap.size) 1 (.slice none 0 0) v3) := by rw [sv3]; exact uv3.2.1 1 _ rfl
    have b0_2 : Hid (At (w.heap.size) 2 (.slice none 0 0) v3) := by rw [sv3]; exact uv3.2.1 2 _ rfl
    have k0 : Hid (Bx 3 (w.heap.size) v3) := by rw [sv3]; exact uv3.1
    rw [← hv3]
    clear hv3 sv3 uv3
    have c0 := b0_0.out.1
    have c1 := b0_1.out.1
    have c2 := b0_2.out.1
    refine bodyPost_ret (v := .tuple #[.agg #[.bool false, .slice none 0 0, .slice none 0 0], .int .i64 2]) (by simp [results, Tryd.results29, go_sem, c0, c1, c2]) rfl ?_
    exact ⟨rfl, e3_⟩
  · go_enter Tryd.func29, Tryd.ntmps29
    go_wp2_with fail
    obtain ⟨v1, hv1⟩ : ∃ W, W = (w.alloc (.cells #[.bool false, .slice none 0 0, .slice none 0 0] 64)) := ⟨_, rfl⟩
    have y1 : Ext w v1 := by rw [hv1]; exact ((Ext.refl _).alloc _)
    have b0_0 : Hid (At (w.heap.size) 0 (.bool false) v1) := by rw [hv1]; exact At.ext (At.n0 (by rfl)) (Ext.refl _)
    have b0_1 : Hid (At (w.heap.size) 1 (.slice none 0 0) v1) := by rw [hv1]; exact At.ext (At.n0 (by rfl)) (Ext.refl _)
    have b0_2 : Hid (At (w.heap.size) 2 (.slice none 0 0) v1) := by rw [hv1]; exact At.ext (At.n0 (by rfl)) (Ext.refl _)
    have k0 : Hid (Bx 3 (w.heap.size) v1) := by rw [hv1]; exact Bx.gr (Bx.n0 3 ⟨rfl, by decide⟩ (by decide) noI_s3) (Ext.gr (Ext.refl _))
    have u0 : Hid (w.heap.size < v1.heap.size) := b0_0.out.2
    have e1_ : Ext w v1 := y1
    rw [← hv1]
    clear hv1
    refine (flen0 (.inr ⟨_, rfl, (hc.ext y1)⟩)).mono ?_
    rintro e w2 ⟨rfl, x2⟩
    have e2_ : Ext w w2 := Ext.trans e1_ x2
    have g0_0 := (b0_0.out.ext x2).1
    have g0_1 := (b0_1.out.ext x2).1
    have g0_2 := (b0_2.out.ext x2).1
    have z0_0 := (k0.out.gr x2.gr).free 0
    have z0_1 := (k0.out.gr x2.gr).free 1
    have z0_2 := (k0.out.gr x2.gr).free 2
    have f0 : w.heap.size < w2.heap.size := (b0_0.out.ext x2).2
    go_wp2_with fail
    obtain ⟨v3, hv3⟩ : ∃ W, W = (((w2.setCell ⟨w.heap.size, 0, none⟩ (.bool false)).setCell ⟨w.heap.size, 1, none⟩ (.slice none 0 0)).setCell ⟨w.heap.size, 2, none⟩ (.slice none 0 0)) := ⟨_, rfl⟩
    have sv3 : v3 = setRow (w.heap.size) 0 [.bool false, .slice none 0 0, .slice none 0 0] w2 := hv3
    have uv3 := setRow_bx' (o := 0) (cs := [.bool false, .slice none 0 0, .slice none 0 0]) (k0.out.gr x2.gr) (by simp) noI_s3
    have y3 : Gr w2 v3 := by rw [sv3]; exact setRow_gr' (o := 0) (cs := [.bool false, .slice none 0 0, .slice none 0 0]) (k0.out.gr x2.gr) (by simp) noI_s3
    have t3 : Hid (∀ t o u, t ≠ (w.heap.size) → At t o u w2 → At t o u v3) := fun t o u h k => by rw [sv3]; exact k.setRow h _ _
    have e3_ : Ext w v3 := by rw [sv3]; exact setRow_below _ _ (by omega) _ _ e2_
    have b0_0 : Hid (At (w.heap.size) 0 (.bool false) v3) := by rw [sv3]; exact uv3.2.1 0 _ rfl
    have b0_1 : Hid (At (w.heap.size) 1 (.slice none 0 0) v3) := by rw [sv3]; exact uv3.2.1 1 _ rfl
    have b0_2 : Hid (At (w.heap.size) 2 (.slice none 0 0) v3) := by rw [sv3]; exact uv3.2.1 2 _ rfl
    have k0 : Hid (Bx 3 (w.heap.size) v3) := by rw [sv3]; exact uv3.1
    rw [← hv3]
    clear hv3 sv3 uv3
    have c0 := b0_0.out.1
    have c1 := b0_1.out.1
    have c2 := b0_2.out.1
    refine bodyPost_ret (v := .tuple #[.agg #[.bool false, .slice none 0 0, .slice none 0 0], .int .i64 2]) (by simp [results, Tryd.results29, go_sem, c0, c1, c2]) rfl ?_
    exact ⟨rfl, e3_⟩

set_option maxHeartbeats 2000000 in
set_option maxRecDepth 100000 in
theorem fdraw0 {w : World} {pv : Value} (h : NoTab pv w) (cv : Value) :
    Calls Tryd.prog 31 #[pv, cv] w fun e w' => e = .returned (.tuple #[.int .i64 0, .bool false]) ∧ Ext w w' := by
  rcases h with rfl | ⟨s, rfl, hc⟩
  · go_enter Tryd.func31, Tryd.ntmps31
    go_wp2_with fail
    refine (flen0 (.inl rfl)).mono ?_
    rintro e w1 ⟨rfl, x1⟩
    have e1_ : Ext w w1 := Ext.trans (Ext.refl w) x1
    go_wp2_with fail
    go_ret2
    exact ⟨rfl, e1_⟩
  · go_enter Tryd.func31, Tryd.ntmps31
    go_wp2_with fail
    refine (flen0 (.inr ⟨_, rfl, hc⟩)).mono ?_
    rintro e w1 ⟨rfl, x1⟩
    have e1_ : Ext w w1 := Ext.trans (Ext.refl w) x1
    go_wp2_with fail
    go_ret2
    exact ⟨rfl, e1_⟩

set_option maxHeartbeats 2000000 in
set_option maxRecDepth 100000 in
theorem fcost0 {w : World} {pv : Value} (h : NoTab pv w)  :
    Calls Tryd.prog 36 #[pv] w (RetR w ((0 : Int) : Rat)) := by
  rcases h with rfl | ⟨s, rfl, hc⟩
  · go_enter Tryd.func36, Tryd.ntmps36
    go_wp2_with fail
    obtain ⟨v1, hv1⟩ : ∃ W, W = (w.alloc (.cells #[.bool false, .slice none 0 0, .slice none 0 0] 64)) := ⟨_, rfl⟩
    have y1 : Ext w v1 := by rw [hv1]; exact ((Ext.refl _).alloc _)
    have b0_0 : Hid (At (w.heap.size) 0 (.bool false) v1) := by rw [hv1]; exact At.ext (At.n0 (by rfl)) (Ext.refl _)
    have b0_1 : Hid (At (w.heap.size) 1 (.slice none 0 0) v1) := by rw [hv1]; exact At.ext (At.n0 (by rfl)) (Ext.refl _)
    have b0_2 : Hid (At (w.heap.size) 2 (.slice none 0 0) v1) := by rw [hv1]; exact At.ext (At.n0 (by rfl)) (Ext.refl _)
    have k0 : Hid (Bx 3 (w.heap.size) v1) := by rw [hv1]; exact Bx.gr (Bx.n0 3 ⟨rfl, by decide⟩ (by decide) noI_s3) (Ext.gr (Ext.refl _))
    have u0 : Hid (w.heap.size < v1.heap.size) := b0_0.out.2
    have e1_ : Ext w v1 := y1
    rw [← hv1]
    clear hv1
    refine (flen0 (.inl rfl)).mono ?_
    rintro e w2 ⟨rfl, x2⟩
    have e2_ : Ext w w2 := Ext.trans e1_ x2
    go_wp2_with fail
    refine (rof_is _ 0 (by decide) (by decide)).mono ?_
    rintro e w3 ⟨sb2, sv2, su2, sm2, sd2, rfl, e2, o2, x3⟩
    have e3_ : Ext w w3 := Ext.trans e2_ x3
    obtain ⟨sp2, sl2, sc2, tp2, tl2, tc2, rfl, rfl⟩ := e2.slice
    have g0_0 := (b0_0.out.ext (x2.trans x3)).1
    have g0_1 := (b0_1.out.ext (x2.trans x3)).1
    have g0_2 := (b0_2.out.ext (x2.trans x3)).1
    have z0_0 := (k0.out.gr (x2.gr.trans x3.gr)).free 0
    have z0_1 := (k0.out.gr (x2.gr.trans x3.gr)).free 1
    have z0_2 := (k0.out.gr (x2.gr.trans x3.gr)).free 2
    have f0 : w.heap.size < w3.heap.size := (b0_0.out.ext (x2.trans x3)).2
    go_wp2_with fail
    obtain ⟨v4, hv4⟩ : ∃ W, W = (((w3.setCell ⟨w.heap.size, 0, none⟩ (.bool sb2)).setCell ⟨w.heap.size, 1, none⟩ (.slice sp2 sl2 sc2)).setCell ⟨w.heap.size, 2, none⟩ (.slice tp2 tl2 tc2)) := ⟨_, rfl⟩
    have sv4 : v4 = setRow (w.heap.size) 0 [.bool sb2, .slice sp2 sl2 sc2, .slice tp2 tl2 tc2] w3 := hv4
    have uv4 := setRow_bx' (o := 0) (cs := [.bool sb2, .slice sp2 sl2 sc2, .slice tp2 tl2 tc2]) (k0.out.gr (x2.gr.trans x3.gr)) (by simp) noI_s3
    have y4 : Gr w3 v4 := by rw [sv4]; exact setRow_gr' (o := 0) (cs := [.bool sb2, .slice sp2 sl2 sc2, .slice tp2 tl2 tc2]) (k0.out.gr (x2.gr.trans x3.gr)) (by simp) noI_s3
    have t4 : Hid (∀ t o u, t ≠ (w.heap.size) → At t o u w3 → At t o u v4) := fun t o u h k => by rw [sv4]; exact k.setRow h _ _
    have e4_ : Ext w v4 := by rw [sv4]; exact setRow_below _ _ (by omega) _ _ e3_
    have b0_0 : Hid (At (w.heap.size) 0 (.bool sb2) v4) := by rw [sv4]; exact uv4.2.1 0 _ rfl
    have b0_1 : Hid (At (w.heap.size) 1 (.slice sp2 sl2 sc2) v4) := by rw [sv4]; exact uv4.2.1 1 _ rfl
    have b0_2 : Hid (At (w.heap.size) 2 (.slice tp2 tl2 tc2) v4) := by rw [sv4]; exact uv4.2.1 2 _ rfl
    have k0 : Hid (Bx 3 (w.heap.size) v4) := by rw [sv4]; exact uv4.1
    rw [← hv4]
    clear hv4 sv4 uv4
    have c0 := b0_0.out.1
    have c1 := b0_1.out.1
    have c2 := b0_2.out.1
    refine bodyPost_ret (v := .agg #[.bool sb2, .slice sp2 sl2 sc2, .slice tp2 tl2 tc2]) (by simp [results, Tryd.results36, go_sem, c0, c1, c2]) rfl ?_
    exact ⟨_, _, _, _, _, rfl, (e2.gr y4), ((o2.gr y4).mono e2_.size), e4_⟩
  · go_enter Tryd.func36, Tryd.ntmps36
    go_wp2_with fail
    obtain ⟨v1, hv1⟩ : ∃ W, W = (w.alloc (.cells #[.bool false, .slice none 0 0, .slice none 0 0] 64)) := ⟨_, rfl⟩
    have y1 : Ext w v1 := by rw [hv1]; exact ((Ext.refl _).alloc _)
    have b0_0 : Hid (At (w.heap.size) 0 (.bool false) v1) := by rw [hv1]; exact At.ext (At.n0 (by rfl)) (Ext.refl _)
    have b0_1 : Hid (At (w.heap.size) 1 (.slice none 0 0) v1) := by rw [hv1]; exact At.ext (At.n0 (by rfl)) (Ext.refl _)
    have b0_2 : Hid (At (w.heap.size) 2 (.slice none 0 0) v1) := by rw [hv1]; exact At.ext (At.n0 (by rfl)) (Ext.refl _)
    have k0 : Hid (Bx 3 (w.heap.size) v1) := by rw [hv1]; exact Bx.gr (Bx.n0 3 ⟨rfl, by decide⟩ (by decide) noI_s3) (Ext.gr (Ext.refl _))
    have u0 : Hid (w.heap.size < v1.heap.size) := b0_0.out.2
    have e1_ : Ext w v1 := y1
    rw [← hv1]
    clear hv1
    refine (flen0 (.inr ⟨_, rfl, (hc.ext y1)⟩)).mono ?_
    rintro e w2 ⟨rfl, x2⟩
    have e2_ : Ext w w2 := Ext.trans e1_ x2
    go_wp2_with fail
    refine (rof_is _ 0 (by decide) (by decide)).mono ?_
    rintro e w3 ⟨sb2, sv2, su2, sm2, sd2, rfl, e2, o2, x3⟩
    have e3_ : Ext w w3 := Ext.trans e2_ x3
    obtain ⟨sp2, sl2, sc2, tp2, tl2, tc2, rfl, rfl⟩ := e2.slice
    have g0_0 := (b0_0.out.ext (x2.trans x3)).1
    have g0_1 := (b0_1.out.ext (x2.trans x3)).1
    have g0_2 := (b0_2.out.ext (x2.trans x3)).1
    have z0_0 := (k0.out.gr (x2.gr.trans x3.gr)).free 0
    have z0_1 := (k0.out.gr (x2.gr.trans x3.gr)).free 1
    have z0_2 := (k0.out.gr (x2.gr.trans x3.gr)).free 2
    have f0 : w.heap.size < w3.heap.size := (b0_0.out.ext (x2.trans x3)).2
    go_wp2_with fail
    obtain ⟨v4, hv4⟩ : ∃ W, W = (((w3.setCell ⟨w.heap.size, 0, none⟩ (.bool sb2)).setCell ⟨w.heap.size, 1, none⟩ (.slice sp2 sl2 sc2)).setCell ⟨w.heap.size, 2, none⟩ (.slice tp2 tl2 tc2)) := ⟨_, rfl⟩
    have sv4 : v4 = setRow (w.heap.size) 0 [.bool sb2, .slice sp2 sl2 sc2, .slice tp2 tl2 tc2] w3 := hv4
    have uv4 := setRow_bx' (o := 0) (cs := [.bool sb2, .slice sp2 sl2 sc2, .slice tp2 tl2 tc2]) (k0.out.gr (x2.gr.trans x3.gr)) (by simp) noI_s3
    have y4 : Gr w3 v4 := by rw [sv4]; exact setRow_gr' (o := 0) (cs := [.bool sb2, .slice sp2 sl2 sc2, .slice tp2 tl2 tc2]) (k0.out.gr (x2.gr.trans x3.gr)) (by simp) noI_s3
    have t4 : Hid (∀ t o u, t ≠ (w.heap.size) → At t o u w3 → At t o u v4) := fun t o u h k => by rw [sv4]; exact k.setRow h _ _
    have e4_ : Ext w v4 := by rw [sv4]; exact setRow_below _ _ (by omega) _ _ e3_
    have b0_0 : Hid (At (w.heap.size) 0 (.bool sb2) v4) := by rw [sv4]; exact uv4.2.1 0 _ rfl
    have b0_1 : Hid (At (w.heap.size) 1 (.slice sp2 sl2 sc2) v4) := by rw [sv4]; exact uv4.2.1 1 _ rfl
    have b0_2 : Hid (At (w.heap.size) 2 (.slice tp2 tl2 tc2) v4) := by rw [sv4]; exact uv4.2.1 2 _ rfl
    have k0 : Hid (Bx 3 (w.heap.size) v4) := by rw [sv4]; exact uv4.1
    rw [← hv4]
    clear hv4 sv4 uv4
    have c0 := b0_0.out.1
    have c1 := b0_1.out.1
    have c2 := b0_2.out.1
    refine bodyPost_ret (v := .agg #[.bool sb2, .slice sp2 sl2 sc2, .slice tp2 tl2 tc2]) (by simp [results, Tryd.results36, go_sem, c0, c1, c2]) rfl ?_
    exact ⟨_, _, _, _, _, rfl, (e2.gr y4), ((o2.gr y4).mono e2_.size), e4_⟩

set_option maxHeartbeats 2000000 in
set_option maxRecDepth 100000 in
theorem fshare_bad {W : List Int} {s : Nat} {p : Option Addr} {cap : Nat} {w : World} (h : Tab W s p cap w) (hW : errW W = 0) (i : Int) (hi : i < 0 ∨ (W.length : Int) ≤ i) :
    Calls Tryd.prog 29 #[.pointer (some ⟨s, 0, none⟩), .int .i64 i] w (RetRE w 1) := by
  have b100_0 := Lib.hid (h).c
  have k100 := Lib.hid (h).bx
  have up100 : Hid (OwnZ 2 0 w _ (ups (W) (W : List Int).length)) := ⟨(h).up, by decide⟩
  have u100 := Lib.hid (h).bx.lt
  have HE := Lib.hid hW
  obtain ⟨n, hn⟩ : ∃ n, W.length = n := ⟨_, rfl⟩
  have HN := Lib.hid hn
  have n1 : ((n : Int) == 0) = false := by have := (errW_ok hW).1; rw [beq_eq_false_iff_ne]; omega
  by_cases c : i < 0
  · clear hn hW hi h
    go_enter Tryd.func29, Tryd.ntmps29
    go_wp2_with fail
    obtain ⟨v1, hv1⟩ : ∃ W, W = (w.alloc (.cells #[.bool false, .slice none 0 0, .slice none 0 0] 64)) := ⟨_, rfl⟩
    have y1 : Ext w v1 := by rw [hv1]; exact ((Ext.refl _).alloc _)
    have b0_0 : Hid (At (w.heap.size) 0 (.bool false) v1) := by rw [hv1]; exact At.ext (At.n0 (by rfl)) (Ext.refl _)
    have b0_1 : Hid (At (w.heap.size) 1 (.slice none 0 0) v1) := by rw [hv1]; exact At.ext (At.n0 (by rfl)) (Ext.refl _)
    have b0_2 : Hid (At (w.heap.size) 2 (.slice none 0 0) v1) := by rw [hv1]; exact At.ext (At.n0 (by rfl)) (Ext.refl _)
    have k0 : Hid (Bx 3 (w.heap.size) v1) := by rw [hv1]; exact Bx.gr (Bx.n0 3 ⟨rfl, by decide⟩ (by decide) noI_s3) (Ext.gr (Ext.refl _))
    have u0 : Hid (w.heap.size < v1.heap.size) := b0_0.out.2
    have e1_ : Ext w v1 := y1
    rw [← hv1]
    clear hv1
    refine (flen_ext ⟨(b100_0.out.ext y1), (k100.out.gr y1.gr), (up100.out.ext y1).1⟩ _ HN.out).mono ?_
    rintro e w2 ⟨rfl, x2⟩
    have e2_ : Ext w w2 := Ext.trans e1_ x2
    have g0_0 := (b0_0.out.ext x2).1
    have g0_1 := (b0_1.out.ext x2).1
    have g0_2 := (b0_2.out.ext x2).1
    have z0_0 := (k0.out.gr x2.gr).free 0
    have z0_1 := (k0.out.gr x2.gr).free 1
    have z0_2 := (k0.out.gr x2.gr).free 2
    have f0 : w.heap.size < w2.heap.size := (b0_0.out.ext x2).2
    go_wp2_with fail
    obtain ⟨v3, hv3⟩ : ∃ W, W = (((w2.setCell ⟨w.heap.size, 0, none⟩ (.bool false)).setCell ⟨w.heap.size, 1, none⟩ (.slice none 0 0)).setCell ⟨w.heap.size, 2, none⟩ (.slice none 0 0)) := ⟨_, rfl⟩
    have sv3 : v3 = setRow (w.heap.size) 0 [.bool false, .slice none 0 0, .slice none 0 0] w2 := hv3
    have uv3 := setRow_bx' (o := 0) (cs := [.bool false, .slice none 0 0, .slice none 0 0]) (k0.out.gr x2.gr) (by simp) noI_s3
    have y3 : Gr w2 v3 := by rw [sv3]; exact setRow_gr' (o := 0) (cs := [.bool false, .slice none 0 0, .slice none 0 0]) (k0.out.gr x2.gr) (by simp) noI_s3
    have t3 : Hid (∀ t o u, t ≠ (w.heap.size) → At t o u w2 → At t o u v3) := fun t o u h k => by rw [sv3]; exact k.setRow h _ _
    have e3_ : Ext w v3 := by rw [sv3]; exact setRow_below _ _ (by omega) _ _ e2_
    have b0_0 : Hid (At (w.heap.size) 0 (.bool false) v3) := by rw [sv3]; exact uv3.2.1 0 _ rfl
    have b0_1 : Hid (At (w.heap.size) 1 (.slice none 0 0) v3) := by rw [sv3]; exact uv3.2.1 1 _ rfl
    have b0_2 : Hid (At (w.heap.size) 2 (.slice none 0 0) v3) := by rw [sv3]; exact uv3.2.1 2 _ rfl
    have k0 : Hid (Bx 3 (w.heap.size) v3) := by rw [sv3]; exact uv3.1
    rw [← hv3]
    clear hv3 sv3 uv3
    have c0 := b0_0.out.1
    have c1 := b0_1.out.1
    have c2 := b0_2.out.1
    refine bodyPost_ret (v := .tuple #[.agg #[.bool false, .slice none 0 0, .slice none 0 0], .int .i64 1]) (by simp [results, Tryd.results29, go_sem, c0, c1, c2]) rfl ?_
    exact ⟨rfl, e3_⟩
  · have c2 : (n : Int) ≤ i := by omega
    clear hn hW hi h
    go_enter Tryd.func29, Tryd.ntmps29
    go_wp2_with fail
    obtain ⟨v1, hv1⟩ : ∃ W, W = (w.alloc (.cells #[.bool false, .slice none 0 0, .slice none 0 0] 64)) := ⟨_, rfl⟩
    have y1 : Ext w v1 := by rw [hv1]; exact ((Ext.refl _).alloc _)
    have b0_0 : Hid (At (w.heap.size) 0 (.bool false) v1) := by rw [hv1]; exact At.ext (At.n0 (by rfl)) (Ext.refl _)
    have b0_1 : Hid (At (w.heap.size) 1 (.slice none 0 0) v1) := by rw [hv1]; exact At.ext (At.n0 (by rfl)) (Ext.refl _)
    have b0_2 : Hid (At (w.heap.size) 2 (.slice none 0 0) v1) := by rw [hv1]; exact At.ext (At.n0 (by rfl)) (Ext.refl _)
    have k0 : Hid (Bx 3 (w.heap.size) v1) := by rw [hv1]; exact Bx.gr (Bx.n0 3 ⟨rfl, by decide⟩ (by decide) noI_s3) (Ext.gr (Ext.refl _))
    have u0 : Hid (w.heap.size < v1.heap.size) := b0_0.out.2
    have e1_ : Ext w v1 := y1
    rw [← hv1]
    clear hv1
    refine (flen_ext ⟨(b100_0.out.ext y1), (k100.out.gr y1.gr), (up100.out.ext y1).1⟩ _ HN.out).mono ?_
    rintro e w2 ⟨rfl, x2⟩
    have e2_ : Ext w w2 := Ext.trans e1_ x2
    go_wp2_with fail
    refine (flen_ext ⟨(b100_0.out.ext (y1.trans x2)), (k100.out.gr (y1.gr.trans x2.gr)), (up100.out.ext (y1.trans x2)).1⟩ _ HN.out).mono ?_
    rintro e w3 ⟨rfl, x3⟩
    have e3_ : Ext w w3 := Ext.trans e2_ x3
    have g0_0 := (b0_0.out.ext (x2.trans x3)).1
    have g0_1 := (b0_1.out.ext (x2.trans x3)).1
    have g0_2 := (b0_2.out.ext (x2.trans x3)).1
    have z0_0 := (k0.out.gr (x2.gr.trans x3.gr)).free 0
    have z0_1 := (k0.out.gr (x2.gr.trans x3.gr)).free 1
    have z0_2 := (k0.out.gr (x2.gr.trans x3.gr)).free 2
    have f0 : w.heap.size < w3.heap.size := (b0_0.out.ext (x2.trans x3)).2
    go_wp2_with fail
    obtain ⟨v4, hv4⟩ : ∃ W, W = (((w3.setCell ⟨w.heap.size, 0, none⟩ (.bool false)).setCell ⟨w.heap.size, 1, none⟩ (.slice none 0 0)).setCell ⟨w.heap.size, 2, none⟩ (.slice none 0 0)) := ⟨_, rfl⟩
    have sv4 : v4 = setRow (w.heap.size) 0 [.bool false, .slice none 0 0, .slice none 0 0] w3 := hv4
    have uv4 := setRow_bx' (o := 0) (cs := [.bool false, .slice none 0 0, .slice none 0 0]) (k0.out.gr (x2.gr.trans x3.gr)) (by simp) noI_s3
    have y4 : Gr w3 v4 := by rw [sv4]; exact setRow_gr' (o := 0) (cs := [.bool false, .slice none 0 0, .slice none 0 0]) (k0.out.gr (x2.gr.trans x3.gr)) (by simp) noI_s3
    have t4 : Hid (∀ t o u, t ≠ (w.heap.size) → At t o u w3 → At t o u v4) := fun t o u h k => by rw [sv4]; exact k.setRow h _ _
    have e4_ : Ext w v4 := by rw [sv4]; exact setRow_below _ _ (by omega) _ _ e3_
    have b0_0 : Hid (At (w.heap.size) 0 (.bool false) v4) := by rw [sv4]; exact uv4.2.1 0 _ rfl
    have b0_1 : Hid (At (w.heap.size) 1 (.slice none 0 0) v4) := by rw [sv4]; exact uv4.2.1 1 _ rfl
    have b0_2 : Hid (At (w.heap.size) 2 (.slice none 0 0) v4) := by rw [sv4]; exact uv4.2.1 2 _ rfl
    have k0 : Hid (Bx 3 (w.heap.size) v4) := by rw [sv4]; exact uv4.1
    rw [← hv4]
    clear hv4 sv4 uv4
    have c0 := b0_0.out.1
    have c1 := b0_1.out.1
    have c2 := b0_2.out.1
    refine bodyPost_ret (v := .tuple #[.agg #[.bool false, .slice none 0 0, .slice none 0 0], .int .i64 1]) (by simp [results, Tryd.results29, go_sem, c0, c1, c2]) rfl ?_
    exact ⟨rfl, e4_⟩

end Go.Proofs.YtefeglkbikcjeaaDoor
