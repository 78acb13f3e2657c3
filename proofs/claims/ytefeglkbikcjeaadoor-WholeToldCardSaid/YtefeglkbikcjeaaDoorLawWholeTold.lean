/- WholeTold answers true at all whole numbers, said otherwise. -/
import Derived.Test.YtefeglkbikcjeaaDoorPartC
import Derived.Test.YtefeglkbikcjeaaDoorRegApp4
namespace Go.Proofs.YtefeglkbikcjeaaDoor
open Go Go.RowKit

theorem told_limbs {w w' : World} {B g r c : Nat} {A : List Nat} (h : w.ownsRow B 28 1 (.slice (some ⟨g, 0, none⟩) (A.length + r) c) (A.length + r) (A.map lv ++ (List.replicate r 0).map lv)) (hA : ∀ x ∈ A, x < Bs) (k : Gr w w') :
    Limbs w' (.slice (some ⟨g, 0, none⟩) (A.length + r) c) (A ++ List.replicate r 0) := by
  have hl : (A ++ List.replicate r 0).length = A.length + r := by simp
  have ho : OwnL B w (.slice (some ⟨g, 0, none⟩) (A.length + r) c) (A ++ List.replicate r 0) := by
    refine ⟨.inl ?_, fun x hx => ?_⟩
    · rw [hl, List.map_append]; exact h
    · rcases List.mem_append.1 hx with hx | hx
      · exact hA x hx
      · rw [List.eq_of_mem_replicate hx]; exact Bs_pos
  exact ho.limbs.gr k
theorem val_told (A : List Nat) (r : Nat) : val (A ++ List.replicate r 0) = val A := by rw [val_append, val_zeros, Nat.mul_zero, Nat.add_zero]
theorem iv_told (b : Bool) (A : List Nat) (r : Nat) : iv b (A ++ List.replicate r 0) = iv b A := by unfold iv; rw [val_told]
/-- a quotient and what is left, or 0, 0 and why not -/
theorem div_q {w : World} {b1 b2 : Bool} {v u : Value} {k l : Nat} {x y : Int} (hx : InI w b1 v k x) (hy : InI w b2 u l y) (hk : k ≤ 65535) (hl : l ≤ 65535) (q r c : Int) (hq : (if y = 0 then 0 else x / y) = q) (hr : (if y = 0 then 0 else x % y) = r) (hc : (if y = 0 then (7 : Int) else 0) = c) :
    Calls Tryd.prog 11 #[.agg #[.bool b1, v], .agg #[.bool b2, u]] w fun e w' => ∃ b v m u m', e = .returned (.tuple #[.agg #[.bool b, v], .agg #[.bool false, u], .int .i64 c]) ∧ IsI w' b v m q ∧ IsI w' false u m' r ∧ Ext w w' := by
  by_cases h0 : y = 0
  · rw [if_pos h0] at hq hr hc
    subst hq hr hc
    refine (divz_is hx hy hk hl h0).mono ?_
    rintro e w' ⟨u1, m1, u2, m2, rfl, i1, i2, x1⟩
    exact ⟨_, _, _, _, _, rfl, i1, i2, x1⟩
  · rw [if_neg h0] at hq hr hc
    subst hq hr hc
    refine (divy_is hx hy hk hl h0).mono ?_
    rintro e w' ⟨c1, u1, m1, u2, m2, rfl, i1, i2, x1⟩
    exact ⟨_, _, _, _, _, rfl, i1, i2, x1⟩
theorem iv_zero {b : Bool} {A : List Nat} (h : val A = 0) : iv b A = 0 := by unfold iv; rw [h]; cases b <;> rfl
theorem told_len {A : List Nat} {r : Nat} (h : A.length ≤ 10) (hr : r ≤ 4) : (A ++ List.replicate r 0).length ≤ 14 := by simp; omega

set_option maxHeartbeats 8000000 in
set_option maxRecDepth 100000 in
theorem wholeTold_calls {w : World} {v0 v1 : Value} {A0 A1 : List Nat} (h0 : Limbs w v0 A0) (h1 : Limbs w v1 A1) (n0 n1 : Bool) (n : Nat) (hn : n < 256) (m : Nat) (hm : m < 256) (neg : Bool) :
    Calls Tryd.prog 4 #[.agg #[.bool n0, v0], .agg #[.bool n1, v1], .int .u8 (n : Int), .int .u8 (m : Int), .bool neg] w (Yes w) := by
  obtain ⟨p0, q0, rfl, -, -, -⟩ := h0.open
  obtain ⟨p1, q1, rfl, -, -, -⟩ := h1.open
  have t1 : (n : Int) ≤ 255 := by omega
  have t2 : (m : Int) ≤ 255 := by omega
  obtain ⟨lb, hlb⟩ : ∃ b, (decide (10 < A0.length) || decide (10 < A1.length)) = b := ⟨_, rfl⟩
  cases lb with
  | true =>
    have HLB := Lib.hid hlb
    clear hlb hn hm
    go_enter Tryd.func4, Tryd.ntmps4
    go_wp2_with fail
    refine (ilong2_calls (h0.ext (((Ext.refl _).alloc _).alloc _)) (h1.ext (((Ext.refl _).alloc _).alloc _)) n0 n1 true HLB.out (by simp)).mono ?_
    rintro e w1_ ⟨rfl, rfl⟩
    go_wp2_with fail
    refine (lawake_calls _).mono ?_
    rintro e w1 ⟨rfl, x1⟩
    have y1 := Ext.trans ((((Ext.refl _).alloc _).alloc _).alloc _) x1
    go_wp2_with fail
    go_ret
    exact ⟨rfl, y1⟩
  | false =>
    have HLB := Lib.hid hlb
    simp at hlb
    have HLA0 : Hid (A0.length ≤ 10) := by show _ ≤ _; omega
    have HLA1 : Hid (A1.length ≤ 10) := by show _ ≤ _; omega
    clear hlb
    obtain ⟨r0, hr0⟩ : ∃ r, n % 5 = r := ⟨_, rfl⟩
    obtain ⟨r1, hr1⟩ : ∃ r, m % 5 = r := ⟨_, rfl⟩
    have e0 : (n : Int) % 5 = (r0 : Int) := by omega
    have e1 : (m : Int) % 5 = (r1 : Int) := by omega
    have e2 : Int.tmod (n : Int) 5 = (r0 : Int) := by rw [Int.tmod_eq_emod_of_nonneg (by omega)]; exact e0
    have e3 : Int.tmod (m : Int) 5 = (r1 : Int) := by rw [Int.tmod_eq_emod_of_nonneg (by omega)]; exact e1
    have HR0 : Hid (r0 ≤ 4) := by show _ ≤ _; omega
    have HR1 : Hid (r1 ≤ 4) := by show _ ≤ _; omega
    have u0 : (r0 : Int) ≤ 4 := by omega
    have u1 : (r1 : Int) ≤ 4 := by omega
    clear hr0 hr1 hn hm
    go_enter Tryd.func4, Tryd.ntmps4
    go_wp2_with fail
    refine (ilong2_calls (h0.ext (((Ext.refl _).alloc _).alloc _)) (h1.ext (((Ext.refl _).alloc _).alloc _)) n0 n1 false HLB.out (by simp)).mono ?_
    rintro e w1_ ⟨rfl, rfl⟩
    go_wp2_with fail
    refine (lawake_calls _).mono ?_
    rintro e w1 ⟨rfl, x1⟩
    have HX1 : Hid (Ext w w1) := Ext.trans ((((Ext.refl _).alloc _).alloc _).alloc _) x1
    have C5_0 : Hid (At (w.heap.size) 0 (.bool n0) w1) := At.ext (At.n0 (by rfl)) ((((Ext.refl _).alloc _).alloc _).trans x1)
    have C5_1 : Hid (At (w.heap.size) 1 (.slice p0 A0.length q0) w1) := At.ext (At.n0 (by rfl)) ((((Ext.refl _).alloc _).alloc _).trans x1)
    have C6_0 : Hid (At (w.heap.size + 1) 0 (.bool n1) w1) := At.ext (At.n1 (by rfl)) (((Ext.refl _).alloc _).trans x1)
    have C6_1 : Hid (At (w.heap.size + 1) 1 (.slice p1 A1.length q1) w1) := At.ext (At.n1 (by rfl)) (((Ext.refl _).alloc _).trans x1)
    have G0 : Hid (Limbs w1 (.slice p0 A0.length q0) A0) := h0.ext HX1.out
    have G1 : Hid (Limbs w1 (.slice p1 A1.length q1) A1) := h1.ext HX1.out
    go_wp2_with fail
    obtain ⟨s6, hs6⟩ : ∃ s, w.heap.size + 1 = s := ⟨_, rfl⟩
    rw [hs6] at C6_0 C6_1 ⊢
    obtain ⟨s5, hs5⟩ : ∃ s, w.heap.size = s := ⟨_, rfl⟩
    rw [hs5] at C5_0 C5_1 ⊢
    have ho5 : s5 < s6 := by omega
    have HS6 : Hid (s6 < w1.heap.size) := C6_0.out.2
    clear hs5 hs6 HLB x1 h0 h1
    (try simp only [List.append_eq, List.cons_append, List.nil_append])
    refine wp_region_end ⟨[32, 33, 34, 35, 36, 37, 38, 39, 40, 41, 11], fun i => ([Sa.val (.pointer (some ⟨s5, 0, none⟩)), Sa.val (.bool n0), Sa.rowG 28 w1.heap.size 0 [], Sa.val (.pointer (some ⟨s5, 1, none⟩)), Sa.val (.slice p0 A0.length q0), Sa.rowG 28 w1.heap.size A0.length (A0.map lv), Sa.val (.int .u8 (n : Int)), Sa.val (.int .u8 (r0 : Int)), Sa.rowG 28 w1.heap.size (A0.length + r0) (A0.map lv ++ (List.replicate r0 0).map lv), Sa.signed n0 28 w1.heap.size (A0.length + r0) (A0.map lv ++ (List.replicate r0 0).map lv), Sa.fresh 26 w1.heap.size #[.bool false, .slice none 0 0], Sa.val undef] : List Sa).getD i (Sa.val undef), fun i => ([none, none, none, none, none, some 2, none, none, some 5, some 8, none, none] : List (Option Nat)).getD i none⟩ 11 (by kernel_rfl) (by kernel_rfl) ?hs ?he
    case hs =>
      refine ⟨?_, ?_, ?_, ?_, ?_, ?_, ?_, ?_, ?_, ?_, ?_, trivial⟩
      · refine AStep.op rfl rfl (fun ac wk hp K hK => ?_)
        have t5_ : ac.tmps[5]?.getD undef = .pointer (some ⟨s5, 0, none⟩) := hp.slot 5 rfl rfl
        clear hp
        go_simp
        exact hK.out _ _ rfl (Ext.refl _) (fun b h => h.elim)
      · refine AStep.op rfl rfl (fun ac wk hp K hK => ?_)
        have d0_ : ac.tmps[32]?.getD undef = .pointer (some ⟨s5, 0, none⟩) := slot_is' (hp.get 0 (by decide +kernel) (by kernel_rfl))
        have cc := (C5_0.out.ext hp.ext).1
        clear hp
        go_simp
        exact hK.out _ _ rfl (Ext.refl _) (fun b h => h.elim)
      · refine AStep.op rfl rfl (fun ac wk hp K hK => ?_)
        have hsz := hp.ext.size
        clear hp
        go_simp
        exact hK.out _ _ ⟨_, _, rfl, World.ownsRow_made wk #[] 0 hsz (Nat.zero_le _) rfl⟩ ((Ext.refl _).alloc _) (fun b h => by have e : wk.heap.size = b := Option.some.inj h; omega)
      · refine AStep.op rfl rfl (fun ac wk hp K hK => ?_)
        have t5_ : ac.tmps[5]?.getD undef = .pointer (some ⟨s5, 0, none⟩) := hp.slot 5 rfl rfl
        clear hp
        go_simp
        exact hK.out _ _ rfl (Ext.refl _) (fun b h => h.elim)
      · refine AStep.op rfl rfl (fun ac wk hp K hK => ?_)
        have d3_ : ac.tmps[35]?.getD undef = .pointer (some ⟨s5, 1, none⟩) := slot_is' (hp.get 3 (by decide +kernel) (by kernel_rfl))
        have cc := (C5_1.out.ext hp.ext).1
        clear hp
        go_simp
        exact hK.out _ _ rfl (Ext.refl _) (fun b h => h.elim)
      · refine AStep.eat 2 rfl rfl (fun ac wk hp K hK => ?_)
        obtain ⟨g0, c0, e0, o0⟩ := hp.get 2 (by decide +kernel) (by kernel_rfl)
        refine wp_append_limbs (.tmp 34) (.tmp 36) 24 Tryd.underlying24 rfl w1.heap.size _ 0 g0 c0 [] rfl e0 o0 hp.ext.size (.slice p0 A0.length q0) A0 (hp.get 4 (by decide +kernel) (by kernel_rfl)) (G0.out.ext hp.ext) (by rw [Nat.zero_add]; have := HLA0.out; omega) (fun g' cap' w' r1 r2 r3 => ?_)
        rw [Nat.zero_add, List.nil_append] at r1
        rw [Nat.zero_add]
        exact hK.out _ w' _ ⟨g', cap', rfl, r1⟩ r2 (fun b h => by have e : g0 = b := Option.some.inj h; subst e; show Value.ownBlock _ = _; rw [e0]; rfl) (fun b h => by have e : g' = b := Option.some.inj h; subst e; rcases r3 with r3 | r3; exact .inl (by show Value.ownBlock _ = _; rw [e0, r3]; rfl); exact .inr r3)
      · refine AStep.op rfl rfl (fun ac wk hp K hK => ?_)
        have t2_ : ac.tmps[2]?.getD undef = .int .u8 (n : Int) := hp.slot 2 rfl rfl
        clear hp
        go_simp
        exact hK.out _ _ rfl (Ext.refl _) (fun b h => h.elim)
      · refine AStep.op rfl rfl (fun ac wk hp K hK => ?_)
        have d6_ : ac.tmps[38]?.getD undef = .int .u8 (n : Int) := slot_is' (hp.get 6 (by decide +kernel) (by kernel_rfl))
        clear hp
        go_simp
        exact hK.out _ _ rfl (Ext.refl _) (fun b h => h.elim)
      · refine AStep.eat 5 rfl rfl (fun ac wk hp K hK => ?_)
        obtain ⟨g0, c0, e0, o0⟩ := hp.get 5 (by decide +kernel) (by kernel_rfl)
        refine wp_append_zeros (.tmp 37) (.tmp 39) 24 5 .u8 Tryd.underlying24 Tryd.underlying5 rfl w1.heap.size _ A0.length g0 c0 (A0.map lv) rfl e0 o0 hp.ext.size .u8 r0 (hp.get 7 (by decide +kernel) (by kernel_rfl)) (by rw [Lmax_def]; have := HLA0.out; have := HR0.out; omega) (fun g' cap' w' r1 r2 r3 => ?_)
        exact hK.out _ w' _ ⟨g', cap', rfl, r1⟩ r2 (fun b h => by have e : g0 = b := Option.some.inj h; subst e; show Value.ownBlock _ = _; rw [e0]; rfl) (fun b h => by have e : g' = b := Option.some.inj h; subst e; rcases r3 with r3 | r3; exact .inl (by show Value.ownBlock _ = _; rw [e0, r3]; rfl); exact .inr r3)
      · refine AStep.eat 8 rfl rfl (fun ac wk hp K hK => ?_)
        obtain ⟨g0, c0, e0, o0⟩ := hp.get 8 (by decide +kernel) (by kernel_rfl)
        have d8_ : ac.tmps[40]?.getD undef = .slice (some ⟨g0, 0, none⟩) (A0.length + r0) c0 := slot_is' e0
        have d1_ : ac.tmps[33]?.getD undef = .bool n0 := slot_is' (hp.get 1 (by decide +kernel) (by kernel_rfl))
        have o1 : wk.ownsRow w1.heap.size 28 1 (.slice (some ⟨g0, 0, none⟩) (A0.length + r0) c0) (A0.length + r0) (A0.map lv ++ (List.replicate r0 0).map lv) := e0 ▸ o0
        clear hp
        go_simp
        exact hK.out _ _ none ⟨g0, c0, rfl, o1⟩ (World.grownBy.refl _ _) (fun b h => by cases h) (fun b h => by obtain ⟨u, e, hu⟩ := h; refine .inl ?_; show Value.ownBlock _ = _; have e2 : Value.slice (some ⟨g0, 0, none⟩) (A0.length + r0) c0 = u := (by injection e with e; simpa using e); rw [e0, e2]; exact hu)
      · refine AStep.op rfl rfl (fun ac wk hp K hK => ?_)
        have hsz := hp.ext.size
        clear hp
        go_simp
        exact hK.out _ _ ⟨_, rfl, hsz, heap_alloc_new _ _⟩ ((Ext.refl _).alloc _) (fun b h => by have e : wk.heap.size = b := (by injection h with h; injection h with h; injection h); omega)
    case he =>
      intro ac w2 hag hx hpost hdis o K ho hK
      obtain rfl := (Option.some.inj ho).symm
      obtain ⟨g0, gc0, e9, o9⟩ := hpost 9 (by decide) (by kernel_rfl)
      obtain ⟨s11, e10, hb, hh⟩ := hpost 10 (by decide) (by kernel_rfl)
      have hne := hdis 9 10 g0 (by decide) (by decide) (by decide) (by kernel_rfl) (by kernel_rfl) (by rw [e9]; exact ⟨_, rfl, rfl⟩)
      have hne2 : s11 ≠ g0 := fun e => hne (by rw [e10, e]; rfl)
      have bx : Bx 2 s11 w2 := ⟨_, _, hh, ⟨rfl, by decide⟩, by decide, fun k u hu => noI_s2 _ (List.mem_of_getElem? (by rw [Array.getElem?_toList]; exact hu))⟩
      have sb := setRow_bx' (o := 0) (cs := [.bool n0, .slice (some ⟨g0, 0, none⟩) (A0.length + r0) gc0]) bx (by simp) noI_s2
      have sg0 := setRow_gr' (o := 0) (cs := [.bool n0, .slice (some ⟨g0, 0, none⟩) (A0.length + r0) gc0]) bx (by simp) noI_s2
      have sx : Ext w (setRow s11 0 [.bool n0, .slice (some ⟨g0, 0, none⟩) (A0.length + r0) gc0] w2) := setRow_below _ _ (Nat.le_trans HX1.out.size hb) _ _ (HX1.out.trans hx)
      have c0 : w2.cell? ⟨s11, 0, none⟩ = some (.bool false) := by rw [cell_of_row w2 s11 _ _ _ (0, 0) hh]; rfl
      have c1 : w2.cell? ⟨s11, 1, none⟩ = some (.slice none 0 0) := by rw [cell_of_row w2 s11 _ _ _ (0, 0) hh]; rfl
      have f0 := bx.free 0
      have f1 := bx.free 1
      have HL : Hid (Limbs (setRow s11 0 [.bool n0, .slice (some ⟨g0, 0, none⟩) (A0.length + r0) gc0] w2) (.slice (some ⟨g0, 0, none⟩) (A0.length + r0) gc0) (A0 ++ List.replicate r0 0)) := told_limbs o9 G0.out.2 sg0
      have z0_ : sl ac 32 = .pointer (some ⟨s5, 0, none⟩) := hpost 0 (by decide) (by kernel_rfl)
      have z1_ : sl ac 33 = .bool n0 := hpost 1 (by decide) (by kernel_rfl)
      obtain ⟨vz2, z2_⟩ : ∃ v, sl ac 34 = v := ⟨_, rfl⟩
      have z3_ : sl ac 35 = .pointer (some ⟨s5, 1, none⟩) := hpost 3 (by decide) (by kernel_rfl)
      have z4_ : sl ac 36 = .slice p0 A0.length q0 := hpost 4 (by decide) (by kernel_rfl)
      obtain ⟨vz5, z5_⟩ : ∃ v, sl ac 37 = v := ⟨_, rfl⟩
      have z6_ : sl ac 38 = .int .u8 (n : Int) := hpost 6 (by decide) (by kernel_rfl)
      have z7_ : sl ac 39 = .int .u8 (r0 : Int) := hpost 7 (by decide) (by kernel_rfl)
      obtain ⟨vz8, z8_⟩ : ∃ v, sl ac 40 = v := ⟨_, rfl⟩
      have z9_ : sl ac 41 = .agg #[.bool n0, .slice (some ⟨g0, 0, none⟩) (A0.length + r0) gc0] := e9
      have z10_ : sl ac 11 = .pointer (some ⟨s11, 0, none⟩) := e10
      have t9_ := slot_is' z9_
      have t10_ := slot_is' z10_
      have HAG := Lib.hid hag
      have HHK := Lib.hid hK
      have SB := Lib.hid sb
      have SX := Lib.hid sx
      have SG := Lib.hid sg0
      have HB := Lib.hid hb
      have XW := Lib.hid hx
      clear hag hK hpost hdis e9 e10 hne hne2 bx sb sg0 sx o9 ho hh hb hx
      go_simp
      refine (show ∀ _ _, _ → _ from HHK.out.out) _ _ ?_
      have hwx : ∀ X : World, X = setRow s11 0 [.bool n0, .slice (some ⟨g0, 0, none⟩) (A0.length + r0) gc0] w2 → X = X := fun _ _ => rfl
      obtain ⟨w3, hW⟩ : ∃ X, X = setRow s11 0 [.bool n0, .slice (some ⟨g0, 0, none⟩) (A0.length + r0) gc0] w2 := ⟨_, rfl⟩
      rw [show (w2.setCell ⟨s11, 0, none⟩ (.bool n0)).setCell ⟨s11, 1, none⟩ (.slice (some ⟨g0, 0, none⟩) (A0.length + r0) gc0) = w3 from hW.symm]
      rw [← hW] at HL SB SX SG
      have C5_0 : Hid (At s5 0 (.bool n0) w3) := by have h := (C5_0.out.ext XW.out).setRow (s := s11) (by have h1 := C5_0.out.2; have h2 := HB.out; omega) [.bool n0, .slice (some ⟨g0, 0, none⟩) (A0.length + r0) gc0] 0; rw [← hW] at h; exact h
      have C5_1 : Hid (At s5 1 (.slice p0 A0.length q0) w3) := by have h := (C5_1.out.ext XW.out).setRow (s := s11) (by have h1 := C5_1.out.2; have h2 := HB.out; omega) [.bool n0, .slice (some ⟨g0, 0, none⟩) (A0.length + r0) gc0] 0; rw [← hW] at h; exact h
      have C6_0 : Hid (At s6 0 (.bool n1) w3) := by have h := (C6_0.out.ext XW.out).setRow (s := s11) (by have h1 := C6_0.out.2; have h2 := HB.out; omega) [.bool n0, .slice (some ⟨g0, 0, none⟩) (A0.length + r0) gc0] 0; rw [← hW] at h; exact h
      have C6_1 : Hid (At s6 1 (.slice p1 A1.length q1) w3) := by have h := (C6_1.out.ext XW.out).setRow (s := s11) (by have h1 := C6_1.out.2; have h2 := HB.out; omega) [.bool n0, .slice (some ⟨g0, 0, none⟩) (A0.length + r0) gc0] 0; rw [← hW] at h; exact h
      have C11_0 : Hid (At s11 0 (.bool n0) w3) := SB.out.2.1 0 _ rfl
      have C11_1 : Hid (At s11 1 (.slice (some ⟨g0, 0, none⟩) (A0.length + r0) gc0) w3) := SB.out.2.1 1 _ rfl
      have K11 : Hid (Bx 2 s11 w3) := SB.out.1
      have G0 : Hid (Limbs w3 (.slice p0 A0.length q0) A0) := (G0.out.ext XW.out).gr SG.out
      have G1 : Hid (Limbs w3 (.slice p1 A1.length q1) A1) := (G1.out.ext XW.out).gr SG.out
      have R0 := HL
      have Ls11 : Hid (w.heap.size ≤ s11) := Nat.le_trans HX1.out.size HB.out
      have ho6 : s6 < s11 := by have h1 := HB.out; have h2 := C6_0.out.2; have h3 := HS6.out; omega
      have HX3 : Hid (Ext w w3) := SX.out
      have HS11 : Hid (s11 < w3.heap.size) := C11_0.out.2
      rw [HAG.out.lay]
      simp only [lay, List.foldl_cons, List.foldl_nil, List.setIfInBounds_toArray, List.set_cons_zero, List.set_cons_succ, z0_, z1_, z2_, z3_, z4_, z5_, z6_, z7_, z8_, z9_, z10_]
      clear HAG HHK SB SX SG HB XW hW HL hwx c0 c1 f0 f1 t9_ t10_ z0_ z1_ z2_ z3_ z4_ z5_ z6_ z7_ z8_ z9_ z10_
      go_wp2_with fail
      (try simp only [List.append_eq, List.cons_append, List.nil_append])
      refine wp_region_end ⟨[42, 43, 44, 45, 46, 47, 48, 49, 50, 51, 12], fun i => ([Sa.val (.pointer (some ⟨s6, 0, none⟩)), Sa.val (.bool n1), Sa.rowG 28 w3.heap.size 0 [], Sa.val (.pointer (some ⟨s6, 1, none⟩)), Sa.val (.slice p1 A1.length q1), Sa.rowG 28 w3.heap.size A1.length (A1.map lv), Sa.val (.int .u8 (m : Int)), Sa.val (.int .u8 (r1 : Int)), Sa.rowG 28 w3.heap.size (A1.length + r1) (A1.map lv ++ (List.replicate r1 0).map lv), Sa.signed n1 28 w3.heap.size (A1.length + r1) (A1.map lv ++ (List.replicate r1 0).map lv), Sa.fresh 26 w3.heap.size #[.bool false, .slice none 0 0], Sa.val undef] : List Sa).getD i (Sa.val undef), fun i => ([none, none, none, none, none, some 2, none, none, some 5, some 8, none, none] : List (Option Nat)).getD i none⟩ 11 (by kernel_rfl) (by kernel_rfl) ?hs ?he
      case hs =>
        refine ⟨?_, ?_, ?_, ?_, ?_, ?_, ?_, ?_, ?_, ?_, ?_, trivial⟩
        · refine AStep.op rfl rfl (fun ac wk hp K hK => ?_)
          have t6_ : ac.tmps[6]?.getD undef = .pointer (some ⟨s6, 0, none⟩) := hp.slot 6 rfl rfl
          clear hp
          go_simp
          exact hK.out _ _ rfl (Ext.refl _) (fun b h => h.elim)
        · refine AStep.op rfl rfl (fun ac wk hp K hK => ?_)
          have d0_ : ac.tmps[42]?.getD undef = .pointer (some ⟨s6, 0, none⟩) := slot_is' (hp.get 0 (by decide +kernel) (by kernel_rfl))
          have cc := (C6_0.out.ext hp.ext).1
          clear hp
          go_simp
          exact hK.out _ _ rfl (Ext.refl _) (fun b h => h.elim)
        · refine AStep.op rfl rfl (fun ac wk hp K hK => ?_)
          have hsz := hp.ext.size
          clear hp
          go_simp
          exact hK.out _ _ ⟨_, _, rfl, World.ownsRow_made wk #[] 0 hsz (Nat.zero_le _) rfl⟩ ((Ext.refl _).alloc _) (fun b h => by have e : wk.heap.size = b := Option.some.inj h; omega)
        · refine AStep.op rfl rfl (fun ac wk hp K hK => ?_)
          have t6_ : ac.tmps[6]?.getD undef = .pointer (some ⟨s6, 0, none⟩) := hp.slot 6 rfl rfl
          clear hp
          go_simp
          exact hK.out _ _ rfl (Ext.refl _) (fun b h => h.elim)
        · refine AStep.op rfl rfl (fun ac wk hp K hK => ?_)
          have d3_ : ac.tmps[45]?.getD undef = .pointer (some ⟨s6, 1, none⟩) := slot_is' (hp.get 3 (by decide +kernel) (by kernel_rfl))
          have cc := (C6_1.out.ext hp.ext).1
          clear hp
          go_simp
          exact hK.out _ _ rfl (Ext.refl _) (fun b h => h.elim)
        · refine AStep.eat 2 rfl rfl (fun ac wk hp K hK => ?_)
          obtain ⟨g0, c0, e0, o0⟩ := hp.get 2 (by decide +kernel) (by kernel_rfl)
          refine wp_append_limbs (.tmp 44) (.tmp 46) 24 Tryd.underlying24 rfl w3.heap.size _ 0 g0 c0 [] rfl e0 o0 hp.ext.size (.slice p1 A1.length q1) A1 (hp.get 4 (by decide +kernel) (by kernel_rfl)) (G1.out.ext hp.ext) (by rw [Nat.zero_add]; have := HLA1.out; omega) (fun g' cap' w' r1 r2 r3 => ?_)
          rw [Nat.zero_add, List.nil_append] at r1
          rw [Nat.zero_add]
          exact hK.out _ w' _ ⟨g', cap', rfl, r1⟩ r2 (fun b h => by have e : g0 = b := Option.some.inj h; subst e; show Value.ownBlock _ = _; rw [e0]; rfl) (fun b h => by have e : g' = b := Option.some.inj h; subst e; rcases r3 with r3 | r3; exact .inl (by show Value.ownBlock _ = _; rw [e0, r3]; rfl); exact .inr r3)
        · refine AStep.op rfl rfl (fun ac wk hp K hK => ?_)
          have t3_ : ac.tmps[3]?.getD undef = .int .u8 (m : Int) := hp.slot 3 rfl rfl
          clear hp
          go_simp
          exact hK.out _ _ rfl (Ext.refl _) (fun b h => h.elim)
        · refine AStep.op rfl rfl (fun ac wk hp K hK => ?_)
          have d6_ : ac.tmps[48]?.getD undef = .int .u8 (m : Int) := slot_is' (hp.get 6 (by decide +kernel) (by kernel_rfl))
          clear hp
          go_simp
          exact hK.out _ _ rfl (Ext.refl _) (fun b h => h.elim)
        · refine AStep.eat 5 rfl rfl (fun ac wk hp K hK => ?_)
          obtain ⟨g0, c0, e0, o0⟩ := hp.get 5 (by decide +kernel) (by kernel_rfl)
          refine wp_append_zeros (.tmp 47) (.tmp 49) 24 5 .u8 Tryd.underlying24 Tryd.underlying5 rfl w3.heap.size _ A1.length g0 c0 (A1.map lv) rfl e0 o0 hp.ext.size .u8 r1 (hp.get 7 (by decide +kernel) (by kernel_rfl)) (by rw [Lmax_def]; have := HLA1.out; have := HR1.out; omega) (fun g' cap' w' r1 r2 r3 => ?_)
          exact hK.out _ w' _ ⟨g', cap', rfl, r1⟩ r2 (fun b h => by have e : g0 = b := Option.some.inj h; subst e; show Value.ownBlock _ = _; rw [e0]; rfl) (fun b h => by have e : g' = b := Option.some.inj h; subst e; rcases r3 with r3 | r3; exact .inl (by show Value.ownBlock _ = _; rw [e0, r3]; rfl); exact .inr r3)
        · refine AStep.eat 8 rfl rfl (fun ac wk hp K hK => ?_)
          obtain ⟨g0, c0, e0, o0⟩ := hp.get 8 (by decide +kernel) (by kernel_rfl)
          have d8_ : ac.tmps[50]?.getD undef = .slice (some ⟨g0, 0, none⟩) (A1.length + r1) c0 := slot_is' e0
          have d1_ : ac.tmps[43]?.getD undef = .bool n1 := slot_is' (hp.get 1 (by decide +kernel) (by kernel_rfl))
          have o1 : wk.ownsRow w3.heap.size 28 1 (.slice (some ⟨g0, 0, none⟩) (A1.length + r1) c0) (A1.length + r1) (A1.map lv ++ (List.replicate r1 0).map lv) := e0 ▸ o0
          clear hp
          go_simp
          exact hK.out _ _ none ⟨g0, c0, rfl, o1⟩ (World.grownBy.refl _ _) (fun b h => by cases h) (fun b h => by obtain ⟨u, e, hu⟩ := h; refine .inl ?_; show Value.ownBlock _ = _; have e2 : Value.slice (some ⟨g0, 0, none⟩) (A1.length + r1) c0 = u := (by injection e with e; simpa using e); rw [e0, e2]; exact hu)
        · refine AStep.op rfl rfl (fun ac wk hp K hK => ?_)
          have hsz := hp.ext.size
          clear hp
          go_simp
          exact hK.out _ _ ⟨_, rfl, hsz, heap_alloc_new _ _⟩ ((Ext.refl _).alloc _) (fun b h => by have e : wk.heap.size = b := (by injection h with h; injection h with h; injection h); omega)
      case he =>
        intro ac w4 hag hx hpost hdis o K ho hK
        obtain rfl := (Option.some.inj ho).symm
        obtain ⟨g, gc, e9, o9⟩ := hpost 9 (by decide) (by kernel_rfl)
        obtain ⟨s12, e10, hb, hh⟩ := hpost 10 (by decide) (by kernel_rfl)
        have hne := hdis 9 10 g (by decide) (by decide) (by decide) (by kernel_rfl) (by kernel_rfl) (by rw [e9]; exact ⟨_, rfl, rfl⟩)
        have hne2 : s12 ≠ g := fun e => hne (by rw [e10, e]; rfl)
        have bx : Bx 2 s12 w4 := ⟨_, _, hh, ⟨rfl, by decide⟩, by decide, fun k u hu => noI_s2 _ (List.mem_of_getElem? (by rw [Array.getElem?_toList]; exact hu))⟩
        have sb := setRow_bx' (o := 0) (cs := [.bool n1, .slice (some ⟨g, 0, none⟩) (A1.length + r1) gc]) bx (by simp) noI_s2
        have sg0 := setRow_gr' (o := 0) (cs := [.bool n1, .slice (some ⟨g, 0, none⟩) (A1.length + r1) gc]) bx (by simp) noI_s2
        have sx : Ext w (setRow s12 0 [.bool n1, .slice (some ⟨g, 0, none⟩) (A1.length + r1) gc] w4) := setRow_below _ _ (Nat.le_trans HX3.out.size hb) _ _ (HX3.out.trans hx)
        have c0 : w4.cell? ⟨s12, 0, none⟩ = some (.bool false) := by rw [cell_of_row w4 s12 _ _ _ (0, 0) hh]; rfl
        have c1 : w4.cell? ⟨s12, 1, none⟩ = some (.slice none 0 0) := by rw [cell_of_row w4 s12 _ _ _ (0, 0) hh]; rfl
        have f0 := bx.free 0
        have f1 := bx.free 1
        have HL : Hid (Limbs (setRow s12 0 [.bool n1, .slice (some ⟨g, 0, none⟩) (A1.length + r1) gc] w4) (.slice (some ⟨g, 0, none⟩) (A1.length + r1) gc) (A1 ++ List.replicate r1 0)) := told_limbs o9 G1.out.2 sg0
        have z0_ : sl ac 42 = .pointer (some ⟨s6, 0, none⟩) := hpost 0 (by decide) (by kernel_rfl)
        have z1_ : sl ac 43 = .bool n1 := hpost 1 (by decide) (by kernel_rfl)
        obtain ⟨vz2, z2_⟩ : ∃ v, sl ac 44 = v := ⟨_, rfl⟩
        have z3_ : sl ac 45 = .pointer (some ⟨s6, 1, none⟩) := hpost 3 (by decide) (by kernel_rfl)
        have z4_ : sl ac 46 = .slice p1 A1.length q1 := hpost 4 (by decide) (by kernel_rfl)
        obtain ⟨vz5, z5_⟩ : ∃ v, sl ac 47 = v := ⟨_, rfl⟩
        have z6_ : sl ac 48 = .int .u8 (m : Int) := hpost 6 (by decide) (by kernel_rfl)
        have z7_ : sl ac 49 = .int .u8 (r1 : Int) := hpost 7 (by decide) (by kernel_rfl)
        obtain ⟨vz8, z8_⟩ : ∃ v, sl ac 50 = v := ⟨_, rfl⟩
        have z9_ : sl ac 51 = .agg #[.bool n1, .slice (some ⟨g, 0, none⟩) (A1.length + r1) gc] := e9
        have z10_ : sl ac 12 = .pointer (some ⟨s12, 0, none⟩) := e10
        have t9_ := slot_is' z9_
        have t10_ := slot_is' z10_
        have HAG := Lib.hid hag
        have HHK := Lib.hid hK
        have SB := Lib.hid sb
        have SX := Lib.hid sx
        have SG := Lib.hid sg0
        have HB := Lib.hid hb
        have XW := Lib.hid hx
        clear hag hK hpost hdis e9 e10 hne hne2 bx sb sg0 sx o9 ho hh hb hx
        go_simp
        refine (show ∀ _ _, _ → _ from HHK.out.out) _ _ ?_
        have hwx : ∀ X : World, X = setRow s12 0 [.bool n1, .slice (some ⟨g, 0, none⟩) (A1.length + r1) gc] w4 → X = X := fun _ _ => rfl
        obtain ⟨w5, hW⟩ : ∃ X, X = setRow s12 0 [.bool n1, .slice (some ⟨g, 0, none⟩) (A1.length + r1) gc] w4 := ⟨_, rfl⟩
        rw [show (w4.setCell ⟨s12, 0, none⟩ (.bool n1)).setCell ⟨s12, 1, none⟩ (.slice (some ⟨g, 0, none⟩) (A1.length + r1) gc) = w5 from hW.symm]
        rw [← hW] at HL SB SX SG
        have C5_0 : Hid (At s5 0 (.bool n0) w5) := by have h := (C5_0.out.ext XW.out).setRow (s := s12) (by have h1 := C5_0.out.2; have h2 := HB.out; omega) [.bool n1, .slice (some ⟨g, 0, none⟩) (A1.length + r1) gc] 0; rw [← hW] at h; exact h
        have C5_1 : Hid (At s5 1 (.slice p0 A0.length q0) w5) := by have h := (C5_1.out.ext XW.out).setRow (s := s12) (by have h1 := C5_1.out.2; have h2 := HB.out; omega) [.bool n1, .slice (some ⟨g, 0, none⟩) (A1.length + r1) gc] 0; rw [← hW] at h; exact h
        have C6_0 : Hid (At s6 0 (.bool n1) w5) := by have h := (C6_0.out.ext XW.out).setRow (s := s12) (by have h1 := C6_0.out.2; have h2 := HB.out; omega) [.bool n1, .slice (some ⟨g, 0, none⟩) (A1.length + r1) gc] 0; rw [← hW] at h; exact h
        have C6_1 : Hid (At s6 1 (.slice p1 A1.length q1) w5) := by have h := (C6_1.out.ext XW.out).setRow (s := s12) (by have h1 := C6_1.out.2; have h2 := HB.out; omega) [.bool n1, .slice (some ⟨g, 0, none⟩) (A1.length + r1) gc] 0; rw [← hW] at h; exact h
        have C11_0 : Hid (At s11 0 (.bool n0) w5) := by have h := (C11_0.out.ext XW.out).setRow (s := s12) (by have h1 := C11_0.out.2; have h2 := HB.out; omega) [.bool n1, .slice (some ⟨g, 0, none⟩) (A1.length + r1) gc] 0; rw [← hW] at h; exact h
        have C11_1 : Hid (At s11 1 (.slice (some ⟨g0, 0, none⟩) (A0.length + r0) gc0) w5) := by have h := (C11_1.out.ext XW.out).setRow (s := s12) (by have h1 := C11_1.out.2; have h2 := HB.out; omega) [.bool n1, .slice (some ⟨g, 0, none⟩) (A1.length + r1) gc] 0; rw [← hW] at h; exact h
        have C12_0 : Hid (At s12 0 (.bool n1) w5) := SB.out.2.1 0 _ rfl
        have C12_1 : Hid (At s12 1 (.slice (some ⟨g, 0, none⟩) (A1.length + r1) gc) w5) := SB.out.2.1 1 _ rfl
        have K12 : Hid (Bx 2 s12 w5) := SB.out.1
        have K11 : Hid (Bx 2 s11 w5) := (K11.out.gr XW.out.gr).gr SG.out
        have R0 : Hid (Limbs w5 (.slice (some ⟨g0, 0, none⟩) (A0.length + r0) gc0) (A0 ++ List.replicate r0 0)) := (R0.out.ext XW.out).gr SG.out
        have G0 : Hid (Limbs w5 (.slice p0 A0.length q0) A0) := (G0.out.ext XW.out).gr SG.out
        have G1 : Hid (Limbs w5 (.slice p1 A1.length q1) A1) := (G1.out.ext XW.out).gr SG.out
        have R1 := HL
        have Ls12 : Hid (w.heap.size ≤ s12) := Nat.le_trans HX3.out.size HB.out
        have ho12 : s11 < s12 := by have h1 := HB.out; have h3 := HS11.out; omega
        have HX5 : Hid (Ext w w5) := SX.out
        rw [HAG.out.lay]
        simp only [lay, List.foldl_cons, List.foldl_nil, List.setIfInBounds_toArray, List.set_cons_zero, List.set_cons_succ, z0_, z1_, z2_, z3_, z4_, z5_, z6_, z7_, z8_, z9_, z10_]
        clear HAG HHK SB SX SG HB XW hW HL hwx c0 c1 f0 f1 t9_ t10_ z0_ z1_ z2_ z3_ z4_ z5_ z6_ z7_ z8_ z9_ z10_
        obtain ⟨z0, hz0⟩ : ∃ z, iv n0 A0 = z := ⟨_, rfl⟩
        obtain ⟨z1, hz1⟩ : ∃ z, iv n1 A1 = z := ⟨_, rfl⟩
        have I0 : Hid (InI w5 n0 (.slice p0 A0.length q0) 10 z0) := ⟨A0, G0.out, hz0, HLA0.out⟩
        have I1 : Hid (InI w5 n1 (.slice p1 A1.length q1) 10 z1) := ⟨A1, G1.out, hz1, HLA1.out⟩
        have J0 : Hid (InI w5 n0 (.slice (some ⟨g0, 0, none⟩) (A0.length + r0) gc0) 14 z0) := ⟨_, R0.out, by rw [iv_told]; exact hz0, told_len HLA0.out HR0.out⟩
        have J1 : Hid (InI w5 n1 (.slice (some ⟨g, 0, none⟩) (A1.length + r1) gc) 14 z1) := ⟨_, R1.out, by rw [iv_told]; exact hz1, told_len HLA1.out HR1.out⟩
        obtain ⟨cm, hcm⟩ : ∃ c, cmpI z0 z1 = c := ⟨_, rfl⟩
        obtain ⟨sg, hsg⟩ : ∃ c, z1.sign = c := ⟨_, rfl⟩
        obtain ⟨sm, hsm⟩ : ∃ c, smallI z0 = c := ⟨_, rfl⟩
        obtain ⟨sf, hsf⟩ : ∃ c, fitsI z0 = c := ⟨_, rfl⟩
        obtain ⟨ts, hts⟩ := str_of (showI z0)
        have HCM := Lib.hid hcm
        have HSG := Lib.hid hsg
        have HSM := Lib.hid hsm
        have HSF := Lib.hid hsf
        have HTS := Lib.hid hts
        have HTL : Hid ((showL z0.natAbs).length ≤ 4294967296) := by show _ ≤ _; have := I0.out.len.show (by decide); omega
        have HV0 := Lib.hid hz0
        have HV1 := Lib.hid hz1
        have H0 := G0
        have H1 := G1
        clear G0 G1 hcm hsg hsm hsf hts hz0 hz1
        obtain ⟨b0, hb0⟩ : ∃ b, decide (val A0 = 0) = b := ⟨_, rfl⟩
        obtain ⟨b1, hb1⟩ : ∃ b, decide (val A1 = 0) = b := ⟨_, rfl⟩
        obtain ⟨Q, hQ⟩ : ∃ q, (if z1 = 0 then 0 else z0 / z1) = q := ⟨_, rfl⟩
        obtain ⟨R, hR⟩ : ∃ q, (if z1 = 0 then 0 else z0 % z1) = q := ⟨_, rfl⟩
        obtain ⟨KE, hK⟩ : ∃ q, (if z1 = 0 then (7 : Int) else 0) = q := ⟨_, rfl⟩
        have HQ := Lib.hid hQ
        have HR := Lib.hid hR
        have HK := Lib.hid hK
        have HB0 := Lib.hid hb0
        have HB1 := Lib.hid hb1
        clear hb0 hb1 hQ hR hK
        cases b0 <;> cases b1
        case' false.false =>
          have b105_0 := C5_0
          have b105_1 := C5_1
          have b106_0 := C6_0
          have b106_1 := C6_1
          have b111_0 := C11_0
          have b111_1 := C11_1
          have b112_0 := C12_0
          have b112_1 := C12_1
          have k111 := K11
          have k112 := K12
          have u105 : Hid (s5 < w5.heap.size) := b105_0.out.2
          have u106 : Hid (s6 < w5.heap.size) := b106_0.out.2
          have u111 : Hid (s11 < w5.heap.size) := b111_0.out.2
          have u112 : Hid (s12 < w5.heap.size) := b112_0.out.2
          have g105_1 := b105_1.out.1
          have f105 : s5 < w5.heap.size := b105_0.out.2
          go_wp2_with fail
          refine (zero_ext H0.out (by have := HLA0.out; omega) false HB0.out).mono ?_
          rintro e w1 ⟨rfl, x1⟩
          have e1_ : Ext w w1 := Ext.trans HX5.out x1
          clear g105_1 f105
          have g106_1 := (b106_1.out.ext x1).1
          have f106 : s6 < w1.heap.size := (b106_0.out.ext x1).2
          go_wp2_with fail
          refine (zero_ext (H1.out.ext x1) (by have := HLA1.out; omega) false HB1.out).mono ?_
          rintro e w2 ⟨rfl, x2⟩
          have e2_ : Ext w w2 := Ext.trans e1_ x2
          clear g106_1 f106
          have g105_0 := (b105_0.out.ext (x1.trans x2)).1
          have g105_1 := (b105_1.out.ext (x1.trans x2)).1
          have g106_0 := (b106_0.out.ext (x1.trans x2)).1
          have g106_1 := (b106_1.out.ext (x1.trans x2)).1
          have f105 : s5 < w2.heap.size := (b105_0.out.ext (x1.trans x2)).2
          have f106 : s6 < w2.heap.size := (b106_0.out.ext (x1.trans x2)).2
          go_wp2_with fail
          have D5_0 := Lib.hid (b105_0.out.ext (x1.trans x2))
          have D5_1 := Lib.hid (b105_1.out.ext (x1.trans x2))
          have D6_0 := Lib.hid (b106_0.out.ext (x1.trans x2))
          have D6_1 := Lib.hid (b106_1.out.ext (x1.trans x2))
          have D11_0 := Lib.hid (b111_0.out.ext (x1.trans x2))
          have D11_1 := Lib.hid (b111_1.out.ext (x1.trans x2))
          have D12_0 := Lib.hid (b112_0.out.ext (x1.trans x2))
          have D12_1 := Lib.hid (b112_1.out.ext (x1.trans x2))
          have F0 := Lib.hid (I0.out.ext (x1.trans x2))
          have P0 := Lib.hid (H0.out.ext (x1.trans x2))
          have F1 := Lib.hid (I1.out.ext (x1.trans x2))
          have P1 := Lib.hid (H1.out.ext (x1.trans x2))
          have M0 := Lib.hid (J0.out.ext (x1.trans x2))
          have M1 := Lib.hid (J1.out.ext (x1.trans x2))
          have EV : Hid (Ext w w2) := e2_
          obtain ⟨V5, rfl⟩ : ∃ W, W = w2 := ⟨_, rfl⟩
          have X0 : Hid (∃ b, At s11 0 (.bool b) V5 ∧ InI V5 b (.slice (some ⟨g0, 0, none⟩) (A0.length + r0) gc0) 14 z0) := ⟨_, D11_0.out, M0.out⟩
          have X1 : Hid (∃ b, At s12 0 (.bool b) V5 ∧ InI V5 b (.slice (some ⟨g, 0, none⟩) (A1.length + r1) gc) 14 z1) := ⟨_, D12_0.out, M1.out⟩
          have HH0 := H0
          clear D11_0 D12_0 M0 M1 H0 H1
        case' false.true =>
          have b105_0 := C5_0
          have b105_1 := C5_1
          have b106_0 := C6_0
          have b106_1 := C6_1
          have b111_0 := C11_0
          have b111_1 := C11_1
          have b112_0 := C12_0
          have b112_1 := C12_1
          have k111 := K11
          have k112 := K12
          have u105 : Hid (s5 < w5.heap.size) := b105_0.out.2
          have u106 : Hid (s6 < w5.heap.size) := b106_0.out.2
          have u111 : Hid (s11 < w5.heap.size) := b111_0.out.2
          have u112 : Hid (s12 < w5.heap.size) := b112_0.out.2
          have N1 : Hid (InI w5 (!neg) (.slice (some ⟨g, 0, none⟩) (A1.length + r1) gc) 14 z1) := ⟨_, R1.out, by rw [← HV1.out, iv_zero (of_decide_eq_true HB1.out)]; exact iv_zero (by rw [val_told]; exact of_decide_eq_true HB1.out), told_len HLA1.out HR1.out⟩
          have g105_1 := b105_1.out.1
          have f105 : s5 < w5.heap.size := b105_0.out.2
          go_wp2_with fail
          refine (zero_ext H0.out (by have := HLA0.out; omega) false HB0.out).mono ?_
          rintro e w1 ⟨rfl, x1⟩
          have e1_ : Ext w w1 := Ext.trans HX5.out x1
          clear g105_1 f105
          have g106_1 := (b106_1.out.ext x1).1
          have f106 : s6 < w1.heap.size := (b106_0.out.ext x1).2
          go_wp2_with fail
          refine (zero_ext (H1.out.ext x1) (by have := HLA1.out; omega) true HB1.out).mono ?_
          rintro e w2 ⟨rfl, x2⟩
          have e2_ : Ext w w2 := Ext.trans e1_ x2
          clear g106_1 f106
          have g105_0 := (b105_0.out.ext (x1.trans x2)).1
          have g105_1 := (b105_1.out.ext (x1.trans x2)).1
          have g106_0 := (b106_0.out.ext (x1.trans x2)).1
          have g106_1 := (b106_1.out.ext (x1.trans x2)).1
          have g112_0 := (b112_0.out.ext (x1.trans x2)).1
          have g112_1 := (b112_1.out.ext (x1.trans x2)).1
          have z112_0 := (k112.out.gr (x1.gr.trans x2.gr)).free 0
          have z112_1 := (k112.out.gr (x1.gr.trans x2.gr)).free 1
          have f105 : s5 < w2.heap.size := (b105_0.out.ext (x1.trans x2)).2
          have f106 : s6 < w2.heap.size := (b106_0.out.ext (x1.trans x2)).2
          have f112 : s12 < w2.heap.size := (b112_0.out.ext (x1.trans x2)).2
          have n112_105 : s12 ≠ s5 := (by (try dsimp only); omega)
          have n105_112 : s5 ≠ s12 := Ne.symm n112_105
          have n112_106 : s12 ≠ s6 := (by (try dsimp only); omega)
          have n106_112 : s6 ≠ s12 := Ne.symm n112_106
          go_wp2_with fail
          obtain ⟨v3, hv3⟩ : ∃ W, W = (w2.setCell ⟨s12, 0, none⟩ (.bool (!neg))) := ⟨_, rfl⟩
          have sv3 : v3 = setRow (s12) 0 [.bool (!neg)] w2 := hv3
          have uv3 := setRow_bx' (o := 0) (cs := [.bool (!neg)]) (k112.out.gr (x1.gr.trans x2.gr)) (by simp) noI_b
          have y3 : Gr w2 v3 := by rw [sv3]; exact setRow_gr' (o := 0) (cs := [.bool (!neg)]) (k112.out.gr (x1.gr.trans x2.gr)) (by simp) noI_b
          have t3 : Hid (∀ t o u, t ≠ (s12) → At t o u w2 → At t o u v3) := fun t o u h k => by rw [sv3]; exact k.setRow h _ _
          have e3_ : Ext w v3 := by rw [sv3]; exact setRow_below _ _ Ls12.out _ _ e2_
          have b112_0 : Hid (At (s12) 0 (.bool (!neg)) v3) := by rw [sv3]; exact uv3.2.1 0 _ rfl
          have b112_1 : Hid (At (s12) 1 (.slice (some ⟨g, 0, none⟩) (A1.length + r1) gc) v3) := by rw [sv3]; exact uv3.2.2 1 _ (by simp) (b112_1.out.ext (x1.trans x2))
          have k112 : Hid (Bx 2 (s12) v3) := by rw [sv3]; exact uv3.1
          rw [← hv3]
          clear hv3 sv3 uv3
          have D5_0 := Lib.hid (t3.out _ _ _ (by (try dsimp only); omega) (b105_0.out.ext (x1.trans x2)))
          have D5_1 := Lib.hid (t3.out _ _ _ (by (try dsimp only); omega) (b105_1.out.ext (x1.trans x2)))
          have D6_0 := Lib.hid (t3.out _ _ _ (by (try dsimp only); omega) (b106_0.out.ext (x1.trans x2)))
          have D6_1 := Lib.hid (t3.out _ _ _ (by (try dsimp only); omega) (b106_1.out.ext (x1.trans x2)))
          have D11_0 := Lib.hid (t3.out _ _ _ (by (try dsimp only); omega) (b111_0.out.ext (x1.trans x2)))
          have D11_1 := Lib.hid (t3.out _ _ _ (by (try dsimp only); omega) (b111_1.out.ext (x1.trans x2)))
          have D12_0 := Lib.hid b112_0.out
          have D12_1 := Lib.hid b112_1.out
          have F0 := Lib.hid (I0.out.gr (x1.gr.trans (x2.gr.trans y3)))
          have P0 := Lib.hid (H0.out.gr (x1.gr.trans (x2.gr.trans y3)))
          have F1 := Lib.hid (I1.out.gr (x1.gr.trans (x2.gr.trans y3)))
          have P1 := Lib.hid (H1.out.gr (x1.gr.trans (x2.gr.trans y3)))
          have M0 := Lib.hid (J0.out.gr (x1.gr.trans (x2.gr.trans y3)))
          have M1 := Lib.hid (N1.out.gr (x1.gr.trans (x2.gr.trans y3)))
          have EV : Hid (Ext w v3) := e3_
          obtain ⟨V5, rfl⟩ : ∃ W, W = v3 := ⟨_, rfl⟩
          have X0 : Hid (∃ b, At s11 0 (.bool b) V5 ∧ InI V5 b (.slice (some ⟨g0, 0, none⟩) (A0.length + r0) gc0) 14 z0) := ⟨_, D11_0.out, M0.out⟩
          have X1 : Hid (∃ b, At s12 0 (.bool b) V5 ∧ InI V5 b (.slice (some ⟨g, 0, none⟩) (A1.length + r1) gc) 14 z1) := ⟨_, D12_0.out, M1.out⟩
          have HH0 := H0
          clear D11_0 D12_0 M0 M1 H0 H1
        case' true.false =>
          have b105_0 := C5_0
          have b105_1 := C5_1
          have b106_0 := C6_0
          have b106_1 := C6_1
          have b111_0 := C11_0
          have b111_1 := C11_1
          have b112_0 := C12_0
          have b112_1 := C12_1
          have k111 := K11
          have k112 := K12
          have u105 : Hid (s5 < w5.heap.size) := b105_0.out.2
          have u106 : Hid (s6 < w5.heap.size) := b106_0.out.2
          have u111 : Hid (s11 < w5.heap.size) := b111_0.out.2
          have u112 : Hid (s12 < w5.heap.size) := b112_0.out.2
          have N0 : Hid (InI w5 neg (.slice (some ⟨g0, 0, none⟩) (A0.length + r0) gc0) 14 z0) := ⟨_, R0.out, by rw [← HV0.out, iv_zero (of_decide_eq_true HB0.out)]; exact iv_zero (by rw [val_told]; exact of_decide_eq_true HB0.out), told_len HLA0.out HR0.out⟩
          have g105_1 := b105_1.out.1
          have f105 : s5 < w5.heap.size := b105_0.out.2
          go_wp2_with fail
          refine (zero_ext H0.out (by have := HLA0.out; omega) true HB0.out).mono ?_
          rintro e w1 ⟨rfl, x1⟩
          have e1_ : Ext w w1 := Ext.trans HX5.out x1
          clear g105_1 f105
          have g106_1 := (b106_1.out.ext x1).1
          have g111_0 := (b111_0.out.ext x1).1
          have g111_1 := (b111_1.out.ext x1).1
          have z111_0 := (k111.out.gr x1.gr).free 0
          have z111_1 := (k111.out.gr x1.gr).free 1
          have f106 : s6 < w1.heap.size := (b106_0.out.ext x1).2
          have f111 : s11 < w1.heap.size := (b111_0.out.ext x1).2
          have n111_106 : s11 ≠ s6 := (by (try dsimp only); omega)
          have n106_111 : s6 ≠ s11 := Ne.symm n111_106
          go_wp2_with fail
          obtain ⟨v2, hv2⟩ : ∃ W, W = (w1.setCell ⟨s11, 0, none⟩ (.bool neg)) := ⟨_, rfl⟩
          have sv2 : v2 = setRow (s11) 0 [.bool neg] w1 := hv2
          have uv2 := setRow_bx' (o := 0) (cs := [.bool neg]) (k111.out.gr x1.gr) (by simp) noI_b
          have y2 : Gr w1 v2 := by rw [sv2]; exact setRow_gr' (o := 0) (cs := [.bool neg]) (k111.out.gr x1.gr) (by simp) noI_b
          have t2 : Hid (∀ t o u, t ≠ (s11) → At t o u w1 → At t o u v2) := fun t o u h k => by rw [sv2]; exact k.setRow h _ _
          have e2_ : Ext w v2 := by rw [sv2]; exact setRow_below _ _ Ls11.out _ _ e1_
          have b111_0 : Hid (At (s11) 0 (.bool neg) v2) := by rw [sv2]; exact uv2.2.1 0 _ rfl
          have b111_1 : Hid (At (s11) 1 (.slice (some ⟨g0, 0, none⟩) (A0.length + r0) gc0) v2) := by rw [sv2]; exact uv2.2.2 1 _ (by simp) (b111_1.out.ext x1)
          have k111 : Hid (Bx 2 (s11) v2) := by rw [sv2]; exact uv2.1
          rw [← hv2]
          clear hv2 sv2 uv2
          refine (zero_ext (H1.out.gr (x1.gr.trans y2)) (by have := HLA1.out; omega) false HB1.out).mono ?_
          rintro e w3 ⟨rfl, x3⟩
          have e3_ : Ext w w3 := Ext.trans e2_ x3
          clear g106_1 g111_0 g111_1 z111_0 z111_1 f106 f111 n111_106 n106_111
          have g105_0 := ((t2.out _ _ _ (by (try dsimp only); omega) (b105_0.out.ext x1)).ext x3).1
          have g105_1 := ((t2.out _ _ _ (by (try dsimp only); omega) (b105_1.out.ext x1)).ext x3).1
          have g106_0 := ((t2.out _ _ _ (by (try dsimp only); omega) (b106_0.out.ext x1)).ext x3).1
          have g106_1 := ((t2.out _ _ _ (by (try dsimp only); omega) (b106_1.out.ext x1)).ext x3).1
          have f105 : s5 < w3.heap.size := ((t2.out _ _ _ (by (try dsimp only); omega) (b105_0.out.ext x1)).ext x3).2
          have f106 : s6 < w3.heap.size := ((t2.out _ _ _ (by (try dsimp only); omega) (b106_0.out.ext x1)).ext x3).2
          go_wp2_with fail
          have D5_0 := Lib.hid ((t2.out _ _ _ (by (try dsimp only); omega) (b105_0.out.ext x1)).ext x3)
          have D5_1 := Lib.hid ((t2.out _ _ _ (by (try dsimp only); omega) (b105_1.out.ext x1)).ext x3)
          have D6_0 := Lib.hid ((t2.out _ _ _ (by (try dsimp only); omega) (b106_0.out.ext x1)).ext x3)
          have D6_1 := Lib.hid ((t2.out _ _ _ (by (try dsimp only); omega) (b106_1.out.ext x1)).ext x3)
          have D11_0 := Lib.hid (b111_0.out.ext x3)
          have D11_1 := Lib.hid (b111_1.out.ext x3)
          have D12_0 := Lib.hid ((t2.out _ _ _ (by (try dsimp only); omega) (b112_0.out.ext x1)).ext x3)
          have D12_1 := Lib.hid ((t2.out _ _ _ (by (try dsimp only); omega) (b112_1.out.ext x1)).ext x3)
          have F0 := Lib.hid (I0.out.gr (x1.gr.trans (y2.trans x3.gr)))
          have P0 := Lib.hid (H0.out.gr (x1.gr.trans (y2.trans x3.gr)))
          have F1 := Lib.hid (I1.out.gr (x1.gr.trans (y2.trans x3.gr)))
          have P1 := Lib.hid (H1.out.gr (x1.gr.trans (y2.trans x3.gr)))
          have M0 := Lib.hid (N0.out.gr (x1.gr.trans (y2.trans x3.gr)))
          have M1 := Lib.hid (J1.out.gr (x1.gr.trans (y2.trans x3.gr)))
          have EV : Hid (Ext w w3) := e3_
          obtain ⟨V5, rfl⟩ : ∃ W, W = w3 := ⟨_, rfl⟩
          have X0 : Hid (∃ b, At s11 0 (.bool b) V5 ∧ InI V5 b (.slice (some ⟨g0, 0, none⟩) (A0.length + r0) gc0) 14 z0) := ⟨_, D11_0.out, M0.out⟩
          have X1 : Hid (∃ b, At s12 0 (.bool b) V5 ∧ InI V5 b (.slice (some ⟨g, 0, none⟩) (A1.length + r1) gc) 14 z1) := ⟨_, D12_0.out, M1.out⟩
          have HH0 := H0
          clear D11_0 D12_0 M0 M1 H0 H1
        case' true.true =>
          have b105_0 := C5_0
          have b105_1 := C5_1
          have b106_0 := C6_0
          have b106_1 := C6_1
          have b111_0 := C11_0
          have b111_1 := C11_1
          have b112_0 := C12_0
          have b112_1 := C12_1
          have k111 := K11
          have k112 := K12
          have u105 : Hid (s5 < w5.heap.size) := b105_0.out.2
          have u106 : Hid (s6 < w5.heap.size) := b106_0.out.2
          have u111 : Hid (s11 < w5.heap.size) := b111_0.out.2
          have u112 : Hid (s12 < w5.heap.size) := b112_0.out.2
          have N0 : Hid (InI w5 neg (.slice (some ⟨g0, 0, none⟩) (A0.length + r0) gc0) 14 z0) := ⟨_, R0.out, by rw [← HV0.out, iv_zero (of_decide_eq_true HB0.out)]; exact iv_zero (by rw [val_told]; exact of_decide_eq_true HB0.out), told_len HLA0.out HR0.out⟩
          have N1 : Hid (InI w5 (!neg) (.slice (some ⟨g, 0, none⟩) (A1.length + r1) gc) 14 z1) := ⟨_, R1.out, by rw [← HV1.out, iv_zero (of_decide_eq_true HB1.out)]; exact iv_zero (by rw [val_told]; exact of_decide_eq_true HB1.out), told_len HLA1.out HR1.out⟩
          have g105_1 := b105_1.out.1
          have f105 : s5 < w5.heap.size := b105_0.out.2
          go_wp2_with fail
          refine (zero_ext H0.out (by have := HLA0.out; omega) true HB0.out).mono ?_
          rintro e w1 ⟨rfl, x1⟩
          have e1_ : Ext w w1 := Ext.trans HX5.out x1
          clear g105_1 f105
          have g106_1 := (b106_1.out.ext x1).1
          have g111_0 := (b111_0.out.ext x1).1
          have g111_1 := (b111_1.out.ext x1).1
          have z111_0 := (k111.out.gr x1.gr).free 0
          have z111_1 := (k111.out.gr x1.gr).free 1
          have f106 : s6 < w1.heap.size := (b106_0.out.ext x1).2
          have f111 : s11 < w1.heap.size := (b111_0.out.ext x1).2
          have n111_106 : s11 ≠ s6 := (by (try dsimp only); omega)
          have n106_111 : s6 ≠ s11 := Ne.symm n111_106
          go_wp2_with fail
          obtain ⟨v2, hv2⟩ : ∃ W, W = (w1.setCell ⟨s11, 0, none⟩ (.bool neg)) := ⟨_, rfl⟩
          have sv2 : v2 = setRow (s11) 0 [.bool neg] w1 := hv2
          have uv2 := setRow_bx' (o := 0) (cs := [.bool neg]) (k111.out.gr x1.gr) (by simp) noI_b
          have y2 : Gr w1 v2 := by rw [sv2]; exact setRow_gr' (o := 0) (cs := [.bool neg]) (k111.out.gr x1.gr) (by simp) noI_b
          have t2 : Hid (∀ t o u, t ≠ (s11) → At t o u w1 → At t o u v2) := fun t o u h k => by rw [sv2]; exact k.setRow h _ _
          have e2_ : Ext w v2 := by rw [sv2]; exact setRow_below _ _ Ls11.out _ _ e1_
          have b111_0 : Hid (At (s11) 0 (.bool neg) v2) := by rw [sv2]; exact uv2.2.1 0 _ rfl
          have b111_1 : Hid (At (s11) 1 (.slice (some ⟨g0, 0, none⟩) (A0.length + r0) gc0) v2) := by rw [sv2]; exact uv2.2.2 1 _ (by simp) (b111_1.out.ext x1)
          have k111 : Hid (Bx 2 (s11) v2) := by rw [sv2]; exact uv2.1
          rw [← hv2]
          clear hv2 sv2 uv2
          refine (zero_ext (H1.out.gr (x1.gr.trans y2)) (by have := HLA1.out; omega) true HB1.out).mono ?_
          rintro e w3 ⟨rfl, x3⟩
          have e3_ : Ext w w3 := Ext.trans e2_ x3
          clear g106_1 g111_0 g111_1 z111_0 z111_1 f106 f111 n111_106 n106_111
          have g105_0 := ((t2.out _ _ _ (by (try dsimp only); omega) (b105_0.out.ext x1)).ext x3).1
          have g105_1 := ((t2.out _ _ _ (by (try dsimp only); omega) (b105_1.out.ext x1)).ext x3).1
          have g106_0 := ((t2.out _ _ _ (by (try dsimp only); omega) (b106_0.out.ext x1)).ext x3).1
          have g106_1 := ((t2.out _ _ _ (by (try dsimp only); omega) (b106_1.out.ext x1)).ext x3).1
          have g112_0 := ((t2.out _ _ _ (by (try dsimp only); omega) (b112_0.out.ext x1)).ext x3).1
          have g112_1 := ((t2.out _ _ _ (by (try dsimp only); omega) (b112_1.out.ext x1)).ext x3).1
          have z112_0 := (k112.out.gr (x1.gr.trans (y2.trans x3.gr))).free 0
          have z112_1 := (k112.out.gr (x1.gr.trans (y2.trans x3.gr))).free 1
          have f105 : s5 < w3.heap.size := ((t2.out _ _ _ (by (try dsimp only); omega) (b105_0.out.ext x1)).ext x3).2
          have f106 : s6 < w3.heap.size := ((t2.out _ _ _ (by (try dsimp only); omega) (b106_0.out.ext x1)).ext x3).2
          have f112 : s12 < w3.heap.size := ((t2.out _ _ _ (by (try dsimp only); omega) (b112_0.out.ext x1)).ext x3).2
          have n112_105 : s12 ≠ s5 := (by (try dsimp only); omega)
          have n105_112 : s5 ≠ s12 := Ne.symm n112_105
          have n112_106 : s12 ≠ s6 := (by (try dsimp only); omega)
          have n106_112 : s6 ≠ s12 := Ne.symm n112_106
          go_wp2_with fail
          obtain ⟨v4, hv4⟩ : ∃ W, W = (w3.setCell ⟨s12, 0, none⟩ (.bool (!neg))) := ⟨_, rfl⟩
          have sv4 : v4 = setRow (s12) 0 [.bool (!neg)] w3 := hv4
          have uv4 := setRow_bx' (o := 0) (cs := [.bool (!neg)]) (k112.out.gr (x1.gr.trans (y2.trans x3.gr))) (by simp) noI_b
          have y4 : Gr w3 v4 := by rw [sv4]; exact setRow_gr' (o := 0) (cs := [.bool (!neg)]) (k112.out.gr (x1.gr.trans (y2.trans x3.gr))) (by simp) noI_b
          have t4 : Hid (∀ t o u, t ≠ (s12) → At t o u w3 → At t o u v4) := fun t o u h k => by rw [sv4]; exact k.setRow h _ _
          have e4_ : Ext w v4 := by rw [sv4]; exact setRow_below _ _ Ls12.out _ _ e3_
          have b112_0 : Hid (At (s12) 0 (.bool (!neg)) v4) := by rw [sv4]; exact uv4.2.1 0 _ rfl
          have b112_1 : Hid (At (s12) 1 (.slice (some ⟨g, 0, none⟩) (A1.length + r1) gc) v4) := by rw [sv4]; exact uv4.2.2 1 _ (by simp) ((t2.out _ _ _ (by (try dsimp only); omega) (b112_1.out.ext x1)).ext x3)
          have k112 : Hid (Bx 2 (s12) v4) := by rw [sv4]; exact uv4.1
          rw [← hv4]
          clear hv4 sv4 uv4
          have D5_0 := Lib.hid (t4.out _ _ _ (by (try dsimp only); omega) ((t2.out _ _ _ (by (try dsimp only); omega) (b105_0.out.ext x1)).ext x3))
          have D5_1 := Lib.hid (t4.out _ _ _ (by (try dsimp only); omega) ((t2.out _ _ _ (by (try dsimp only); omega) (b105_1.out.ext x1)).ext x3))
          have D6_0 := Lib.hid (t4.out _ _ _ (by (try dsimp only); omega) ((t2.out _ _ _ (by (try dsimp only); omega) (b106_0.out.ext x1)).ext x3))
          have D6_1 := Lib.hid (t4.out _ _ _ (by (try dsimp only); omega) ((t2.out _ _ _ (by (try dsimp only); omega) (b106_1.out.ext x1)).ext x3))
          have D11_0 := Lib.hid (t4.out _ _ _ (by (try dsimp only); omega) (b111_0.out.ext x3))
          have D11_1 := Lib.hid (t4.out _ _ _ (by (try dsimp only); omega) (b111_1.out.ext x3))
          have D12_0 := Lib.hid b112_0.out
          have D12_1 := Lib.hid b112_1.out
          have F0 := Lib.hid (I0.out.gr (x1.gr.trans (y2.trans (x3.gr.trans y4))))
          have P0 := Lib.hid (H0.out.gr (x1.gr.trans (y2.trans (x3.gr.trans y4))))
          have F1 := Lib.hid (I1.out.gr (x1.gr.trans (y2.trans (x3.gr.trans y4))))
          have P1 := Lib.hid (H1.out.gr (x1.gr.trans (y2.trans (x3.gr.trans y4))))
          have M0 := Lib.hid (N0.out.gr (x1.gr.trans (y2.trans (x3.gr.trans y4))))
          have M1 := Lib.hid (N1.out.gr (x1.gr.trans (y2.trans (x3.gr.trans y4))))
          have EV : Hid (Ext w v4) := e4_
          obtain ⟨V5, rfl⟩ : ∃ W, W = v4 := ⟨_, rfl⟩
          have X0 : Hid (∃ b, At s11 0 (.bool b) V5 ∧ InI V5 b (.slice (some ⟨g0, 0, none⟩) (A0.length + r0) gc0) 14 z0) := ⟨_, D11_0.out, M0.out⟩
          have X1 : Hid (∃ b, At s12 0 (.bool b) V5 ∧ InI V5 b (.slice (some ⟨g, 0, none⟩) (A1.length + r1) gc) 14 z1) := ⟨_, D12_0.out, M1.out⟩
          have HH0 := H0
          clear D11_0 D12_0 M0 M1 H0 H1
        all_goals
          obtain ⟨ba, xa0, xa1⟩ := X0.out
          obtain ⟨bb, xb0, xb1⟩ := X1.out
          have J0 := Lib.hid xa1
          have J1 := Lib.hid xb1
          have D11_0 := Lib.hid xa0
          have D12_0 := Lib.hid xb0
          have H0 := P0
          clear xa0 xa1 xb0 xb1 X0 X1
          have b105_0 := D5_0
          have b105_1 := D5_1
          have u105 : Hid (s5 < V5.heap.size) := b105_0.out.2
          have b106_0 := D6_0
          have b106_1 := D6_1
          have u106 : Hid (s6 < V5.heap.size) := b106_0.out.2
          have b111_0 := D11_0
          have b111_1 := D11_1
          have u111 : Hid (s11 < V5.heap.size) := b111_0.out.2
          have b112_0 := D12_0
          have b112_1 := D12_1
          have u112 : Hid (s12 < V5.heap.size) := b112_0.out.2
          have g105_0 := b105_0.out.1
          have g105_1 := b105_1.out.1
          have g106_0 := b106_0.out.1
          have g106_1 := b106_1.out.1
          have f105 : s5 < V5.heap.size := b105_0.out.2
          have f106 : s6 < V5.heap.size := b106_0.out.2
          refine (div_q F0.out F1.out (by decide) (by decide) Q R KE HQ.out HR.out HK.out).mono ?_
          rintro e w1 ⟨sb41, su41, sm41, su41_, sm41_, rfl, e41q, e41r, x1⟩
          have e1_ : Ext w w1 := Ext.trans EV.out x1
          obtain ⟨sp41q, sl41q, sc41q, rfl⟩ := e41q.slice
          obtain ⟨sp41r, sl41r, sc41r, rfl⟩ := e41r.slice
          clear g105_0 g105_1 g106_0 g106_1 f105 f106
          have g111_0 := (b111_0.out.ext x1).1
          have g111_1 := (b111_1.out.ext x1).1
          have g112_0 := (b112_0.out.ext x1).1
          have g112_1 := (b112_1.out.ext x1).1
          have f111 : s11 < w1.heap.size := (b111_0.out.ext x1).2
          have f112 : s12 < w1.heap.size := (b112_0.out.ext x1).2
          have ff111 : s11 < w1.heap.size + 1 := by omega
          have fff111 : s11 < w1.heap.size + 1 + 1 := by omega
          have ff112 : s12 < w1.heap.size + 1 := by omega
          have fff112 : s12 < w1.heap.size + 1 + 1 := by omega
          go_wp2_with fail
          obtain ⟨v2, hv2⟩ : ∃ W, W = ((w1.alloc (.cells #[.bool sb41, .slice sp41q sl41q sc41q] 26)).alloc (.cells #[.bool false, .slice sp41r sl41r sc41r] 26)) := ⟨_, rfl⟩
          have y2 : Ext w1 v2 := by rw [hv2]; exact (((Ext.refl _).alloc _).alloc _)
          have b400_0 : Hid (At (w1.heap.size) 0 (.bool sb41) v2) := by rw [hv2]; exact At.ext (At.n0 (by rfl)) ((Ext.refl _).alloc _)
          have b400_1 : Hid (At (w1.heap.size) 1 (.slice sp41q sl41q sc41q) v2) := by rw [hv2]; exact At.ext (At.n0 (by rfl)) ((Ext.refl _).alloc _)
          have k400 : Hid (Bx 2 (w1.heap.size) v2) := by rw [hv2]; exact Bx.gr (Bx.n0 2 ⟨rfl, by decide⟩ (by decide) noI_s2) (Ext.gr ((Ext.refl _).alloc _))
          have u400 : Hid (w1.heap.size < v2.heap.size) := b400_0.out.2
          have b401_0 : Hid (At (w1.heap.size + 1) 0 (.bool false) v2) := by rw [hv2]; exact At.ext (At.n1 (by rfl)) (Ext.refl _)
          have b401_1 : Hid (At (w1.heap.size + 1) 1 (.slice sp41r sl41r sc41r) v2) := by rw [hv2]; exact At.ext (At.n1 (by rfl)) (Ext.refl _)
          have k401 : Hid (Bx 2 (w1.heap.size + 1) v2) := by rw [hv2]; exact Bx.gr (Bx.n1 2 ⟨rfl, by decide⟩ (by decide) noI_s2) (Ext.gr (Ext.refl _))
          have u401 : Hid (w1.heap.size + 1 < v2.heap.size) := b401_0.out.2
          have e2_ : Ext w v2 := Ext.trans e1_ y2
          rw [← hv2]
          clear hv2
          refine (div_q (J0.out.ext (x1.trans y2)) (J1.out.ext (x1.trans y2)) (by decide) (by decide) Q R KE HQ.out HR.out HK.out).mono ?_
          rintro e w3 ⟨sb42, su42, sm42, su42_, sm42_, rfl, e42q, e42r, x3⟩
          have e3_ : Ext w w3 := Ext.trans e2_ x3
          obtain ⟨sp42q, sl42q, sc42q, rfl⟩ := e42q.slice
          obtain ⟨sp42r, sl42r, sc42r, rfl⟩ := e42r.slice
          clear g111_0 g111_1 g112_0 g112_1 f111 f112 ff111 fff111 ff112 fff112
          have g105_0 := (b105_0.out.ext (x1.trans (y2.trans x3))).1
          have g105_1 := (b105_1.out.ext (x1.trans (y2.trans x3))).1
          have f105 : s5 < w3.heap.size := (b105_0.out.ext (x1.trans (y2.trans x3))).2
          have ff105 : s5 < w3.heap.size + 1 := by omega
          have fff105 : s5 < w3.heap.size + 1 + 1 := by omega
          go_wp2_with fail
          obtain ⟨v4, hv4⟩ : ∃ W, W = ((w3.alloc (.cells #[.bool sb42, .slice sp42q sl42q sc42q] 26)).alloc (.cells #[.bool false, .slice sp42r sl42r sc42r] 26)) := ⟨_, rfl⟩
          have y4 : Ext w3 v4 := by rw [hv4]; exact (((Ext.refl _).alloc _).alloc _)
          have b402_0 : Hid (At (w3.heap.size) 0 (.bool sb42) v4) := by rw [hv4]; exact At.ext (At.n0 (by rfl)) ((Ext.refl _).alloc _)
          have b402_1 : Hid (At (w3.heap.size) 1 (.slice sp42q sl42q sc42q) v4) := by rw [hv4]; exact At.ext (At.n0 (by rfl)) ((Ext.refl _).alloc _)
          have k402 : Hid (Bx 2 (w3.heap.size) v4) := by rw [hv4]; exact Bx.gr (Bx.n0 2 ⟨rfl, by decide⟩ (by decide) noI_s2) (Ext.gr ((Ext.refl _).alloc _))
          have u402 : Hid (w3.heap.size < v4.heap.size) := b402_0.out.2
          have b403_0 : Hid (At (w3.heap.size + 1) 0 (.bool false) v4) := by rw [hv4]; exact At.ext (At.n1 (by rfl)) (Ext.refl _)
          have b403_1 : Hid (At (w3.heap.size + 1) 1 (.slice sp42r sl42r sc42r) v4) := by rw [hv4]; exact At.ext (At.n1 (by rfl)) (Ext.refl _)
          have k403 : Hid (Bx 2 (w3.heap.size + 1) v4) := by rw [hv4]; exact Bx.gr (Bx.n1 2 ⟨rfl, by decide⟩ (by decide) noI_s2) (Ext.gr (Ext.refl _))
          have u403 : Hid (w3.heap.size + 1 < v4.heap.size) := b403_0.out.2
          have e4_ : Ext w v4 := Ext.trans e3_ y4
          rw [← hv4]
          clear hv4
          refine (small_is (F0.out.ext (x1.trans (y2.trans (x3.trans y4)))) (by decide) sm HSM.out sf HSF.out).mono ?_
          rintro e w5 ⟨rfl, x5⟩
          have e5_ : Ext w w5 := Ext.trans e4_ x5
          clear g105_0 g105_1 f105 ff105 fff105
          have g111_0 := (b111_0.out.ext (x1.trans (y2.trans (x3.trans (y4.trans x5))))).1
          have g111_1 := (b111_1.out.ext (x1.trans (y2.trans (x3.trans (y4.trans x5))))).1
          have f111 : s11 < w5.heap.size := (b111_0.out.ext (x1.trans (y2.trans (x3.trans (y4.trans x5))))).2
          go_wp2_with fail
          refine (small_is (J0.out.ext (x1.trans (y2.trans (x3.trans (y4.trans x5))))) (by decide) sm HSM.out sf HSF.out).mono ?_
          rintro e w6 ⟨rfl, x6⟩
          have e6_ : Ext w w6 := Ext.trans e5_ x6
          clear g111_0 g111_1 f111
          go_wp2_with fail
          have hkeep41 : AllAt' ([(s5, 0, .bool n0), (s5, 1, .slice p0 A0.length q0), (s6, 0, .bool n1), (s6, 1, .slice p1 A1.length q1), (s11, 0, .bool ba), (s11, 1, .slice (some ⟨g0, 0, none⟩) (A0.length + r0) gc0), (s12, 0, .bool bb), (s12, 1, .slice (some ⟨g, 0, none⟩) (A1.length + r1) gc), (w1.heap.size, 0, .bool sb41), (w1.heap.size, 1, .slice sp41q sl41q sc41q), (w1.heap.size + 1, 0, .bool false), (w1.heap.size + 1, 1, .slice sp41r sl41r sc41r), (w3.heap.size, 0, .bool sb42), (w3.heap.size, 1, .slice sp42q sl42q sc42q), (w3.heap.size + 1, 0, .bool false), (w3.heap.size + 1, 1, .slice sp42r sl42r sc42r)] : List (Nat × Nat × Value)) w6 := AllAt'.cons (b105_0.out.ext (x1.trans (y2.trans (x3.trans (y4.trans (x5.trans x6)))))) (AllAt'.cons (b105_1.out.ext (x1.trans (y2.trans (x3.trans (y4.trans (x5.trans x6)))))) (AllAt'.cons (b106_0.out.ext (x1.trans (y2.trans (x3.trans (y4.trans (x5.trans x6)))))) (AllAt'.cons (b106_1.out.ext (x1.trans (y2.trans (x3.trans (y4.trans (x5.trans x6)))))) (AllAt'.cons (b111_0.out.ext (x1.trans (y2.trans (x3.trans (y4.trans (x5.trans x6)))))) (AllAt'.cons (b111_1.out.ext (x1.trans (y2.trans (x3.trans (y4.trans (x5.trans x6)))))) (AllAt'.cons (b112_0.out.ext (x1.trans (y2.trans (x3.trans (y4.trans (x5.trans x6)))))) (AllAt'.cons (b112_1.out.ext (x1.trans (y2.trans (x3.trans (y4.trans (x5.trans x6)))))) (AllAt'.cons (b400_0.out.ext (x3.trans (y4.trans (x5.trans x6)))) (AllAt'.cons (b400_1.out.ext (x3.trans (y4.trans (x5.trans x6)))) (AllAt'.cons (b401_0.out.ext (x3.trans (y4.trans (x5.trans x6)))) (AllAt'.cons (b401_1.out.ext (x3.trans (y4.trans (x5.trans x6)))) (AllAt'.cons (b402_0.out.ext (x5.trans x6)) (AllAt'.cons (b402_1.out.ext (x5.trans x6)) (AllAt'.cons (b403_0.out.ext (x5.trans x6)) (AllAt'.cons (b403_1.out.ext (x5.trans x6)) (AllAt'.nil _))))))))))))))))
          have hob41 : ObOk w.heap.size w6 (([(s5, 0, .bool n0), (s5, 1, .slice p0 A0.length q0), (s6, 0, .bool n1), (s6, 1, .slice p1 A1.length q1), (s11, 0, .bool ba), (s11, 1, .slice (some ⟨g0, 0, none⟩) (A0.length + r0) gc0), (s12, 0, .bool bb), (s12, 1, .slice (some ⟨g, 0, none⟩) (A1.length + r1) gc), (w1.heap.size, 0, .bool sb41), (w1.heap.size, 1, .slice sp41q sl41q sc41q), (w1.heap.size + 1, 0, .bool false), (w1.heap.size + 1, 1, .slice sp41r sl41r sc41r), (w3.heap.size, 0, .bool sb42), (w3.heap.size, 1, .slice sp42q sl42q sc42q), (w3.heap.size + 1, 0, .bool false), (w3.heap.size + 1, 1, .slice sp42r sl42r sc42r)] : List (Nat × Nat × Value)).map (·.1)) ([] : List (Nat × List (Nat × Value))) := trivial
          have hne41 : AllNe (([] : List (Nat × List (Nat × Value))).map (·.1)) := trivial
          (try simp only [List.append_eq, List.cons_append, List.nil_append])
          refine wp_region_gen ⟨[87, 88, 89, 90, 91, 92, 93, 94, 95, 96, 97, 98, 99, 100, 101, 102, 103, 104, 105, 106, 107, 108, 109, 110, 111, 112, 113, 114, 115, 116, 117, 118, 119, 120, 121, 122, 123, 124, 125, 126, 127, 128, 129, 130, 131, 132, 133, 134], fun i => false, fun i => ([none, none, none, none, none, none, none, none, none, none, none, none, none, none, none, none, none, none, none, none, none, none, none, none, none, none, none, none, none, none, none, none, none, none, none, none, none, none, none, none, none, none, none, none, none, none, none, none] : List (Option (BoxRef × Nat))).getD i none, fun i => ([Sg.val (.int .i64 KE), Sg.val (.int .i64 KE), Sg.val (.bool false), Sg.val (.bool false), Sg.int Q, Sg.int Q, Sg.val (.bool true), Sg.val (.bool false), Sg.val (.bool false), Sg.val (.bool false), Sg.int R, Sg.int R, Sg.val (.bool true), Sg.val (.bool false), Sg.val (.bool false), Sg.val (.bool false), Sg.val (.int .i64 sm), Sg.val (.int .i64 sm), Sg.val (.bool false), Sg.val (.bool false), Sg.val (.bool false), Sg.val (.bool sf), Sg.val (.bool sf), Sg.val (.bool false), Sg.val (.bool false), Sg.val (.bool false), Sg.val (.agg #[.bool n0, .slice p0 A0.length q0]), Sg.val (.agg #[.bool n1, .slice p1 A1.length q1]), Sg.val (.int .i64 cm), Sg.val (.agg #[.bool ba, .slice (some ⟨g0, 0, none⟩) (A0.length + r0) gc0]), Sg.val (.agg #[.bool bb, .slice (some ⟨g, 0, none⟩) (A1.length + r1) gc]), Sg.val (.int .i64 cm), Sg.val (.bool false), Sg.val (.bool false), Sg.val (.bool false), Sg.val (.agg #[.bool n0, .slice p0 A0.length q0]), Sg.val (.string ts), Sg.val (.agg #[.bool ba, .slice (some ⟨g0, 0, none⟩) (A0.length + r0) gc0]), Sg.val (.string ts), Sg.val (.bool false), Sg.val (.bool false), Sg.val (.bool false), Sg.val (.agg #[.bool n1, .slice p1 A1.length q1]), Sg.val (.int .i64 sg), Sg.val (.agg #[.bool bb, .slice (some ⟨g, 0, none⟩) (A1.length + r1) gc]), Sg.val (.int .i64 sg), Sg.val (.bool false), Sg.val (.bool false)] : List Sg).getD i Sg.any, [(s5, 0, .bool n0), (s5, 1, .slice p0 A0.length q0), (s6, 0, .bool n1), (s6, 1, .slice p1 A1.length q1), (s11, 0, .bool ba), (s11, 1, .slice (some ⟨g0, 0, none⟩) (A0.length + r0) gc0), (s12, 0, .bool bb), (s12, 1, .slice (some ⟨g, 0, none⟩) (A1.length + r1) gc), (w1.heap.size, 0, .bool sb41), (w1.heap.size, 1, .slice sp41q sl41q sc41q), (w1.heap.size + 1, 0, .bool false), (w1.heap.size + 1, 1, .slice sp41r sl41r sc41r), (w3.heap.size, 0, .bool sb42), (w3.heap.size, 1, .slice sp42q sl42q sc42q), (w3.heap.size + 1, 0, .bool false), (w3.heap.size + 1, 1, .slice sp42r sl42r sc42r)], []⟩ w.heap.size (by kernel_rfl) (by kernel_rfl) e6_.size ?hfr hkeep41 hob41 hne41 ?hs ?he
          case hfr =>
            intro i v wk hi hst hv
            exact absurd hi (by simp)
          case hs =>
            refine ⟨?_, ?_, ?_, ?_, ?_, ?_, ?_, ?_, ?_, ?_, ?_, ?_, ?_, ?_, ?_, ?_, ?_, ?_, ?_, ?_, ?_, ?_, ?_, ?_, ?_, ?_, ?_, ?_, ?_, ?_, ?_, ?_, ?_, ?_, ?_, ?_, ?_, ?_, ?_, ?_, ?_, ?_, ?_, ?_, ?_, ?_, ?_, ?_, trivial⟩
            · refine RStep.op rfl rfl (fun ac wk hp K hK => ?_)
              have t15_ : ac.tmps[15]?.getD undef = .int .i64 KE := hp.slot 15 rfl rfl
              have HP := Lib.hid hp
              clear hp
              go_simp
              refine hK.out _ _ ?_ (Ext.refl _) (fun h => absurd h (by simp))
              exact rfl
            · refine RStep.op rfl rfl (fun ac wk hp K hK => ?_)
              have t18_ : ac.tmps[18]?.getD undef = .int .i64 KE := hp.slot 18 rfl rfl
              have HP := Lib.hid hp
              clear hp
              go_simp
              refine hK.out _ _ ?_ (Ext.refl _) (fun h => absurd h (by simp))
              exact rfl
            · refine RStep.op rfl rfl (fun ac wk hp K hK => ?_)
              have u0e := hp.get 0 (by decide +kernel) rfl
              have t87_ : ac.tmps[87]?.getD undef = .int .i64 KE := slot_is' u0e
              have u1e := hp.get 1 (by decide +kernel) rfl
              have t88_ : ac.tmps[88]?.getD undef = .int .i64 KE := slot_is' u1e
              have HP := Lib.hid hp
              clear hp
              go_simp
              refine hK.out _ _ ?_ (Ext.refl _) (fun h => absurd h (by simp))
              exact rfl
            · refine RStep.op rfl rfl (fun ac wk hp K hK => ?_)
              have u2e := hp.get 2 (by decide +kernel) rfl
              have t89_ : ac.tmps[89]?.getD undef = .bool false := slot_is' u2e
              have HP := Lib.hid hp
              clear hp
              go_simp
              refine hK.out _ _ ?_ (Ext.refl _) (fun h => absurd h (by simp))
              exact rfl
            · refine RStep.yes 3 false rfl rfl (by decide +kernel) rfl rfl (fun ac wk hp K hK => ?_)
              have t13_ : ac.tmps[13]?.getD undef = .pointer (some ⟨w1.heap.size, 0, none⟩) := hp.slot 13 rfl rfl
              have c0_ := hp.cell 8 rfl
              have c1_ := hp.cell 9 rfl
              have HP := Lib.hid hp
              clear hp
              go_simp
              refine hK.out _ _ ?_ (Ext.refl _) (fun h => absurd h (by simp))
              exact ⟨_, _, _, _, _, rfl, (e41q.gr ((y2.gr.trans (x3.gr.trans (y4.gr.trans (x5.gr.trans x6.gr)))).trans HP.out.gr))⟩
            · refine RStep.yes 3 false rfl rfl (by decide +kernel) rfl rfl (fun ac wk hp K hK => ?_)
              have t16_ : ac.tmps[16]?.getD undef = .pointer (some ⟨w3.heap.size, 0, none⟩) := hp.slot 16 rfl rfl
              have c0_ := hp.cell 12 rfl
              have c1_ := hp.cell 13 rfl
              have HP := Lib.hid hp
              clear hp
              go_simp
              refine hK.out _ _ ?_ (Ext.refl _) (fun h => absurd h (by simp))
              exact ⟨_, _, _, _, _, rfl, (e42q.gr ((y4.gr.trans (x5.gr.trans x6.gr)).trans HP.out.gr))⟩
            · refine RStep.yes 3 false rfl rfl (by decide +kernel) rfl rfl (fun ac wk hp K hK => ?_)
              obtain ⟨u4b, u4p, u4n, u4c, u4m, u4e, u4i⟩ := hp.get 4 (by decide +kernel) rfl
              have t91_ : ac.tmps[91]?.getD undef = .agg #[.bool u4b, .slice u4p u4n u4c] := slot_is' u4e
              obtain ⟨u5b, u5p, u5n, u5c, u5m, u5e, u5i⟩ := hp.get 5 (by decide +kernel) rfl
              have t92_ : ac.tmps[92]?.getD undef = .agg #[.bool u5b, .slice u5p u5n u5c] := slot_is' u5e
              have HP := Lib.hid hp
              clear hp
              go_simp
              refine (same_is u4i u5i true (decide_eq_true (show (Q : Int) = Q from rfl))).mono ?_
              rintro e wk' ⟨rfl, ix⟩
              refine hK.out _ _ ?_ ix (fun h => absurd h (by simp))
              exact rfl
            · refine RStep.yes 3 false rfl rfl (by decide +kernel) rfl rfl (fun ac wk hp K hK => ?_)
              have u6e := hp.get 6 (by decide +kernel) rfl
              have t93_ : ac.tmps[93]?.getD undef = .bool true := slot_is' u6e
              have HP := Lib.hid hp
              clear hp
              go_simp
              refine hK.out _ _ ?_ (Ext.refl _) (fun h => absurd h (by simp))
              exact rfl
            · refine RStep.op rfl rfl (fun ac wk hp K hK => ?_)
              have u3e := hp.get 3 (by decide +kernel) rfl
              have t90_ : ac.tmps[90]?.getD undef = .bool false := slot_is' u3e
              have u7e := hp.get 7 (by decide +kernel) rfl
              have t94_ : ac.tmps[94]?.getD undef = .bool false := slot_is' u7e
              have HP := Lib.hid hp
              clear hp
              go_simp
              refine hK.out _ _ ?_ (Ext.refl _) (fun h => absurd h (by simp))
              exact rfl
            · refine RStep.op rfl rfl (fun ac wk hp K hK => ?_)
              have u8e := hp.get 8 (by decide +kernel) rfl
              have t95_ : ac.tmps[95]?.getD undef = .bool false := slot_is' u8e
              have HP := Lib.hid hp
              clear hp
              go_simp
              refine hK.out _ _ ?_ (Ext.refl _) (fun h => absurd h (by simp))
              exact rfl
            · refine RStep.yes 9 false rfl rfl (by decide +kernel) rfl rfl (fun ac wk hp K hK => ?_)
              have t14_ : ac.tmps[14]?.getD undef = .pointer (some ⟨w1.heap.size + 1, 0, none⟩) := hp.slot 14 rfl rfl
              have c0_ := hp.cell 10 rfl
              have c1_ := hp.cell 11 rfl
              have HP := Lib.hid hp
              clear hp
              go_simp
              refine hK.out _ _ ?_ (Ext.refl _) (fun h => absurd h (by simp))
              exact ⟨_, _, _, _, _, rfl, (e41r.gr ((y2.gr.trans (x3.gr.trans (y4.gr.trans (x5.gr.trans x6.gr)))).trans HP.out.gr))⟩
            · refine RStep.yes 9 false rfl rfl (by decide +kernel) rfl rfl (fun ac wk hp K hK => ?_)
              have t17_ : ac.tmps[17]?.getD undef = .pointer (some ⟨w3.heap.size + 1, 0, none⟩) := hp.slot 17 rfl rfl
              have c0_ := hp.cell 14 rfl
              have c1_ := hp.cell 15 rfl
              have HP := Lib.hid hp
              clear hp
              go_simp
              refine hK.out _ _ ?_ (Ext.refl _) (fun h => absurd h (by simp))
              exact ⟨_, _, _, _, _, rfl, (e42r.gr ((y4.gr.trans (x5.gr.trans x6.gr)).trans HP.out.gr))⟩
            · refine RStep.yes 9 false rfl rfl (by decide +kernel) rfl rfl (fun ac wk hp K hK => ?_)
              obtain ⟨u10b, u10p, u10n, u10c, u10m, u10e, u10i⟩ := hp.get 10 (by decide +kernel) rfl
              have t97_ : ac.tmps[97]?.getD undef = .agg #[.bool u10b, .slice u10p u10n u10c] := slot_is' u10e
              obtain ⟨u11b, u11p, u11n, u11c, u11m, u11e, u11i⟩ := hp.get 11 (by decide +kernel) rfl
              have t98_ : ac.tmps[98]?.getD undef = .agg #[.bool u11b, .slice u11p u11n u11c] := slot_is' u11e
              have HP := Lib.hid hp
              clear hp
              go_simp
              refine (same_is u10i u11i true (decide_eq_true (show (R : Int) = R from rfl))).mono ?_
              rintro e wk' ⟨rfl, ix⟩
              refine hK.out _ _ ?_ ix (fun h => absurd h (by simp))
              exact rfl
            · refine RStep.yes 9 false rfl rfl (by decide +kernel) rfl rfl (fun ac wk hp K hK => ?_)
              have u12e := hp.get 12 (by decide +kernel) rfl
              have t99_ : ac.tmps[99]?.getD undef = .bool true := slot_is' u12e
              have HP := Lib.hid hp
              clear hp
              go_simp
              refine hK.out _ _ ?_ (Ext.refl _) (fun h => absurd h (by simp))
              exact rfl
            · refine RStep.op rfl rfl (fun ac wk hp K hK => ?_)
              have u9e := hp.get 9 (by decide +kernel) rfl
              have t96_ : ac.tmps[96]?.getD undef = .bool false := slot_is' u9e
              have u13e := hp.get 13 (by decide +kernel) rfl
              have t100_ : ac.tmps[100]?.getD undef = .bool false := slot_is' u13e
              have HP := Lib.hid hp
              clear hp
              go_simp
              refine hK.out _ _ ?_ (Ext.refl _) (fun h => absurd h (by simp))
              exact rfl
            · refine RStep.op rfl rfl (fun ac wk hp K hK => ?_)
              have u14e := hp.get 14 (by decide +kernel) rfl
              have t101_ : ac.tmps[101]?.getD undef = .bool false := slot_is' u14e
              have HP := Lib.hid hp
              clear hp
              go_simp
              refine hK.out _ _ ?_ (Ext.refl _) (fun h => absurd h (by simp))
              exact rfl
            · refine RStep.yes 15 false rfl rfl (by decide +kernel) rfl rfl (fun ac wk hp K hK => ?_)
              have t19_ : ac.tmps[19]?.getD undef = .int .i64 sm := hp.slot 19 rfl rfl
              have HP := Lib.hid hp
              clear hp
              go_simp
              refine hK.out _ _ ?_ (Ext.refl _) (fun h => absurd h (by simp))
              exact rfl
            · refine RStep.yes 15 false rfl rfl (by decide +kernel) rfl rfl (fun ac wk hp K hK => ?_)
              have t21_ : ac.tmps[21]?.getD undef = .int .i64 sm := hp.slot 21 rfl rfl
              have HP := Lib.hid hp
              clear hp
              go_simp
              refine hK.out _ _ ?_ (Ext.refl _) (fun h => absurd h (by simp))
              exact rfl
            · refine RStep.yes 15 false rfl rfl (by decide +kernel) rfl rfl (fun ac wk hp K hK => ?_)
              have u16e := hp.get 16 (by decide +kernel) rfl
              have t103_ : ac.tmps[103]?.getD undef = .int .i64 sm := slot_is' u16e
              have u17e := hp.get 17 (by decide +kernel) rfl
              have t104_ : ac.tmps[104]?.getD undef = .int .i64 sm := slot_is' u17e
              have HP := Lib.hid hp
              clear hp
              go_simp
              refine hK.out _ _ ?_ (Ext.refl _) (fun h => absurd h (by simp))
              exact rfl
            · refine RStep.op rfl rfl (fun ac wk hp K hK => ?_)
              have u15e := hp.get 15 (by decide +kernel) rfl
              have t102_ : ac.tmps[102]?.getD undef = .bool false := slot_is' u15e
              have u18e := hp.get 18 (by decide +kernel) rfl
              have t105_ : ac.tmps[105]?.getD undef = .bool false := slot_is' u18e
              have HP := Lib.hid hp
              clear hp
              go_simp
              refine hK.out _ _ ?_ (Ext.refl _) (fun h => absurd h (by simp))
              exact rfl
            · refine RStep.op rfl rfl (fun ac wk hp K hK => ?_)
              have u19e := hp.get 19 (by decide +kernel) rfl
              have t106_ : ac.tmps[106]?.getD undef = .bool false := slot_is' u19e
              have HP := Lib.hid hp
              clear hp
              go_simp
              refine hK.out _ _ ?_ (Ext.refl _) (fun h => absurd h (by simp))
              exact rfl
            · refine RStep.yes 20 false rfl rfl (by decide +kernel) rfl rfl (fun ac wk hp K hK => ?_)
              have t20_ : ac.tmps[20]?.getD undef = .bool sf := hp.slot 20 rfl rfl
              have HP := Lib.hid hp
              clear hp
              go_simp
              refine hK.out _ _ ?_ (Ext.refl _) (fun h => absurd h (by simp))
              exact rfl
            · refine RStep.yes 20 false rfl rfl (by decide +kernel) rfl rfl (fun ac wk hp K hK => ?_)
              have t22_ : ac.tmps[22]?.getD undef = .bool sf := hp.slot 22 rfl rfl
              have HP := Lib.hid hp
              clear hp
              go_simp
              refine hK.out _ _ ?_ (Ext.refl _) (fun h => absurd h (by simp))
              exact rfl
            · refine RStep.yes 20 false rfl rfl (by decide +kernel) rfl rfl (fun ac wk hp K hK => ?_)
              have u21e := hp.get 21 (by decide +kernel) rfl
              have t108_ : ac.tmps[108]?.getD undef = .bool sf := slot_is' u21e
              have u22e := hp.get 22 (by decide +kernel) rfl
              have t109_ : ac.tmps[109]?.getD undef = .bool sf := slot_is' u22e
              have HP := Lib.hid hp
              clear hp
              go_simp
              refine hK.out _ _ ?_ (Ext.refl _) (fun h => absurd h (by simp))
              exact rfl
            · refine RStep.op rfl rfl (fun ac wk hp K hK => ?_)
              have u20e := hp.get 20 (by decide +kernel) rfl
              have t107_ : ac.tmps[107]?.getD undef = .bool false := slot_is' u20e
              have u23e := hp.get 23 (by decide +kernel) rfl
              have t110_ : ac.tmps[110]?.getD undef = .bool false := slot_is' u23e
              have HP := Lib.hid hp
              clear hp
              go_simp
              refine hK.out _ _ ?_ (Ext.refl _) (fun h => absurd h (by simp))
              exact rfl
            · refine RStep.op rfl rfl (fun ac wk hp K hK => ?_)
              have u24e := hp.get 24 (by decide +kernel) rfl
              have t111_ : ac.tmps[111]?.getD undef = .bool false := slot_is' u24e
              have HP := Lib.hid hp
              clear hp
              go_simp
              refine hK.out _ _ ?_ (Ext.refl _) (fun h => absurd h (by simp))
              exact rfl
            · refine RStep.yes 25 false rfl rfl (by decide +kernel) rfl rfl (fun ac wk hp K hK => ?_)
              have t5_ : ac.tmps[5]?.getD undef = .pointer (some ⟨s5, 0, none⟩) := hp.slot 5 rfl rfl
              have c0_ := hp.cell 0 rfl
              have c1_ := hp.cell 1 rfl
              have HP := Lib.hid hp
              clear hp
              go_simp
              refine hK.out _ _ ?_ (Ext.refl _) (fun h => absurd h (by simp))
              exact rfl
            · refine RStep.yes 25 false rfl rfl (by decide +kernel) rfl rfl (fun ac wk hp K hK => ?_)
              have t6_ : ac.tmps[6]?.getD undef = .pointer (some ⟨s6, 0, none⟩) := hp.slot 6 rfl rfl
              have c0_ := hp.cell 2 rfl
              have c1_ := hp.cell 3 rfl
              have HP := Lib.hid hp
              clear hp
              go_simp
              refine hK.out _ _ ?_ (Ext.refl _) (fun h => absurd h (by simp))
              exact rfl
            · refine RStep.yes 25 false rfl rfl (by decide +kernel) rfl rfl (fun ac wk hp K hK => ?_)
              have u26e := hp.get 26 (by decide +kernel) rfl
              have t113_ : ac.tmps[113]?.getD undef = .agg #[.bool n0, .slice p0 A0.length q0] := slot_is' u26e
              have u27e := hp.get 27 (by decide +kernel) rfl
              have t114_ : ac.tmps[114]?.getD undef = .agg #[.bool n1, .slice p1 A1.length q1] := slot_is' u27e
              have HP := Lib.hid hp
              clear hp
              go_simp
              refine (cmp_is (F0.out.gr ((x1.gr.trans (y2.gr.trans (x3.gr.trans (y4.gr.trans (x5.gr.trans x6.gr))))).trans HP.out.gr)) (F1.out.gr ((x1.gr.trans (y2.gr.trans (x3.gr.trans (y4.gr.trans (x5.gr.trans x6.gr))))).trans HP.out.gr)) (by decide) (by decide) cm HCM.out).mono ?_
              rintro e wk' ⟨rfl, ix⟩
              refine hK.out _ _ ?_ ix (fun h => absurd h (by simp))
              exact rfl
            · refine RStep.yes 25 false rfl rfl (by decide +kernel) rfl rfl (fun ac wk hp K hK => ?_)
              have t11_ : ac.tmps[11]?.getD undef = .pointer (some ⟨s11, 0, none⟩) := hp.slot 11 rfl rfl
              have c0_ := hp.cell 4 rfl
              have c1_ := hp.cell 5 rfl
              have HP := Lib.hid hp
              clear hp
              go_simp
              refine hK.out _ _ ?_ (Ext.refl _) (fun h => absurd h (by simp))
              exact rfl
            · refine RStep.yes 25 false rfl rfl (by decide +kernel) rfl rfl (fun ac wk hp K hK => ?_)
              have t12_ : ac.tmps[12]?.getD undef = .pointer (some ⟨s12, 0, none⟩) := hp.slot 12 rfl rfl
              have c0_ := hp.cell 6 rfl
              have c1_ := hp.cell 7 rfl
              have HP := Lib.hid hp
              clear hp
              go_simp
              refine hK.out _ _ ?_ (Ext.refl _) (fun h => absurd h (by simp))
              exact rfl
            · refine RStep.yes 25 false rfl rfl (by decide +kernel) rfl rfl (fun ac wk hp K hK => ?_)
              have u29e := hp.get 29 (by decide +kernel) rfl
              have t116_ : ac.tmps[116]?.getD undef = .agg #[.bool ba, .slice (some ⟨g0, 0, none⟩) (A0.length + r0) gc0] := slot_is' u29e
              have u30e := hp.get 30 (by decide +kernel) rfl
              have t117_ : ac.tmps[117]?.getD undef = .agg #[.bool bb, .slice (some ⟨g, 0, none⟩) (A1.length + r1) gc] := slot_is' u30e
              have HP := Lib.hid hp
              clear hp
              go_simp
              refine (cmp_is (J0.out.gr ((x1.gr.trans (y2.gr.trans (x3.gr.trans (y4.gr.trans (x5.gr.trans x6.gr))))).trans HP.out.gr)) (J1.out.gr ((x1.gr.trans (y2.gr.trans (x3.gr.trans (y4.gr.trans (x5.gr.trans x6.gr))))).trans HP.out.gr)) (by decide) (by decide) cm HCM.out).mono ?_
              rintro e wk' ⟨rfl, ix⟩
              refine hK.out _ _ ?_ ix (fun h => absurd h (by simp))
              exact rfl
            · refine RStep.yes 25 false rfl rfl (by decide +kernel) rfl rfl (fun ac wk hp K hK => ?_)
              have u28e := hp.get 28 (by decide +kernel) rfl
              have t115_ : ac.tmps[115]?.getD undef = .int .i64 cm := slot_is' u28e
              have u31e := hp.get 31 (by decide +kernel) rfl
              have t118_ : ac.tmps[118]?.getD undef = .int .i64 cm := slot_is' u31e
              have HP := Lib.hid hp
              clear hp
              go_simp
              refine hK.out _ _ ?_ (Ext.refl _) (fun h => absurd h (by simp))
              exact rfl
            · refine RStep.op rfl rfl (fun ac wk hp K hK => ?_)
              have u25e := hp.get 25 (by decide +kernel) rfl
              have t112_ : ac.tmps[112]?.getD undef = .bool false := slot_is' u25e
              have u32e := hp.get 32 (by decide +kernel) rfl
              have t119_ : ac.tmps[119]?.getD undef = .bool false := slot_is' u32e
              have HP := Lib.hid hp
              clear hp
              go_simp
              refine hK.out _ _ ?_ (Ext.refl _) (fun h => absurd h (by simp))
              exact rfl
            · refine RStep.op rfl rfl (fun ac wk hp K hK => ?_)
              have u33e := hp.get 33 (by decide +kernel) rfl
              have t120_ : ac.tmps[120]?.getD undef = .bool false := slot_is' u33e
              have HP := Lib.hid hp
              clear hp
              go_simp
              refine hK.out _ _ ?_ (Ext.refl _) (fun h => absurd h (by simp))
              exact rfl
            · refine RStep.yes 34 false rfl rfl (by decide +kernel) rfl rfl (fun ac wk hp K hK => ?_)
              have t5_ : ac.tmps[5]?.getD undef = .pointer (some ⟨s5, 0, none⟩) := hp.slot 5 rfl rfl
              have c0_ := hp.cell 0 rfl
              have c1_ := hp.cell 1 rfl
              have HP := Lib.hid hp
              clear hp
              go_simp
              refine hK.out _ _ ?_ (Ext.refl _) (fun h => absurd h (by simp))
              exact rfl
            · refine RStep.yes 34 false rfl rfl (by decide +kernel) rfl rfl (fun ac wk hp K hK => ?_)
              have u35e := hp.get 35 (by decide +kernel) rfl
              have t122_ : ac.tmps[122]?.getD undef = .agg #[.bool n0, .slice p0 A0.length q0] := slot_is' u35e
              have HP := Lib.hid hp
              clear hp
              go_simp
              refine (show_is (F0.out.gr ((x1.gr.trans (y2.gr.trans (x3.gr.trans (y4.gr.trans (x5.gr.trans x6.gr))))).trans HP.out.gr)) (by decide) ts HTS.out HTL.out).mono ?_
              rintro e wk' ⟨rfl, ix⟩
              refine hK.out _ _ ?_ ix (fun h => absurd h (by simp))
              exact rfl
            · refine RStep.yes 34 false rfl rfl (by decide +kernel) rfl rfl (fun ac wk hp K hK => ?_)
              have t11_ : ac.tmps[11]?.getD undef = .pointer (some ⟨s11, 0, none⟩) := hp.slot 11 rfl rfl
              have c0_ := hp.cell 4 rfl
              have c1_ := hp.cell 5 rfl
              have HP := Lib.hid hp
              clear hp
              go_simp
              refine hK.out _ _ ?_ (Ext.refl _) (fun h => absurd h (by simp))
              exact rfl
            · refine RStep.yes 34 false rfl rfl (by decide +kernel) rfl rfl (fun ac wk hp K hK => ?_)
              have u37e := hp.get 37 (by decide +kernel) rfl
              have t124_ : ac.tmps[124]?.getD undef = .agg #[.bool ba, .slice (some ⟨g0, 0, none⟩) (A0.length + r0) gc0] := slot_is' u37e
              have HP := Lib.hid hp
              clear hp
              go_simp
              refine (show_is (J0.out.gr ((x1.gr.trans (y2.gr.trans (x3.gr.trans (y4.gr.trans (x5.gr.trans x6.gr))))).trans HP.out.gr)) (by decide) ts HTS.out HTL.out).mono ?_
              rintro e wk' ⟨rfl, ix⟩
              refine hK.out _ _ ?_ ix (fun h => absurd h (by simp))
              exact rfl
            · refine RStep.yes 34 false rfl rfl (by decide +kernel) rfl rfl (fun ac wk hp K hK => ?_)
              have u36e := hp.get 36 (by decide +kernel) rfl
              have t123_ : ac.tmps[123]?.getD undef = .string ts := slot_is' u36e
              have u38e := hp.get 38 (by decide +kernel) rfl
              have t125_ : ac.tmps[125]?.getD undef = .string ts := slot_is' u38e
              have HP := Lib.hid hp
              clear hp
              go_simp
              refine hK.out _ _ ?_ (Ext.refl _) (fun h => absurd h (by simp))
              exact rfl
            · refine RStep.op rfl rfl (fun ac wk hp K hK => ?_)
              have u34e := hp.get 34 (by decide +kernel) rfl
              have t121_ : ac.tmps[121]?.getD undef = .bool false := slot_is' u34e
              have u39e := hp.get 39 (by decide +kernel) rfl
              have t126_ : ac.tmps[126]?.getD undef = .bool false := slot_is' u39e
              have HP := Lib.hid hp
              clear hp
              go_simp
              refine hK.out _ _ ?_ (Ext.refl _) (fun h => absurd h (by simp))
              exact rfl
            · refine RStep.op rfl rfl (fun ac wk hp K hK => ?_)
              have u40e := hp.get 40 (by decide +kernel) rfl
              have t127_ : ac.tmps[127]?.getD undef = .bool false := slot_is' u40e
              have HP := Lib.hid hp
              clear hp
              go_simp
              refine hK.out _ _ ?_ (Ext.refl _) (fun h => absurd h (by simp))
              exact rfl
            · refine RStep.yes 41 false rfl rfl (by decide +kernel) rfl rfl (fun ac wk hp K hK => ?_)
              have t6_ : ac.tmps[6]?.getD undef = .pointer (some ⟨s6, 0, none⟩) := hp.slot 6 rfl rfl
              have c0_ := hp.cell 2 rfl
              have c1_ := hp.cell 3 rfl
              have HP := Lib.hid hp
              clear hp
              go_simp
              refine hK.out _ _ ?_ (Ext.refl _) (fun h => absurd h (by simp))
              exact rfl
            · refine RStep.yes 41 false rfl rfl (by decide +kernel) rfl rfl (fun ac wk hp K hK => ?_)
              have u42e := hp.get 42 (by decide +kernel) rfl
              have t129_ : ac.tmps[129]?.getD undef = .agg #[.bool n1, .slice p1 A1.length q1] := slot_is' u42e
              have HP := Lib.hid hp
              clear hp
              go_simp
              refine (sign_is (F1.out.gr ((x1.gr.trans (y2.gr.trans (x3.gr.trans (y4.gr.trans (x5.gr.trans x6.gr))))).trans HP.out.gr)) (by decide) sg HSG.out).mono ?_
              rintro e wk' ⟨rfl, ix⟩
              refine hK.out _ _ ?_ ix (fun h => absurd h (by simp))
              exact rfl
            · refine RStep.yes 41 false rfl rfl (by decide +kernel) rfl rfl (fun ac wk hp K hK => ?_)
              have t12_ : ac.tmps[12]?.getD undef = .pointer (some ⟨s12, 0, none⟩) := hp.slot 12 rfl rfl
              have c0_ := hp.cell 6 rfl
              have c1_ := hp.cell 7 rfl
              have HP := Lib.hid hp
              clear hp
              go_simp
              refine hK.out _ _ ?_ (Ext.refl _) (fun h => absurd h (by simp))
              exact rfl
            · refine RStep.yes 41 false rfl rfl (by decide +kernel) rfl rfl (fun ac wk hp K hK => ?_)
              have u44e := hp.get 44 (by decide +kernel) rfl
              have t131_ : ac.tmps[131]?.getD undef = .agg #[.bool bb, .slice (some ⟨g, 0, none⟩) (A1.length + r1) gc] := slot_is' u44e
              have HP := Lib.hid hp
              clear hp
              go_simp
              refine (sign_is (J1.out.gr ((x1.gr.trans (y2.gr.trans (x3.gr.trans (y4.gr.trans (x5.gr.trans x6.gr))))).trans HP.out.gr)) (by decide) sg HSG.out).mono ?_
              rintro e wk' ⟨rfl, ix⟩
              refine hK.out _ _ ?_ ix (fun h => absurd h (by simp))
              exact rfl
            · refine RStep.yes 41 false rfl rfl (by decide +kernel) rfl rfl (fun ac wk hp K hK => ?_)
              have u43e := hp.get 43 (by decide +kernel) rfl
              have t130_ : ac.tmps[130]?.getD undef = .int .i64 sg := slot_is' u43e
              have u45e := hp.get 45 (by decide +kernel) rfl
              have t132_ : ac.tmps[132]?.getD undef = .int .i64 sg := slot_is' u45e
              have HP := Lib.hid hp
              clear hp
              go_simp
              refine hK.out _ _ ?_ (Ext.refl _) (fun h => absurd h (by simp))
              exact rfl
            · refine RStep.op rfl rfl (fun ac wk hp K hK => ?_)
              have u41e := hp.get 41 (by decide +kernel) rfl
              have t128_ : ac.tmps[128]?.getD undef = .bool false := slot_is' u41e
              have u46e := hp.get 46 (by decide +kernel) rfl
              have t133_ : ac.tmps[133]?.getD undef = .bool false := slot_is' u46e
              have HP := Lib.hid hp
              clear hp
              go_simp
              refine hK.out _ _ ?_ (Ext.refl _) (fun h => absurd h (by simp))
              exact rfl
          case he =>
            intro ac v7 hM
            have y41_0e := hM.post 0 rfl rfl
            have y41_1e := hM.post 1 rfl rfl
            have y41_2e := hM.post 2 rfl rfl
            have y41_3e := hM.post 3 rfl rfl
            obtain ⟨y41_4b, y41_4p, y41_4n, y41_4c, y41_4m, y41_4e, y41_4i⟩ := hM.post 4 rfl rfl
            obtain ⟨y41_5b, y41_5p, y41_5n, y41_5c, y41_5m, y41_5e, y41_5i⟩ := hM.post 5 rfl rfl
            have y41_6e := hM.post 6 rfl rfl
            have y41_7e := hM.post 7 rfl rfl
            have y41_8e := hM.post 8 rfl rfl
            have y41_9e := hM.post 9 rfl rfl
            obtain ⟨y41_10b, y41_10p, y41_10n, y41_10c, y41_10m, y41_10e, y41_10i⟩ := hM.post 10 rfl rfl
            obtain ⟨y41_11b, y41_11p, y41_11n, y41_11c, y41_11m, y41_11e, y41_11i⟩ := hM.post 11 rfl rfl
            have y41_12e := hM.post 12 rfl rfl
            have y41_13e := hM.post 13 rfl rfl
            have y41_14e := hM.post 14 rfl rfl
            have y41_15e := hM.post 15 rfl rfl
            have y41_16e := hM.post 16 rfl rfl
            have y41_17e := hM.post 17 rfl rfl
            have y41_18e := hM.post 18 rfl rfl
            have y41_19e := hM.post 19 rfl rfl
            have y41_20e := hM.post 20 rfl rfl
            have y41_21e := hM.post 21 rfl rfl
            have y41_22e := hM.post 22 rfl rfl
            have y41_23e := hM.post 23 rfl rfl
            have y41_24e := hM.post 24 rfl rfl
            have y41_25e := hM.post 25 rfl rfl
            have y41_26e := hM.post 26 rfl rfl
            have y41_27e := hM.post 27 rfl rfl
            have y41_28e := hM.post 28 rfl rfl
            have y41_29e := hM.post 29 rfl rfl
            have y41_30e := hM.post 30 rfl rfl
            have y41_31e := hM.post 31 rfl rfl
            have y41_32e := hM.post 32 rfl rfl
            have y41_33e := hM.post 33 rfl rfl
            have y41_34e := hM.post 34 rfl rfl
            have y41_35e := hM.post 35 rfl rfl
            have y41_36e := hM.post 36 rfl rfl
            have y41_37e := hM.post 37 rfl rfl
            have y41_38e := hM.post 38 rfl rfl
            have y41_39e := hM.post 39 rfl rfl
            have y41_40e := hM.post 40 rfl rfl
            have y41_41e := hM.post 41 rfl rfl
            have y41_42e := hM.post 42 rfl rfl
            have y41_43e := hM.post 43 rfl rfl
            have y41_44e := hM.post 44 rfl rfl
            have y41_45e := hM.post 45 rfl rfl
            have y41_46e := hM.post 46 rfl rfl
            have y41_47e := hM.post 47 rfl rfl
            have b105_0 : Hid (At (s5) 0 (.bool n0) v7) := Lib.hid (hM.keep.at 0 rfl)
            have b105_1 : Hid (At (s5) 1 (.slice p0 A0.length q0) v7) := Lib.hid (hM.keep.at 1 rfl)
            have b106_0 : Hid (At (s6) 0 (.bool n1) v7) := Lib.hid (hM.keep.at 2 rfl)
            have b106_1 : Hid (At (s6) 1 (.slice p1 A1.length q1) v7) := Lib.hid (hM.keep.at 3 rfl)
            have b111_0 : Hid (At (s11) 0 (.bool ba) v7) := Lib.hid (hM.keep.at 4 rfl)
            have b111_1 : Hid (At (s11) 1 (.slice (some ⟨g0, 0, none⟩) (A0.length + r0) gc0) v7) := Lib.hid (hM.keep.at 5 rfl)
            have b112_0 : Hid (At (s12) 0 (.bool bb) v7) := Lib.hid (hM.keep.at 6 rfl)
            have b112_1 : Hid (At (s12) 1 (.slice (some ⟨g, 0, none⟩) (A1.length + r1) gc) v7) := Lib.hid (hM.keep.at 7 rfl)
            have b400_0 : Hid (At (w1.heap.size) 0 (.bool sb41) v7) := Lib.hid (hM.keep.at 8 rfl)
            have b400_1 : Hid (At (w1.heap.size) 1 (.slice sp41q sl41q sc41q) v7) := Lib.hid (hM.keep.at 9 rfl)
            have b401_0 : Hid (At (w1.heap.size + 1) 0 (.bool false) v7) := Lib.hid (hM.keep.at 10 rfl)
            have b401_1 : Hid (At (w1.heap.size + 1) 1 (.slice sp41r sl41r sc41r) v7) := Lib.hid (hM.keep.at 11 rfl)
            have b402_0 : Hid (At (w3.heap.size) 0 (.bool sb42) v7) := Lib.hid (hM.keep.at 12 rfl)
            have b402_1 : Hid (At (w3.heap.size) 1 (.slice sp42q sl42q sc42q) v7) := Lib.hid (hM.keep.at 13 rfl)
            have b403_0 : Hid (At (w3.heap.size + 1) 0 (.bool false) v7) := Lib.hid (hM.keep.at 14 rfl)
            have b403_1 : Hid (At (w3.heap.size + 1) 1 (.slice sp42r sl42r sc42r) v7) := Lib.hid (hM.keep.at 15 rfl)
            have gv7 : Gr w6 v7 := hM.gr
            have e7_ : Ext w v7 := Ext.below e6_ hM.blw
            have z0_ : sl ac 87 = .int .i64 KE := y41_0e
            have z1_ : sl ac 88 = .int .i64 KE := y41_1e
            have z2_ : sl ac 89 = .bool false := y41_2e
            have z3_ : sl ac 90 = .bool false := y41_3e
            have z4_ : sl ac 91 = .agg #[.bool y41_4b, .slice y41_4p y41_4n y41_4c] := y41_4e
            have z5_ : sl ac 92 = .agg #[.bool y41_5b, .slice y41_5p y41_5n y41_5c] := y41_5e
            have z6_ : sl ac 93 = .bool true := y41_6e
            have z7_ : sl ac 94 = .bool false := y41_7e
            have z8_ : sl ac 95 = .bool false := y41_8e
            have z9_ : sl ac 96 = .bool false := y41_9e
            have z10_ : sl ac 97 = .agg #[.bool y41_10b, .slice y41_10p y41_10n y41_10c] := y41_10e
            have z11_ : sl ac 98 = .agg #[.bool y41_11b, .slice y41_11p y41_11n y41_11c] := y41_11e
            have z12_ : sl ac 99 = .bool true := y41_12e
            have z13_ : sl ac 100 = .bool false := y41_13e
            have z14_ : sl ac 101 = .bool false := y41_14e
            have z15_ : sl ac 102 = .bool false := y41_15e
            have z16_ : sl ac 103 = .int .i64 sm := y41_16e
            have z17_ : sl ac 104 = .int .i64 sm := y41_17e
            have z18_ : sl ac 105 = .bool false := y41_18e
            have z19_ : sl ac 106 = .bool false := y41_19e
            have z20_ : sl ac 107 = .bool false := y41_20e
            have z21_ : sl ac 108 = .bool sf := y41_21e
            have z22_ : sl ac 109 = .bool sf := y41_22e
            have z23_ : sl ac 110 = .bool false := y41_23e
            have z24_ : sl ac 111 = .bool false := y41_24e
            have z25_ : sl ac 112 = .bool false := y41_25e
            have z26_ : sl ac 113 = .agg #[.bool n0, .slice p0 A0.length q0] := y41_26e
            have z27_ : sl ac 114 = .agg #[.bool n1, .slice p1 A1.length q1] := y41_27e
            have z28_ : sl ac 115 = .int .i64 cm := y41_28e
            have z29_ : sl ac 116 = .agg #[.bool ba, .slice (some ⟨g0, 0, none⟩) (A0.length + r0) gc0] := y41_29e
            have z30_ : sl ac 117 = .agg #[.bool bb, .slice (some ⟨g, 0, none⟩) (A1.length + r1) gc] := y41_30e
            have z31_ : sl ac 118 = .int .i64 cm := y41_31e
            have z32_ : sl ac 119 = .bool false := y41_32e
            have z33_ : sl ac 120 = .bool false := y41_33e
            have z34_ : sl ac 121 = .bool false := y41_34e
            have z35_ : sl ac 122 = .agg #[.bool n0, .slice p0 A0.length q0] := y41_35e
            have z36_ : sl ac 123 = .string ts := y41_36e
            have z37_ : sl ac 124 = .agg #[.bool ba, .slice (some ⟨g0, 0, none⟩) (A0.length + r0) gc0] := y41_37e
            have z38_ : sl ac 125 = .string ts := y41_38e
            have z39_ : sl ac 126 = .bool false := y41_39e
            have z40_ : sl ac 127 = .bool false := y41_40e
            have z41_ : sl ac 128 = .bool false := y41_41e
            have z42_ : sl ac 129 = .agg #[.bool n1, .slice p1 A1.length q1] := y41_42e
            have z43_ : sl ac 130 = .int .i64 sg := y41_43e
            have z44_ : sl ac 131 = .agg #[.bool bb, .slice (some ⟨g, 0, none⟩) (A1.length + r1) gc] := y41_44e
            have z45_ : sl ac 132 = .int .i64 sg := y41_45e
            have z46_ : sl ac 133 = .bool false := y41_46e
            have z47_ : sl ac 134 = .bool false := y41_47e
            rw [hM.ag.lay]
            simp only [lay, List.foldl_cons, List.foldl_nil, List.setIfInBounds_toArray, List.set_cons_zero, List.set_cons_succ, z0_, z1_, z2_, z3_, z4_, z5_, z6_, z7_, z8_, z9_, z10_, z11_, z12_, z13_, z14_, z15_, z16_, z17_, z18_, z19_, z20_, z21_, z22_, z23_, z24_, z25_, z26_, z27_, z28_, z29_, z30_, z31_, z32_, z33_, z34_, z35_, z36_, z37_, z38_, z39_, z40_, z41_, z42_, z43_, z44_, z45_, z46_, z47_]
            clear hM hkeep41 hob41 hne41 z0_ z1_ z2_ z3_ z4_ z5_ z6_ z7_ z8_ z9_ z10_ z11_ z12_ z13_ z14_ z15_ z16_ z17_ z18_ z19_ z20_ z21_ z22_ z23_ z24_ z25_ z26_ z27_ z28_ z29_ z30_ z31_ z32_ z33_ z34_ z35_ z36_ z37_ z38_ z39_ z40_ z41_ z42_ z43_ z44_ z45_ z46_ z47_ y41_0e y41_1e y41_2e y41_3e y41_4e y41_5e y41_6e y41_7e y41_8e y41_9e y41_10e y41_11e y41_12e y41_13e y41_14e y41_15e y41_16e y41_17e y41_18e y41_19e y41_20e y41_21e y41_22e y41_23e y41_24e y41_25e y41_26e y41_27e y41_28e y41_29e y41_30e y41_31e y41_32e y41_33e y41_34e y41_35e y41_36e y41_37e y41_38e y41_39e y41_40e y41_41e y41_42e y41_43e y41_44e y41_45e y41_46e y41_47e
            go_wp2_with fail
            have hkeep42 : AllAt' ([(s5, 0, .bool n0), (s5, 1, .slice p0 A0.length q0), (s6, 0, .bool n1), (s6, 1, .slice p1 A1.length q1), (s11, 0, .bool ba), (s11, 1, .slice (some ⟨g0, 0, none⟩) (A0.length + r0) gc0), (s12, 0, .bool bb), (s12, 1, .slice (some ⟨g, 0, none⟩) (A1.length + r1) gc), (w1.heap.size, 0, .bool sb41), (w1.heap.size, 1, .slice sp41q sl41q sc41q), (w1.heap.size + 1, 0, .bool false), (w1.heap.size + 1, 1, .slice sp41r sl41r sc41r), (w3.heap.size, 0, .bool sb42), (w3.heap.size, 1, .slice sp42q sl42q sc42q), (w3.heap.size + 1, 0, .bool false), (w3.heap.size + 1, 1, .slice sp42r sl42r sc42r)] : List (Nat × Nat × Value)) v7 := AllAt'.cons b105_0.out (AllAt'.cons b105_1.out (AllAt'.cons b106_0.out (AllAt'.cons b106_1.out (AllAt'.cons b111_0.out (AllAt'.cons b111_1.out (AllAt'.cons b112_0.out (AllAt'.cons b112_1.out (AllAt'.cons b400_0.out (AllAt'.cons b400_1.out (AllAt'.cons b401_0.out (AllAt'.cons b401_1.out (AllAt'.cons b402_0.out (AllAt'.cons b402_1.out (AllAt'.cons b403_0.out (AllAt'.cons b403_1.out (AllAt'.nil _))))))))))))))))
            have hob42 : ObOk w.heap.size v7 (([(s5, 0, .bool n0), (s5, 1, .slice p0 A0.length q0), (s6, 0, .bool n1), (s6, 1, .slice p1 A1.length q1), (s11, 0, .bool ba), (s11, 1, .slice (some ⟨g0, 0, none⟩) (A0.length + r0) gc0), (s12, 0, .bool bb), (s12, 1, .slice (some ⟨g, 0, none⟩) (A1.length + r1) gc), (w1.heap.size, 0, .bool sb41), (w1.heap.size, 1, .slice sp41q sl41q sc41q), (w1.heap.size + 1, 0, .bool false), (w1.heap.size + 1, 1, .slice sp41r sl41r sc41r), (w3.heap.size, 0, .bool sb42), (w3.heap.size, 1, .slice sp42q sl42q sc42q), (w3.heap.size + 1, 0, .bool false), (w3.heap.size + 1, 1, .slice sp42r sl42r sc42r)] : List (Nat × Nat × Value)).map (·.1)) ([] : List (Nat × List (Nat × Value))) := trivial
            have hne42 : AllNe (([] : List (Nat × List (Nat × Value))).map (·.1)) := trivial
            (try simp only [List.append_eq, List.cons_append, List.nil_append])
            refine wp_region_gen ⟨[135, 136, 137, 138, 139, 140, 141, 142, 143, 144, 145, 146, 147, 148, 149, 150, 151, 152, 153, 154, 155, 156, 157, 158, 159, 160, 161, 162, 163, 164, 165, 166, 167, 168, 169, 170], fun i => false, fun i => ([none, none, none, none, none, none, none, none, none, none, none, none, none, none, none, none, none, none, none, none, none, none, none, none, none, none, none, none, none, none, none, none, none, none, none, none] : List (Option (BoxRef × Nat))).getD i none, fun i => ([Sg.val (.agg #[.bool n0, .slice p0 A0.length q0]), Sg.val (.agg #[.bool n1, .slice p1 A1.length q1]), Sg.int (z0 + z1), Sg.val (.agg #[.bool ba, .slice (some ⟨g0, 0, none⟩) (A0.length + r0) gc0]), Sg.val (.agg #[.bool bb, .slice (some ⟨g, 0, none⟩) (A1.length + r1) gc]), Sg.int (z0 + z1), Sg.val (.bool true), Sg.val (.bool false), Sg.val (.bool false), Sg.val (.agg #[.bool n0, .slice p0 A0.length q0]), Sg.val (.agg #[.bool n1, .slice p1 A1.length q1]), Sg.int (z0 - z1), Sg.val (.agg #[.bool ba, .slice (some ⟨g0, 0, none⟩) (A0.length + r0) gc0]), Sg.val (.agg #[.bool bb, .slice (some ⟨g, 0, none⟩) (A1.length + r1) gc]), Sg.int (z0 - z1), Sg.val (.bool true), Sg.val (.bool false), Sg.val (.bool false), Sg.val (.bool false), Sg.val (.agg #[.bool n0, .slice p0 A0.length q0]), Sg.val (.agg #[.bool n1, .slice p1 A1.length q1]), Sg.int (z0 * z1), Sg.val (.agg #[.bool ba, .slice (some ⟨g0, 0, none⟩) (A0.length + r0) gc0]), Sg.val (.agg #[.bool bb, .slice (some ⟨g, 0, none⟩) (A1.length + r1) gc]), Sg.int (z0 * z1), Sg.val (.bool true), Sg.val (.bool false), Sg.val (.bool false), Sg.val (.bool false), Sg.val (.agg #[.bool n0, .slice p0 A0.length q0]), Sg.int (-z0), Sg.val (.agg #[.bool ba, .slice (some ⟨g0, 0, none⟩) (A0.length + r0) gc0]), Sg.int (-z0), Sg.val (.bool true), Sg.val (.bool false), Sg.val (.bool false)] : List Sg).getD i Sg.any, [(s5, 0, .bool n0), (s5, 1, .slice p0 A0.length q0), (s6, 0, .bool n1), (s6, 1, .slice p1 A1.length q1), (s11, 0, .bool ba), (s11, 1, .slice (some ⟨g0, 0, none⟩) (A0.length + r0) gc0), (s12, 0, .bool bb), (s12, 1, .slice (some ⟨g, 0, none⟩) (A1.length + r1) gc), (w1.heap.size, 0, .bool sb41), (w1.heap.size, 1, .slice sp41q sl41q sc41q), (w1.heap.size + 1, 0, .bool false), (w1.heap.size + 1, 1, .slice sp41r sl41r sc41r), (w3.heap.size, 0, .bool sb42), (w3.heap.size, 1, .slice sp42q sl42q sc42q), (w3.heap.size + 1, 0, .bool false), (w3.heap.size + 1, 1, .slice sp42r sl42r sc42r)], []⟩ w.heap.size (by kernel_rfl) (by kernel_rfl) e7_.size ?hfr hkeep42 hob42 hne42 ?hs ?he
            case hfr =>
              intro i v wk hi hst hv
              exact absurd hi (by simp)
            case hs =>
              refine ⟨?_, ?_, ?_, ?_, ?_, ?_, ?_, ?_, ?_, ?_, ?_, ?_, ?_, ?_, ?_, ?_, ?_, ?_, ?_, ?_, ?_, ?_, ?_, ?_, ?_, ?_, ?_, ?_, ?_, ?_, ?_, ?_, ?_, ?_, ?_, ?_, trivial⟩
              · refine RStep.op rfl rfl (fun ac wk hp K hK => ?_)
                have t5_ : ac.tmps[5]?.getD undef = .pointer (some ⟨s5, 0, none⟩) := hp.slot 5 rfl rfl
                have c0_ := hp.cell 0 rfl
                have c1_ := hp.cell 1 rfl
                have HP := Lib.hid hp
                clear hp
                go_simp
                refine hK.out _ _ ?_ (Ext.refl _) (fun h => absurd h (by simp))
                exact rfl
              · refine RStep.op rfl rfl (fun ac wk hp K hK => ?_)
                have t6_ : ac.tmps[6]?.getD undef = .pointer (some ⟨s6, 0, none⟩) := hp.slot 6 rfl rfl
                have c0_ := hp.cell 2 rfl
                have c1_ := hp.cell 3 rfl
                have HP := Lib.hid hp
                clear hp
                go_simp
                refine hK.out _ _ ?_ (Ext.refl _) (fun h => absurd h (by simp))
                exact rfl
              · refine RStep.op rfl rfl (fun ac wk hp K hK => ?_)
                have u0e := hp.get 0 (by decide +kernel) rfl
                have t135_ : ac.tmps[135]?.getD undef = .agg #[.bool n0, .slice p0 A0.length q0] := slot_is' u0e
                have u1e := hp.get 1 (by decide +kernel) rfl
                have t136_ : ac.tmps[136]?.getD undef = .agg #[.bool n1, .slice p1 A1.length q1] := slot_is' u1e
                have HP := Lib.hid hp
                clear hp
                go_simp
                refine (add_is (F0.out.gr ((x1.gr.trans (y2.gr.trans (x3.gr.trans (y4.gr.trans (x5.gr.trans (x6.gr.trans gv7)))))).trans HP.out.gr)) (F1.out.gr ((x1.gr.trans (y2.gr.trans (x3.gr.trans (y4.gr.trans (x5.gr.trans (x6.gr.trans gv7)))))).trans HP.out.gr)) (by decide) (by decide)).mono ?_
                rintro e wk' ⟨sb53, sv53, sm53, rfl, e53, ix⟩
                obtain ⟨sp53, sl53, sc53, rfl⟩ := e53.slice
                refine hK.out _ _ ?_ ix (fun h => absurd h (by simp))
                exact ⟨_, _, _, _, _, rfl, e53⟩
              · refine RStep.op rfl rfl (fun ac wk hp K hK => ?_)
                have t11_ : ac.tmps[11]?.getD undef = .pointer (some ⟨s11, 0, none⟩) := hp.slot 11 rfl rfl
                have c0_ := hp.cell 4 rfl
                have c1_ := hp.cell 5 rfl
                have HP := Lib.hid hp
                clear hp
                go_simp
                refine hK.out _ _ ?_ (Ext.refl _) (fun h => absurd h (by simp))
                exact rfl
              · refine RStep.op rfl rfl (fun ac wk hp K hK => ?_)
                have t12_ : ac.tmps[12]?.getD undef = .pointer (some ⟨s12, 0, none⟩) := hp.slot 12 rfl rfl
                have c0_ := hp.cell 6 rfl
                have c1_ := hp.cell 7 rfl
                have HP := Lib.hid hp
                clear hp
                go_simp
                refine hK.out _ _ ?_ (Ext.refl _) (fun h => absurd h (by simp))
                exact rfl
              · refine RStep.op rfl rfl (fun ac wk hp K hK => ?_)
                have u3e := hp.get 3 (by decide +kernel) rfl
                have t138_ : ac.tmps[138]?.getD undef = .agg #[.bool ba, .slice (some ⟨g0, 0, none⟩) (A0.length + r0) gc0] := slot_is' u3e
                have u4e := hp.get 4 (by decide +kernel) rfl
                have t139_ : ac.tmps[139]?.getD undef = .agg #[.bool bb, .slice (some ⟨g, 0, none⟩) (A1.length + r1) gc] := slot_is' u4e
                have HP := Lib.hid hp
                clear hp
                go_simp
                refine (add_is (J0.out.gr ((x1.gr.trans (y2.gr.trans (x3.gr.trans (y4.gr.trans (x5.gr.trans (x6.gr.trans gv7)))))).trans HP.out.gr)) (J1.out.gr ((x1.gr.trans (y2.gr.trans (x3.gr.trans (y4.gr.trans (x5.gr.trans (x6.gr.trans gv7)))))).trans HP.out.gr)) (by decide) (by decide)).mono ?_
                rintro e wk' ⟨sb54, sv54, sm54, rfl, e54, ix⟩
                obtain ⟨sp54, sl54, sc54, rfl⟩ := e54.slice
                refine hK.out _ _ ?_ ix (fun h => absurd h (by simp))
                exact ⟨_, _, _, _, _, rfl, e54⟩
              · refine RStep.op rfl rfl (fun ac wk hp K hK => ?_)
                obtain ⟨u2b, u2p, u2n, u2c, u2m, u2e, u2i⟩ := hp.get 2 (by decide +kernel) rfl
                have t137_ : ac.tmps[137]?.getD undef = .agg #[.bool u2b, .slice u2p u2n u2c] := slot_is' u2e
                obtain ⟨u5b, u5p, u5n, u5c, u5m, u5e, u5i⟩ := hp.get 5 (by decide +kernel) rfl
                have t140_ : ac.tmps[140]?.getD undef = .agg #[.bool u5b, .slice u5p u5n u5c] := slot_is' u5e
                have HP := Lib.hid hp
                clear hp
                go_simp
                refine (same_is u2i u5i true (decide_eq_true (show ((z0 + z1) : Int) = (z0 + z1) from rfl))).mono ?_
                rintro e wk' ⟨rfl, ix⟩
                refine hK.out _ _ ?_ ix (fun h => absurd h (by simp))
                exact rfl
              · refine RStep.op rfl rfl (fun ac wk hp K hK => ?_)
                have u6e := hp.get 6 (by decide +kernel) rfl
                have t141_ : ac.tmps[141]?.getD undef = .bool true := slot_is' u6e
                have HP := Lib.hid hp
                clear hp
                go_simp
                refine hK.out _ _ ?_ (Ext.refl _) (fun h => absurd h (by simp))
                exact rfl
              · refine RStep.op rfl rfl (fun ac wk hp K hK => ?_)
                have u7e := hp.get 7 (by decide +kernel) rfl
                have t142_ : ac.tmps[142]?.getD undef = .bool false := slot_is' u7e
                have HP := Lib.hid hp
                clear hp
                go_simp
                refine hK.out _ _ ?_ (Ext.refl _) (fun h => absurd h (by simp))
                exact rfl
              · refine RStep.yes 8 false rfl rfl (by decide +kernel) rfl rfl (fun ac wk hp K hK => ?_)
                have t5_ : ac.tmps[5]?.getD undef = .pointer (some ⟨s5, 0, none⟩) := hp.slot 5 rfl rfl
                have c0_ := hp.cell 0 rfl
                have c1_ := hp.cell 1 rfl
                have HP := Lib.hid hp
                clear hp
                go_simp
                refine hK.out _ _ ?_ (Ext.refl _) (fun h => absurd h (by simp))
                exact rfl
              · refine RStep.yes 8 false rfl rfl (by decide +kernel) rfl rfl (fun ac wk hp K hK => ?_)
                have t6_ : ac.tmps[6]?.getD undef = .pointer (some ⟨s6, 0, none⟩) := hp.slot 6 rfl rfl
                have c0_ := hp.cell 2 rfl
                have c1_ := hp.cell 3 rfl
                have HP := Lib.hid hp
                clear hp
                go_simp
                refine hK.out _ _ ?_ (Ext.refl _) (fun h => absurd h (by simp))
                exact rfl
              · refine RStep.yes 8 false rfl rfl (by decide +kernel) rfl rfl (fun ac wk hp K hK => ?_)
                have u9e := hp.get 9 (by decide +kernel) rfl
                have t144_ : ac.tmps[144]?.getD undef = .agg #[.bool n0, .slice p0 A0.length q0] := slot_is' u9e
                have u10e := hp.get 10 (by decide +kernel) rfl
                have t145_ : ac.tmps[145]?.getD undef = .agg #[.bool n1, .slice p1 A1.length q1] := slot_is' u10e
                have HP := Lib.hid hp
                clear hp
                go_simp
                refine (sub_is (F0.out.gr ((x1.gr.trans (y2.gr.trans (x3.gr.trans (y4.gr.trans (x5.gr.trans (x6.gr.trans gv7)))))).trans HP.out.gr)) (F1.out.gr ((x1.gr.trans (y2.gr.trans (x3.gr.trans (y4.gr.trans (x5.gr.trans (x6.gr.trans gv7)))))).trans HP.out.gr)) (by decide) (by decide)).mono ?_
                rintro e wk' ⟨sb56, sv56, sm56, rfl, e56, ix⟩
                obtain ⟨sp56, sl56, sc56, rfl⟩ := e56.slice
                refine hK.out _ _ ?_ ix (fun h => absurd h (by simp))
                exact ⟨_, _, _, _, _, rfl, e56⟩
              · refine RStep.yes 8 false rfl rfl (by decide +kernel) rfl rfl (fun ac wk hp K hK => ?_)
                have t11_ : ac.tmps[11]?.getD undef = .pointer (some ⟨s11, 0, none⟩) := hp.slot 11 rfl rfl
                have c0_ := hp.cell 4 rfl
                have c1_ := hp.cell 5 rfl
                have HP := Lib.hid hp
                clear hp
                go_simp
                refine hK.out _ _ ?_ (Ext.refl _) (fun h => absurd h (by simp))
                exact rfl
              · refine RStep.yes 8 false rfl rfl (by decide +kernel) rfl rfl (fun ac wk hp K hK => ?_)
                have t12_ : ac.tmps[12]?.getD undef = .pointer (some ⟨s12, 0, none⟩) := hp.slot 12 rfl rfl
                have c0_ := hp.cell 6 rfl
                have c1_ := hp.cell 7 rfl
                have HP := Lib.hid hp
                clear hp
                go_simp
                refine hK.out _ _ ?_ (Ext.refl _) (fun h => absurd h (by simp))
                exact rfl
              · refine RStep.yes 8 false rfl rfl (by decide +kernel) rfl rfl (fun ac wk hp K hK => ?_)
                have u12e := hp.get 12 (by decide +kernel) rfl
                have t147_ : ac.tmps[147]?.getD undef = .agg #[.bool ba, .slice (some ⟨g0, 0, none⟩) (A0.length + r0) gc0] := slot_is' u12e
                have u13e := hp.get 13 (by decide +kernel) rfl
                have t148_ : ac.tmps[148]?.getD undef = .agg #[.bool bb, .slice (some ⟨g, 0, none⟩) (A1.length + r1) gc] := slot_is' u13e
                have HP := Lib.hid hp
                clear hp
                go_simp
                refine (sub_is (J0.out.gr ((x1.gr.trans (y2.gr.trans (x3.gr.trans (y4.gr.trans (x5.gr.trans (x6.gr.trans gv7)))))).trans HP.out.gr)) (J1.out.gr ((x1.gr.trans (y2.gr.trans (x3.gr.trans (y4.gr.trans (x5.gr.trans (x6.gr.trans gv7)))))).trans HP.out.gr)) (by decide) (by decide)).mono ?_
                rintro e wk' ⟨sb57, sv57, sm57, rfl, e57, ix⟩
                obtain ⟨sp57, sl57, sc57, rfl⟩ := e57.slice
                refine hK.out _ _ ?_ ix (fun h => absurd h (by simp))
                exact ⟨_, _, _, _, _, rfl, e57⟩
              · refine RStep.yes 8 false rfl rfl (by decide +kernel) rfl rfl (fun ac wk hp K hK => ?_)
                obtain ⟨u11b, u11p, u11n, u11c, u11m, u11e, u11i⟩ := hp.get 11 (by decide +kernel) rfl
                have t146_ : ac.tmps[146]?.getD undef = .agg #[.bool u11b, .slice u11p u11n u11c] := slot_is' u11e
                obtain ⟨u14b, u14p, u14n, u14c, u14m, u14e, u14i⟩ := hp.get 14 (by decide +kernel) rfl
                have t149_ : ac.tmps[149]?.getD undef = .agg #[.bool u14b, .slice u14p u14n u14c] := slot_is' u14e
                have HP := Lib.hid hp
                clear hp
                go_simp
                refine (same_is u11i u14i true (decide_eq_true (show ((z0 - z1) : Int) = (z0 - z1) from rfl))).mono ?_
                rintro e wk' ⟨rfl, ix⟩
                refine hK.out _ _ ?_ ix (fun h => absurd h (by simp))
                exact rfl
              · refine RStep.yes 8 false rfl rfl (by decide +kernel) rfl rfl (fun ac wk hp K hK => ?_)
                have u15e := hp.get 15 (by decide +kernel) rfl
                have t150_ : ac.tmps[150]?.getD undef = .bool true := slot_is' u15e
                have HP := Lib.hid hp
                clear hp
                go_simp
                refine hK.out _ _ ?_ (Ext.refl _) (fun h => absurd h (by simp))
                exact rfl
              · refine RStep.op rfl rfl (fun ac wk hp K hK => ?_)
                have u8e := hp.get 8 (by decide +kernel) rfl
                have t143_ : ac.tmps[143]?.getD undef = .bool false := slot_is' u8e
                have u16e := hp.get 16 (by decide +kernel) rfl
                have t151_ : ac.tmps[151]?.getD undef = .bool false := slot_is' u16e
                have HP := Lib.hid hp
                clear hp
                go_simp
                refine hK.out _ _ ?_ (Ext.refl _) (fun h => absurd h (by simp))
                exact rfl
              · refine RStep.op rfl rfl (fun ac wk hp K hK => ?_)
                have u17e := hp.get 17 (by decide +kernel) rfl
                have t152_ : ac.tmps[152]?.getD undef = .bool false := slot_is' u17e
                have HP := Lib.hid hp
                clear hp
                go_simp
                refine hK.out _ _ ?_ (Ext.refl _) (fun h => absurd h (by simp))
                exact rfl
              · refine RStep.yes 18 false rfl rfl (by decide +kernel) rfl rfl (fun ac wk hp K hK => ?_)
                have t5_ : ac.tmps[5]?.getD undef = .pointer (some ⟨s5, 0, none⟩) := hp.slot 5 rfl rfl
                have c0_ := hp.cell 0 rfl
                have c1_ := hp.cell 1 rfl
                have HP := Lib.hid hp
                clear hp
                go_simp
                refine hK.out _ _ ?_ (Ext.refl _) (fun h => absurd h (by simp))
                exact rfl
              · refine RStep.yes 18 false rfl rfl (by decide +kernel) rfl rfl (fun ac wk hp K hK => ?_)
                have t6_ : ac.tmps[6]?.getD undef = .pointer (some ⟨s6, 0, none⟩) := hp.slot 6 rfl rfl
                have c0_ := hp.cell 2 rfl
                have c1_ := hp.cell 3 rfl
                have HP := Lib.hid hp
                clear hp
                go_simp
                refine hK.out _ _ ?_ (Ext.refl _) (fun h => absurd h (by simp))
                exact rfl
              · refine RStep.yes 18 false rfl rfl (by decide +kernel) rfl rfl (fun ac wk hp K hK => ?_)
                have u19e := hp.get 19 (by decide +kernel) rfl
                have t154_ : ac.tmps[154]?.getD undef = .agg #[.bool n0, .slice p0 A0.length q0] := slot_is' u19e
                have u20e := hp.get 20 (by decide +kernel) rfl
                have t155_ : ac.tmps[155]?.getD undef = .agg #[.bool n1, .slice p1 A1.length q1] := slot_is' u20e
                have HP := Lib.hid hp
                clear hp
                go_simp
                refine (mul_is (F0.out.gr ((x1.gr.trans (y2.gr.trans (x3.gr.trans (y4.gr.trans (x5.gr.trans (x6.gr.trans gv7)))))).trans HP.out.gr)) (F1.out.gr ((x1.gr.trans (y2.gr.trans (x3.gr.trans (y4.gr.trans (x5.gr.trans (x6.gr.trans gv7)))))).trans HP.out.gr)) (by decide) ).mono ?_
                rintro e wk' ⟨sb59, sv59, sm59, rfl, e59, ix⟩
                obtain ⟨sp59, sl59, sc59, rfl⟩ := e59.slice
                refine hK.out _ _ ?_ ix (fun h => absurd h (by simp))
                exact ⟨_, _, _, _, _, rfl, e59⟩
              · refine RStep.yes 18 false rfl rfl (by decide +kernel) rfl rfl (fun ac wk hp K hK => ?_)
                have t11_ : ac.tmps[11]?.getD undef = .pointer (some ⟨s11, 0, none⟩) := hp.slot 11 rfl rfl
                have c0_ := hp.cell 4 rfl
                have c1_ := hp.cell 5 rfl
                have HP := Lib.hid hp
                clear hp
                go_simp
                refine hK.out _ _ ?_ (Ext.refl _) (fun h => absurd h (by simp))
                exact rfl
              · refine RStep.yes 18 false rfl rfl (by decide +kernel) rfl rfl (fun ac wk hp K hK => ?_)
                have t12_ : ac.tmps[12]?.getD undef = .pointer (some ⟨s12, 0, none⟩) := hp.slot 12 rfl rfl
                have c0_ := hp.cell 6 rfl
                have c1_ := hp.cell 7 rfl
                have HP := Lib.hid hp
                clear hp
                go_simp
                refine hK.out _ _ ?_ (Ext.refl _) (fun h => absurd h (by simp))
                exact rfl
              · refine RStep.yes 18 false rfl rfl (by decide +kernel) rfl rfl (fun ac wk hp K hK => ?_)
                have u22e := hp.get 22 (by decide +kernel) rfl
                have t157_ : ac.tmps[157]?.getD undef = .agg #[.bool ba, .slice (some ⟨g0, 0, none⟩) (A0.length + r0) gc0] := slot_is' u22e
                have u23e := hp.get 23 (by decide +kernel) rfl
                have t158_ : ac.tmps[158]?.getD undef = .agg #[.bool bb, .slice (some ⟨g, 0, none⟩) (A1.length + r1) gc] := slot_is' u23e
                have HP := Lib.hid hp
                clear hp
                go_simp
                refine (mul_is (J0.out.gr ((x1.gr.trans (y2.gr.trans (x3.gr.trans (y4.gr.trans (x5.gr.trans (x6.gr.trans gv7)))))).trans HP.out.gr)) (J1.out.gr ((x1.gr.trans (y2.gr.trans (x3.gr.trans (y4.gr.trans (x5.gr.trans (x6.gr.trans gv7)))))).trans HP.out.gr)) (by decide) ).mono ?_
                rintro e wk' ⟨sb60, sv60, sm60, rfl, e60, ix⟩
                obtain ⟨sp60, sl60, sc60, rfl⟩ := e60.slice
                refine hK.out _ _ ?_ ix (fun h => absurd h (by simp))
                exact ⟨_, _, _, _, _, rfl, e60⟩
              · refine RStep.yes 18 false rfl rfl (by decide +kernel) rfl rfl (fun ac wk hp K hK => ?_)
                obtain ⟨u21b, u21p, u21n, u21c, u21m, u21e, u21i⟩ := hp.get 21 (by decide +kernel) rfl
                have t156_ : ac.tmps[156]?.getD undef = .agg #[.bool u21b, .slice u21p u21n u21c] := slot_is' u21e
                obtain ⟨u24b, u24p, u24n, u24c, u24m, u24e, u24i⟩ := hp.get 24 (by decide +kernel) rfl
                have t159_ : ac.tmps[159]?.getD undef = .agg #[.bool u24b, .slice u24p u24n u24c] := slot_is' u24e
                have HP := Lib.hid hp
                clear hp
                go_simp
                refine (same_is u21i u24i true (decide_eq_true (show ((z0 * z1) : Int) = (z0 * z1) from rfl))).mono ?_
                rintro e wk' ⟨rfl, ix⟩
                refine hK.out _ _ ?_ ix (fun h => absurd h (by simp))
                exact rfl
              · refine RStep.yes 18 false rfl rfl (by decide +kernel) rfl rfl (fun ac wk hp K hK => ?_)
                have u25e := hp.get 25 (by decide +kernel) rfl
                have t160_ : ac.tmps[160]?.getD undef = .bool true := slot_is' u25e
                have HP := Lib.hid hp
                clear hp
                go_simp
                refine hK.out _ _ ?_ (Ext.refl _) (fun h => absurd h (by simp))
                exact rfl
              · refine RStep.op rfl rfl (fun ac wk hp K hK => ?_)
                have u18e := hp.get 18 (by decide +kernel) rfl
                have t153_ : ac.tmps[153]?.getD undef = .bool false := slot_is' u18e
                have u26e := hp.get 26 (by decide +kernel) rfl
                have t161_ : ac.tmps[161]?.getD undef = .bool false := slot_is' u26e
                have HP := Lib.hid hp
                clear hp
                go_simp
                refine hK.out _ _ ?_ (Ext.refl _) (fun h => absurd h (by simp))
                exact rfl
              · refine RStep.op rfl rfl (fun ac wk hp K hK => ?_)
                have u27e := hp.get 27 (by decide +kernel) rfl
                have t162_ : ac.tmps[162]?.getD undef = .bool false := slot_is' u27e
                have HP := Lib.hid hp
                clear hp
                go_simp
                refine hK.out _ _ ?_ (Ext.refl _) (fun h => absurd h (by simp))
                exact rfl
              · refine RStep.yes 28 false rfl rfl (by decide +kernel) rfl rfl (fun ac wk hp K hK => ?_)
                have t5_ : ac.tmps[5]?.getD undef = .pointer (some ⟨s5, 0, none⟩) := hp.slot 5 rfl rfl
                have c0_ := hp.cell 0 rfl
                have c1_ := hp.cell 1 rfl
                have HP := Lib.hid hp
                clear hp
                go_simp
                refine hK.out _ _ ?_ (Ext.refl _) (fun h => absurd h (by simp))
                exact rfl
              · refine RStep.yes 28 false rfl rfl (by decide +kernel) rfl rfl (fun ac wk hp K hK => ?_)
                have u29e := hp.get 29 (by decide +kernel) rfl
                have t164_ : ac.tmps[164]?.getD undef = .agg #[.bool n0, .slice p0 A0.length q0] := slot_is' u29e
                have HP := Lib.hid hp
                clear hp
                go_simp
                refine (neg_is (F0.out.gr ((x1.gr.trans (y2.gr.trans (x3.gr.trans (y4.gr.trans (x5.gr.trans (x6.gr.trans gv7)))))).trans HP.out.gr)) (by decide)).mono ?_
                rintro e wk' ⟨sb62, sv62, sm62, rfl, e62, ix⟩
                obtain ⟨sp62, sl62, sc62, rfl⟩ := e62.slice
                refine hK.out _ _ ?_ ix (fun h => absurd h (by simp))
                exact ⟨_, _, _, _, _, rfl, e62⟩
              · refine RStep.yes 28 false rfl rfl (by decide +kernel) rfl rfl (fun ac wk hp K hK => ?_)
                have t11_ : ac.tmps[11]?.getD undef = .pointer (some ⟨s11, 0, none⟩) := hp.slot 11 rfl rfl
                have c0_ := hp.cell 4 rfl
                have c1_ := hp.cell 5 rfl
                have HP := Lib.hid hp
                clear hp
                go_simp
                refine hK.out _ _ ?_ (Ext.refl _) (fun h => absurd h (by simp))
                exact rfl
              · refine RStep.yes 28 false rfl rfl (by decide +kernel) rfl rfl (fun ac wk hp K hK => ?_)
                have u31e := hp.get 31 (by decide +kernel) rfl
                have t166_ : ac.tmps[166]?.getD undef = .agg #[.bool ba, .slice (some ⟨g0, 0, none⟩) (A0.length + r0) gc0] := slot_is' u31e
                have HP := Lib.hid hp
                clear hp
                go_simp
                refine (neg_is (J0.out.gr ((x1.gr.trans (y2.gr.trans (x3.gr.trans (y4.gr.trans (x5.gr.trans (x6.gr.trans gv7)))))).trans HP.out.gr)) (by decide)).mono ?_
                rintro e wk' ⟨sb63, sv63, sm63, rfl, e63, ix⟩
                obtain ⟨sp63, sl63, sc63, rfl⟩ := e63.slice
                refine hK.out _ _ ?_ ix (fun h => absurd h (by simp))
                exact ⟨_, _, _, _, _, rfl, e63⟩
              · refine RStep.yes 28 false rfl rfl (by decide +kernel) rfl rfl (fun ac wk hp K hK => ?_)
                obtain ⟨u30b, u30p, u30n, u30c, u30m, u30e, u30i⟩ := hp.get 30 (by decide +kernel) rfl
                have t165_ : ac.tmps[165]?.getD undef = .agg #[.bool u30b, .slice u30p u30n u30c] := slot_is' u30e
                obtain ⟨u32b, u32p, u32n, u32c, u32m, u32e, u32i⟩ := hp.get 32 (by decide +kernel) rfl
                have t167_ : ac.tmps[167]?.getD undef = .agg #[.bool u32b, .slice u32p u32n u32c] := slot_is' u32e
                have HP := Lib.hid hp
                clear hp
                go_simp
                refine (same_is u30i u32i true (decide_eq_true (show ((-z0) : Int) = (-z0) from rfl))).mono ?_
                rintro e wk' ⟨rfl, ix⟩
                refine hK.out _ _ ?_ ix (fun h => absurd h (by simp))
                exact rfl
              · refine RStep.yes 28 false rfl rfl (by decide +kernel) rfl rfl (fun ac wk hp K hK => ?_)
                have u33e := hp.get 33 (by decide +kernel) rfl
                have t168_ : ac.tmps[168]?.getD undef = .bool true := slot_is' u33e
                have HP := Lib.hid hp
                clear hp
                go_simp
                refine hK.out _ _ ?_ (Ext.refl _) (fun h => absurd h (by simp))
                exact rfl
              · refine RStep.op rfl rfl (fun ac wk hp K hK => ?_)
                have u28e := hp.get 28 (by decide +kernel) rfl
                have t163_ : ac.tmps[163]?.getD undef = .bool false := slot_is' u28e
                have u34e := hp.get 34 (by decide +kernel) rfl
                have t169_ : ac.tmps[169]?.getD undef = .bool false := slot_is' u34e
                have HP := Lib.hid hp
                clear hp
                go_simp
                refine hK.out _ _ ?_ (Ext.refl _) (fun h => absurd h (by simp))
                exact rfl
            case he =>
              intro ac v8 hM
              have y42_0e := hM.post 0 rfl rfl
              have y42_1e := hM.post 1 rfl rfl
              obtain ⟨y42_2b, y42_2p, y42_2n, y42_2c, y42_2m, y42_2e, y42_2i⟩ := hM.post 2 rfl rfl
              have y42_3e := hM.post 3 rfl rfl
              have y42_4e := hM.post 4 rfl rfl
              obtain ⟨y42_5b, y42_5p, y42_5n, y42_5c, y42_5m, y42_5e, y42_5i⟩ := hM.post 5 rfl rfl
              have y42_6e := hM.post 6 rfl rfl
              have y42_7e := hM.post 7 rfl rfl
              have y42_8e := hM.post 8 rfl rfl
              have y42_9e := hM.post 9 rfl rfl
              have y42_10e := hM.post 10 rfl rfl
              obtain ⟨y42_11b, y42_11p, y42_11n, y42_11c, y42_11m, y42_11e, y42_11i⟩ := hM.post 11 rfl rfl
              have y42_12e := hM.post 12 rfl rfl
              have y42_13e := hM.post 13 rfl rfl
              obtain ⟨y42_14b, y42_14p, y42_14n, y42_14c, y42_14m, y42_14e, y42_14i⟩ := hM.post 14 rfl rfl
              have y42_15e := hM.post 15 rfl rfl
              have y42_16e := hM.post 16 rfl rfl
              have y42_17e := hM.post 17 rfl rfl
              have y42_18e := hM.post 18 rfl rfl
              have y42_19e := hM.post 19 rfl rfl
              have y42_20e := hM.post 20 rfl rfl
              obtain ⟨y42_21b, y42_21p, y42_21n, y42_21c, y42_21m, y42_21e, y42_21i⟩ := hM.post 21 rfl rfl
              have y42_22e := hM.post 22 rfl rfl
              have y42_23e := hM.post 23 rfl rfl
              obtain ⟨y42_24b, y42_24p, y42_24n, y42_24c, y42_24m, y42_24e, y42_24i⟩ := hM.post 24 rfl rfl
              have y42_25e := hM.post 25 rfl rfl
              have y42_26e := hM.post 26 rfl rfl
              have y42_27e := hM.post 27 rfl rfl
              have y42_28e := hM.post 28 rfl rfl
              have y42_29e := hM.post 29 rfl rfl
              obtain ⟨y42_30b, y42_30p, y42_30n, y42_30c, y42_30m, y42_30e, y42_30i⟩ := hM.post 30 rfl rfl
              have y42_31e := hM.post 31 rfl rfl
              obtain ⟨y42_32b, y42_32p, y42_32n, y42_32c, y42_32m, y42_32e, y42_32i⟩ := hM.post 32 rfl rfl
              have y42_33e := hM.post 33 rfl rfl
              have y42_34e := hM.post 34 rfl rfl
              have y42_35e := hM.post 35 rfl rfl
              have b105_0 : Hid (At (s5) 0 (.bool n0) v8) := Lib.hid (hM.keep.at 0 rfl)
              have b105_1 : Hid (At (s5) 1 (.slice p0 A0.length q0) v8) := Lib.hid (hM.keep.at 1 rfl)
              have b106_0 : Hid (At (s6) 0 (.bool n1) v8) := Lib.hid (hM.keep.at 2 rfl)
              have b106_1 : Hid (At (s6) 1 (.slice p1 A1.length q1) v8) := Lib.hid (hM.keep.at 3 rfl)
              have b111_0 : Hid (At (s11) 0 (.bool ba) v8) := Lib.hid (hM.keep.at 4 rfl)
              have b111_1 : Hid (At (s11) 1 (.slice (some ⟨g0, 0, none⟩) (A0.length + r0) gc0) v8) := Lib.hid (hM.keep.at 5 rfl)
              have b112_0 : Hid (At (s12) 0 (.bool bb) v8) := Lib.hid (hM.keep.at 6 rfl)
              have b112_1 : Hid (At (s12) 1 (.slice (some ⟨g, 0, none⟩) (A1.length + r1) gc) v8) := Lib.hid (hM.keep.at 7 rfl)
              have b400_0 : Hid (At (w1.heap.size) 0 (.bool sb41) v8) := Lib.hid (hM.keep.at 8 rfl)
              have b400_1 : Hid (At (w1.heap.size) 1 (.slice sp41q sl41q sc41q) v8) := Lib.hid (hM.keep.at 9 rfl)
              have b401_0 : Hid (At (w1.heap.size + 1) 0 (.bool false) v8) := Lib.hid (hM.keep.at 10 rfl)
              have b401_1 : Hid (At (w1.heap.size + 1) 1 (.slice sp41r sl41r sc41r) v8) := Lib.hid (hM.keep.at 11 rfl)
              have b402_0 : Hid (At (w3.heap.size) 0 (.bool sb42) v8) := Lib.hid (hM.keep.at 12 rfl)
              have b402_1 : Hid (At (w3.heap.size) 1 (.slice sp42q sl42q sc42q) v8) := Lib.hid (hM.keep.at 13 rfl)
              have b403_0 : Hid (At (w3.heap.size + 1) 0 (.bool false) v8) := Lib.hid (hM.keep.at 14 rfl)
              have b403_1 : Hid (At (w3.heap.size + 1) 1 (.slice sp42r sl42r sc42r) v8) := Lib.hid (hM.keep.at 15 rfl)
              have gv8 : Gr v7 v8 := hM.gr
              have e8_ : Ext w v8 := Ext.below e7_ hM.blw
              have z0_ : sl ac 135 = .agg #[.bool n0, .slice p0 A0.length q0] := y42_0e
              have z1_ : sl ac 136 = .agg #[.bool n1, .slice p1 A1.length q1] := y42_1e
              have z2_ : sl ac 137 = .agg #[.bool y42_2b, .slice y42_2p y42_2n y42_2c] := y42_2e
              have z3_ : sl ac 138 = .agg #[.bool ba, .slice (some ⟨g0, 0, none⟩) (A0.length + r0) gc0] := y42_3e
              have z4_ : sl ac 139 = .agg #[.bool bb, .slice (some ⟨g, 0, none⟩) (A1.length + r1) gc] := y42_4e
              have z5_ : sl ac 140 = .agg #[.bool y42_5b, .slice y42_5p y42_5n y42_5c] := y42_5e
              have z6_ : sl ac 141 = .bool true := y42_6e
              have z7_ : sl ac 142 = .bool false := y42_7e
              have z8_ : sl ac 143 = .bool false := y42_8e
              have z9_ : sl ac 144 = .agg #[.bool n0, .slice p0 A0.length q0] := y42_9e
              have z10_ : sl ac 145 = .agg #[.bool n1, .slice p1 A1.length q1] := y42_10e
              have z11_ : sl ac 146 = .agg #[.bool y42_11b, .slice y42_11p y42_11n y42_11c] := y42_11e
              have z12_ : sl ac 147 = .agg #[.bool ba, .slice (some ⟨g0, 0, none⟩) (A0.length + r0) gc0] := y42_12e
              have z13_ : sl ac 148 = .agg #[.bool bb, .slice (some ⟨g, 0, none⟩) (A1.length + r1) gc] := y42_13e
              have z14_ : sl ac 149 = .agg #[.bool y42_14b, .slice y42_14p y42_14n y42_14c] := y42_14e
              have z15_ : sl ac 150 = .bool true := y42_15e
              have z16_ : sl ac 151 = .bool false := y42_16e
              have z17_ : sl ac 152 = .bool false := y42_17e
              have z18_ : sl ac 153 = .bool false := y42_18e
              have z19_ : sl ac 154 = .agg #[.bool n0, .slice p0 A0.length q0] := y42_19e
              have z20_ : sl ac 155 = .agg #[.bool n1, .slice p1 A1.length q1] := y42_20e
              have z21_ : sl ac 156 = .agg #[.bool y42_21b, .slice y42_21p y42_21n y42_21c] := y42_21e
              have z22_ : sl ac 157 = .agg #[.bool ba, .slice (some ⟨g0, 0, none⟩) (A0.length + r0) gc0] := y42_22e
              have z23_ : sl ac 158 = .agg #[.bool bb, .slice (some ⟨g, 0, none⟩) (A1.length + r1) gc] := y42_23e
              have z24_ : sl ac 159 = .agg #[.bool y42_24b, .slice y42_24p y42_24n y42_24c] := y42_24e
              have z25_ : sl ac 160 = .bool true := y42_25e
              have z26_ : sl ac 161 = .bool false := y42_26e
              have z27_ : sl ac 162 = .bool false := y42_27e
              have z28_ : sl ac 163 = .bool false := y42_28e
              have z29_ : sl ac 164 = .agg #[.bool n0, .slice p0 A0.length q0] := y42_29e
              have z30_ : sl ac 165 = .agg #[.bool y42_30b, .slice y42_30p y42_30n y42_30c] := y42_30e
              have z31_ : sl ac 166 = .agg #[.bool ba, .slice (some ⟨g0, 0, none⟩) (A0.length + r0) gc0] := y42_31e
              have z32_ : sl ac 167 = .agg #[.bool y42_32b, .slice y42_32p y42_32n y42_32c] := y42_32e
              have z33_ : sl ac 168 = .bool true := y42_33e
              have z34_ : sl ac 169 = .bool false := y42_34e
              have z35_ : sl ac 170 = .bool false := y42_35e
              rw [hM.ag.lay]
              simp only [lay, List.foldl_cons, List.foldl_nil, List.setIfInBounds_toArray, List.set_cons_zero, List.set_cons_succ, z0_, z1_, z2_, z3_, z4_, z5_, z6_, z7_, z8_, z9_, z10_, z11_, z12_, z13_, z14_, z15_, z16_, z17_, z18_, z19_, z20_, z21_, z22_, z23_, z24_, z25_, z26_, z27_, z28_, z29_, z30_, z31_, z32_, z33_, z34_, z35_]
              clear hM hkeep42 hob42 hne42 z0_ z1_ z2_ z3_ z4_ z5_ z6_ z7_ z8_ z9_ z10_ z11_ z12_ z13_ z14_ z15_ z16_ z17_ z18_ z19_ z20_ z21_ z22_ z23_ z24_ z25_ z26_ z27_ z28_ z29_ z30_ z31_ z32_ z33_ z34_ z35_ y42_0e y42_1e y42_2e y42_3e y42_4e y42_5e y42_6e y42_7e y42_8e y42_9e y42_10e y42_11e y42_12e y42_13e y42_14e y42_15e y42_16e y42_17e y42_18e y42_19e y42_20e y42_21e y42_22e y42_23e y42_24e y42_25e y42_26e y42_27e y42_28e y42_29e y42_30e y42_31e y42_32e y42_33e y42_34e y42_35e
              have g400_0 := b400_0.out.1
              have g400_1 := b400_1.out.1
              have f400 : w1.heap.size < v8.heap.size := b400_0.out.2
              go_wp2_with fail
              refine (may_is (e41q.gr (y2.gr.trans (x3.gr.trans (y4.gr.trans (x5.gr.trans (x6.gr.trans (gv7.trans gv8)))))))).mono ?_
              rintro e w9 ⟨rfl, x9⟩
              have e9_ : Ext w w9 := Ext.trans e8_ x9
              clear g400_0 g400_1 f400
              have g401_0 := (b401_0.out.ext x9).1
              have g401_1 := (b401_1.out.ext x9).1
              have f401 : w1.heap.size + 1 < w9.heap.size := (b401_0.out.ext x9).2
              go_wp2_with fail
              refine (may_is (e41r.gr (y2.gr.trans (x3.gr.trans (y4.gr.trans (x5.gr.trans (x6.gr.trans (gv7.trans (gv8.trans x9.gr))))))))).mono ?_
              rintro e w10 ⟨rfl, x10⟩
              have e10_ : Ext w w10 := Ext.trans e9_ x10
              clear g401_0 g401_1 f401
              have g105_0 := (b105_0.out.ext (x9.trans x10)).1
              have g105_1 := (b105_1.out.ext (x9.trans x10)).1
              have g106_0 := (b106_0.out.ext (x9.trans x10)).1
              have g106_1 := (b106_1.out.ext (x9.trans x10)).1
              have f105 : s5 < w10.heap.size := (b105_0.out.ext (x9.trans x10)).2
              have f106 : s6 < w10.heap.size := (b106_0.out.ext (x9.trans x10)).2
              go_wp2_with fail
              refine (add_is (F0.out.gr (x1.gr.trans (y2.gr.trans (x3.gr.trans (y4.gr.trans (x5.gr.trans (x6.gr.trans (gv7.trans (gv8.trans (x9.gr.trans x10.gr)))))))))) (F1.out.gr (x1.gr.trans (y2.gr.trans (x3.gr.trans (y4.gr.trans (x5.gr.trans (x6.gr.trans (gv7.trans (gv8.trans (x9.gr.trans x10.gr)))))))))) (by decide) (by decide)).mono ?_
              rintro e w11 ⟨sb67, sv67, sm67, rfl, e67, x11⟩
              have e11_ : Ext w w11 := Ext.trans e10_ x11
              obtain ⟨sp67, sl67, sc67, rfl⟩ := e67.slice
              clear g105_0 g105_1 g106_0 g106_1 f105 f106
              go_wp2_with fail
              refine (may_is e67).mono ?_
              rintro e w12 ⟨rfl, x12⟩
              have e12_ : Ext w w12 := Ext.trans e11_ x12
              have g105_0 := (b105_0.out.ext (x9.trans (x10.trans (x11.trans x12)))).1
              have g105_1 := (b105_1.out.ext (x9.trans (x10.trans (x11.trans x12)))).1
              have g106_0 := (b106_0.out.ext (x9.trans (x10.trans (x11.trans x12)))).1
              have g106_1 := (b106_1.out.ext (x9.trans (x10.trans (x11.trans x12)))).1
              have f105 : s5 < w12.heap.size := (b105_0.out.ext (x9.trans (x10.trans (x11.trans x12)))).2
              have f106 : s6 < w12.heap.size := (b106_0.out.ext (x9.trans (x10.trans (x11.trans x12)))).2
              go_wp2_with fail
              refine (sub_is (F0.out.gr (x1.gr.trans (y2.gr.trans (x3.gr.trans (y4.gr.trans (x5.gr.trans (x6.gr.trans (gv7.trans (gv8.trans (x9.gr.trans (x10.gr.trans (x11.gr.trans x12.gr)))))))))))) (F1.out.gr (x1.gr.trans (y2.gr.trans (x3.gr.trans (y4.gr.trans (x5.gr.trans (x6.gr.trans (gv7.trans (gv8.trans (x9.gr.trans (x10.gr.trans (x11.gr.trans x12.gr)))))))))))) (by decide) (by decide)).mono ?_
              rintro e w13 ⟨sb69, sv69, sm69, rfl, e69, x13⟩
              have e13_ : Ext w w13 := Ext.trans e12_ x13
              obtain ⟨sp69, sl69, sc69, rfl⟩ := e69.slice
              clear g105_0 g105_1 g106_0 g106_1 f105 f106
              go_wp2_with fail
              refine (may_is e69).mono ?_
              rintro e w14 ⟨rfl, x14⟩
              have e14_ : Ext w w14 := Ext.trans e13_ x14
              have g105_0 := (b105_0.out.ext (x9.trans (x10.trans (x11.trans (x12.trans (x13.trans x14)))))).1
              have g105_1 := (b105_1.out.ext (x9.trans (x10.trans (x11.trans (x12.trans (x13.trans x14)))))).1
              have g106_0 := (b106_0.out.ext (x9.trans (x10.trans (x11.trans (x12.trans (x13.trans x14)))))).1
              have g106_1 := (b106_1.out.ext (x9.trans (x10.trans (x11.trans (x12.trans (x13.trans x14)))))).1
              have f105 : s5 < w14.heap.size := (b105_0.out.ext (x9.trans (x10.trans (x11.trans (x12.trans (x13.trans x14)))))).2
              have f106 : s6 < w14.heap.size := (b106_0.out.ext (x9.trans (x10.trans (x11.trans (x12.trans (x13.trans x14)))))).2
              go_wp2_with fail
              refine (mul_is (F0.out.gr (x1.gr.trans (y2.gr.trans (x3.gr.trans (y4.gr.trans (x5.gr.trans (x6.gr.trans (gv7.trans (gv8.trans (x9.gr.trans (x10.gr.trans (x11.gr.trans (x12.gr.trans (x13.gr.trans x14.gr)))))))))))))) (F1.out.gr (x1.gr.trans (y2.gr.trans (x3.gr.trans (y4.gr.trans (x5.gr.trans (x6.gr.trans (gv7.trans (gv8.trans (x9.gr.trans (x10.gr.trans (x11.gr.trans (x12.gr.trans (x13.gr.trans x14.gr)))))))))))))) (by decide) ).mono ?_
              rintro e w15 ⟨sb71, sv71, sm71, rfl, e71, x15⟩
              have e15_ : Ext w w15 := Ext.trans e14_ x15
              obtain ⟨sp71, sl71, sc71, rfl⟩ := e71.slice
              clear g105_0 g105_1 g106_0 g106_1 f105 f106
              go_wp2_with fail
              refine (may_is e71).mono ?_
              rintro e w16 ⟨rfl, x16⟩
              have e16_ : Ext w w16 := Ext.trans e15_ x16
              have g105_0 := (b105_0.out.ext (x9.trans (x10.trans (x11.trans (x12.trans (x13.trans (x14.trans (x15.trans x16)))))))).1
              have g105_1 := (b105_1.out.ext (x9.trans (x10.trans (x11.trans (x12.trans (x13.trans (x14.trans (x15.trans x16)))))))).1
              have f105 : s5 < w16.heap.size := (b105_0.out.ext (x9.trans (x10.trans (x11.trans (x12.trans (x13.trans (x14.trans (x15.trans x16)))))))).2
              go_wp2_with fail
              refine (neg_is (F0.out.gr (x1.gr.trans (y2.gr.trans (x3.gr.trans (y4.gr.trans (x5.gr.trans (x6.gr.trans (gv7.trans (gv8.trans (x9.gr.trans (x10.gr.trans (x11.gr.trans (x12.gr.trans (x13.gr.trans (x14.gr.trans (x15.gr.trans x16.gr)))))))))))))))) (by decide)).mono ?_
              rintro e w17 ⟨sb73, sv73, sm73, rfl, e73, x17⟩
              have e17_ : Ext w w17 := Ext.trans e16_ x17
              obtain ⟨sp73, sl73, sc73, rfl⟩ := e73.slice
              clear g105_0 g105_1 f105
              go_wp2_with fail
              refine (may_is e73).mono ?_
              rintro e w18 ⟨rfl, x18⟩
              have e18_ : Ext w w18 := Ext.trans e17_ x18
              have g105_1 := (b105_1.out.ext (x9.trans (x10.trans (x11.trans (x12.trans (x13.trans (x14.trans (x15.trans (x16.trans (x17.trans x18)))))))))).1
              have f105 : s5 < w18.heap.size := (b105_0.out.ext (x9.trans (x10.trans (x11.trans (x12.trans (x13.trans (x14.trans (x15.trans (x16.trans (x17.trans x18)))))))))).2
              go_wp2_with fail
              refine (make_is (⟨A0, (H0.out.gr (x1.gr.trans (y2.gr.trans (x3.gr.trans (y4.gr.trans (x5.gr.trans (x6.gr.trans (gv7.trans (gv8.trans (x9.gr.trans (x10.gr.trans (x11.gr.trans (x12.gr.trans (x13.gr.trans (x14.gr.trans (x15.gr.trans (x16.gr.trans (x17.gr.trans x18.gr)))))))))))))))))), rfl, HLA0.out⟩ : InI _ neg _ 10 (iv neg A0)) (by decide)).mono ?_
              rintro e w19 ⟨sb75, sv75, sm75, rfl, e75, x19⟩
              have e19_ : Ext w w19 := Ext.trans e18_ x19
              obtain ⟨sp75, sl75, sc75, rfl⟩ := e75.slice
              clear g105_1 f105
              go_wp2_with fail
              refine (may_is e75).mono ?_
              rintro e w20 ⟨rfl, x20⟩
              have e20_ : Ext w w20 := Ext.trans e19_ x20
              go_wp2_with fail
              go_ret
              exact ⟨rfl, e20_⟩

end Go.Proofs.YtefeglkbikcjeaaDoor
