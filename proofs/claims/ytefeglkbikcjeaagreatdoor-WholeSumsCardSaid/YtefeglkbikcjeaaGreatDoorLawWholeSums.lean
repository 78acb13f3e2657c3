/- WholeSums answers true at all whole numbers. -/
import Derived.Test.YtefeglkbikcjeaaGreatDoorLawSum
import Derived.Test.YtefeglkbikcjeaaGreatDoorPartC
namespace Go.Proofs.YtefeglkbikcjeaaGreatDoor
open Go Go.RowKit

set_option maxHeartbeats 4000000 in
set_option maxRecDepth 100000 in
theorem wholeSums_calls {w : World} {v0 v1 : Value} {A0 A1 : List Nat} (h0 : Limbs w v0 A0) (h1 : Limbs w v1 A1) (n0 n1 : Bool) :
    Calls Tryz.prog 3 #[.agg #[.bool n0, v0], .agg #[.bool n1, v1]] w (Yes w) := by
  obtain ⟨p0, q0, rfl, -, -, -⟩ := h0.open
  obtain ⟨p1, q1, rfl, -, -, -⟩ := h1.open
  obtain ⟨lb, hlb⟩ : ∃ b, (decide (10 < A0.length) || decide (10 < A1.length)) = b := ⟨_, rfl⟩
  cases lb with
  | true =>
    have HLB := Lib.hid hlb
    clear hlb
    go_enter Tryz.func3, Tryz.ntmps3
    go_wp2_with fail
    refine (ilong2_calls (h0.ext (((Ext.refl _).alloc _).alloc _)) (h1.ext (((Ext.refl _).alloc _).alloc _)) n0 n1 true HLB.out (by simp)).mono ?_
    rintro e w1_ ⟨rfl, rfl⟩
    go_wp2_with fail
    refine (lawake_calls _).mono ?_
    rintro e w1 ⟨rfl, x1⟩
    have y1 := Ext.trans ((((Ext.refl _).alloc _).alloc _).alloc _) x1
    go_wp2_with fail
    go_ret
    exact ⟨rfl, y1⟩
  | false =>
    have HLB := Lib.hid hlb
    simp at hlb
    have HL0 : Hid (A0.length ≤ 65535) := by show _ ≤ _; omega
    have HL1 : Hid (A1.length ≤ 65535) := by show _ ≤ _; omega
    have HM0 : Hid (A0.length ≤ 10) := by show _ ≤ _; omega
    have HM1 : Hid (A1.length ≤ 10) := by show _ ≤ _; omega
    obtain ⟨z0, hz0⟩ : ∃ z, iv n0 A0 = z := ⟨_, rfl⟩
    obtain ⟨z1, hz1⟩ : ∃ z, iv n1 A1 = z := ⟨_, rfl⟩
    obtain ⟨Q, hQ⟩ : ∃ q, (if z1 = 0 then 0 else z0 / z1) = q := ⟨_, rfl⟩
    obtain ⟨R, hR⟩ : ∃ q, (if z1 = 0 then 0 else z0 % z1) = q := ⟨_, rfl⟩
    obtain ⟨KE, hK⟩ : ∃ q, (if z1 = 0 then (7 : Int) else 0) = q := ⟨_, rfl⟩
    have HQ := Lib.hid hQ
    have HR := Lib.hid hR
    have HK := Lib.hid hK
    have HZ0 := Lib.hid hz0
    have HZ1 := Lib.hid hz1
    clear hlb hz0 hz1 hQ hR hK
    go_enter Tryz.func3, Tryz.ntmps3
    go_wp2_with fail
    refine (ilong2_calls (h0.ext (((Ext.refl _).alloc _).alloc _)) (h1.ext (((Ext.refl _).alloc _).alloc _)) n0 n1 false HLB.out (by simp)).mono ?_
    rintro e w1_ ⟨rfl, hw1⟩
    have HX1 : Hid (Ext w w1_) := by rw [← hw1]; exact (((Ext.refl _).alloc _).alloc _).alloc _
    have b102_0 : Hid (At (w.heap.size) 0 (.bool n0) w1_) := by rw [← hw1]; exact At.ext (At.n0 (by rfl)) (((Ext.refl _).alloc _).alloc _)
    have b102_1 : Hid (At (w.heap.size) 1 (.slice p0 A0.length q0) w1_) := by rw [← hw1]; exact At.ext (At.n0 (by rfl)) (((Ext.refl _).alloc _).alloc _)
    have b103_0 : Hid (At (w.heap.size + 1) 0 (.bool n1) w1_) := by rw [← hw1]; exact At.ext (At.n1 (by rfl)) ((Ext.refl _).alloc _)
    have b103_1 : Hid (At (w.heap.size + 1) 1 (.slice p1 A1.length q1) w1_) := by rw [← hw1]; exact At.ext (At.n1 (by rfl)) ((Ext.refl _).alloc _)
    clear hw1
    obtain ⟨s3, hs3⟩ : ∃ s, w.heap.size + 1 = s := ⟨_, rfl⟩
    rw [hs3] at b103_0 b103_1 ⊢
    obtain ⟨s2, hs2⟩ : ∃ s, w.heap.size = s := ⟨_, rfl⟩
    rw [hs2] at b102_0 b102_1 ⊢
    have ho2 : s2 < s3 := by omega
    clear hs2 hs3
    have u102 : Hid (s2 < w1_.heap.size) := b102_0.out.2
    have u103 : Hid (s3 < w1_.heap.size) := b103_0.out.2
    have G0 : Hid (Limbs w1_ (.slice p0 A0.length q0) A0) := h0.ext HX1.out
    have G1 : Hid (Limbs w1_ (.slice p1 A1.length q1) A1) := h1.ext HX1.out
    have I0 : Hid (InI w1_ n0 (.slice p0 A0.length q0) 10 z0) := ⟨A0, G0.out, HZ0.out, HM0.out⟩
    have I1 : Hid (InI w1_ n1 (.slice p1 A1.length q1) 10 z1) := ⟨A1, G1.out, HZ1.out, HM1.out⟩
    clear h0 h1
    go_wp2_with fail
    have hkeep2 : AllAt' ([(s2, 0, .bool n0), (s2, 1, .slice p0 A0.length q0), (s3, 0, .bool n1), (s3, 1, .slice p1 A1.length q1)] : List (Nat × Nat × Value)) w1_ := AllAt'.cons b102_0.out (AllAt'.cons b102_1.out (AllAt'.cons b103_0.out (AllAt'.cons b103_1.out (AllAt'.nil _))))
    have hob2 : ObOk w.heap.size w1_ (([(s2, 0, .bool n0), (s2, 1, .slice p0 A0.length q0), (s3, 0, .bool n1), (s3, 1, .slice p1 A1.length q1)] : List (Nat × Nat × Value)).map (·.1)) ([] : List (Nat × List (Nat × Value))) := trivial
    have hne2 : AllNe (([] : List (Nat × List (Nat × Value))).map (·.1)) := trivial
    (try simp only [List.append_eq, List.cons_append, List.nil_append])
    refine wp_region_gen ⟨[23, 24, 25, 26, 5, 6], fun i => i == 4 || i == 5, fun i => ([none, none, none, none, none, none, some (.op 4, 1), some (.op 5, 3)] : List (Option (BoxRef × Nat))).getD i none, fun i => ([Sg.val (.agg #[.bool n0, .slice p0 A0.length q0]), Sg.copy w.heap.size n0 A0, Sg.val (.agg #[.bool n1, .slice p1 A1.length q1]), Sg.copy w.heap.size n1 A1, Sg.box 2 w1_.heap.size, Sg.box 2 w1_.heap.size, Sg.any, Sg.any] : List Sg).getD i Sg.any, [(s2, 0, .bool n0), (s2, 1, .slice p0 A0.length q0), (s3, 0, .bool n1), (s3, 1, .slice p1 A1.length q1)], []⟩ w.heap.size (by kernel_rfl) (by kernel_rfl) HX1.out.size ?hfr hkeep2 hob2 hne2 ?hs ?he
    case hfr =>
      intro i v wk hi hst hv
      have : i = 4 ∨ i = 5 := by simpa [or_assoc] using hi
      rcases this with rfl | rfl <;> (obtain ⟨s, rfl, -, hb⟩ := hv; exact hb.lt)
    case hs =>
      refine ⟨?_, ?_, ?_, ?_, ?_, ?_, ?_, ?_, trivial⟩
      · refine RStep.op rfl rfl (fun ac wk hp K hK => ?_)
        have t2_ : ac.tmps[2]?.getD undef = .pointer (some ⟨s2, 0, none⟩) := hp.slot 2 rfl rfl
        have c0_ := hp.cell 0 rfl
        have c1_ := hp.cell 1 rfl
        have HP := Lib.hid hp
        clear hp
        go_simp
        refine hK.out _ _ ?_ (Ext.refl _) (fun h => absurd h (by simp))
        exact rfl
      · refine RStep.op rfl rfl (fun ac wk hp K hK => ?_)
        have u0e := hp.get 0 (by decide +kernel) rfl
        have t23_ : ac.tmps[23]?.getD undef = .agg #[.bool n0, .slice p0 A0.length q0] := slot_is' u0e
        have HP := Lib.hid hp
        clear hp
        go_simp
        refine (own_calls (G0.out.gr HP.out.gr) HL0.out n0).mono ?_
        rintro e wk' ⟨sv2, rfl, o2, ix⟩
        obtain ⟨sp2, sl2, sc2, rfl⟩ := o2.slice
        refine hK.out _ _ ?_ ix (fun h => absurd h (by simp))
        exact ⟨_, _, _, rfl, (o2.mono (Nat.le_trans HX1.out.size HP.out.gr.size))⟩
      · refine RStep.op rfl rfl (fun ac wk hp K hK => ?_)
        have t3_ : ac.tmps[3]?.getD undef = .pointer (some ⟨s3, 0, none⟩) := hp.slot 3 rfl rfl
        have c0_ := hp.cell 2 rfl
        have c1_ := hp.cell 3 rfl
        have HP := Lib.hid hp
        clear hp
        go_simp
        refine hK.out _ _ ?_ (Ext.refl _) (fun h => absurd h (by simp))
        exact rfl
      · refine RStep.op rfl rfl (fun ac wk hp K hK => ?_)
        have u2e := hp.get 2 (by decide +kernel) rfl
        have t25_ : ac.tmps[25]?.getD undef = .agg #[.bool n1, .slice p1 A1.length q1] := slot_is' u2e
        have HP := Lib.hid hp
        clear hp
        go_simp
        refine (own_calls (G1.out.gr HP.out.gr) HL1.out n1).mono ?_
        rintro e wk' ⟨sv3, rfl, o3, ix⟩
        obtain ⟨sp3, sl3, sc3, rfl⟩ := o3.slice
        refine hK.out _ _ ?_ ix (fun h => absurd h (by simp))
        exact ⟨_, _, _, rfl, (o3.mono (Nat.le_trans HX1.out.size HP.out.gr.size))⟩
      · refine RStep.op rfl rfl (fun ac wk hp K hK => ?_)
        have hsz := hp.gr.size
        clear hp
        go_simp
        exact hK.out _ _ ⟨_, rfl, hsz, Bx.new 2 ⟨rfl, by decide⟩ (by decide) noI_s2⟩ ((Ext.refl _).alloc _) (fun _ => rfl)
      · refine RStep.op rfl rfl (fun ac wk hp K hK => ?_)
        have hsz := hp.gr.size
        clear hp
        go_simp
        exact hK.out _ _ ⟨_, rfl, hsz, Bx.new 2 ⟨rfl, by decide⟩ (by decide) noI_s2⟩ ((Ext.refl _).alloc _) (fun _ => rfl)
      · refine RStep.st 4 1 rfl rfl (fun ac wk hp => ?_)
        obtain ⟨u4s, u4e, u4l, u4b⟩ := hp.get 4 (by decide +kernel) rfl
        have t5_ : ac.tmps[5]?.getD undef = .pointer (some ⟨u4s, 0, none⟩) := slot_is' u4e
        obtain ⟨u1p, u1n, u1c, u1e, u1o⟩ := hp.get 1 (by decide +kernel) rfl
        have t24_ : ac.tmps[24]?.getD undef = .agg #[.bool n0, .slice u1p u1n u1c] := slot_is' u1e
        obtain ⟨d0, hd0, -⟩ := Bx.cell u4b (o := 0) (by decide)
        have fz0 := Bx.free u4b 0
        obtain ⟨d1, hd1, -⟩ := Bx.cell u4b (o := 1) (by decide)
        have fz1 := Bx.free u4b 1
        refine ⟨u4s, 2, [.bool n0, .slice u1p u1n u1c], u4e, u4b, by rw [u1e]; rfl, rfl, noI_s2, fun K hK => ?_⟩
        have HK := Lib.hid hK
        clear hK hp
        go_simp
        exact HK.out
      · refine RStep.st 5 3 rfl rfl (fun ac wk hp => ?_)
        obtain ⟨u5s, u5e, u5l, u5b⟩ := hp.get 5 (by decide +kernel) rfl
        have t6_ : ac.tmps[6]?.getD undef = .pointer (some ⟨u5s, 0, none⟩) := slot_is' u5e
        obtain ⟨u3p, u3n, u3c, u3e, u3o⟩ := hp.get 3 (by decide +kernel) rfl
        have t26_ : ac.tmps[26]?.getD undef = .agg #[.bool n1, .slice u3p u3n u3c] := slot_is' u3e
        obtain ⟨d0, hd0, -⟩ := Bx.cell u5b (o := 0) (by decide)
        have fz0 := Bx.free u5b 0
        obtain ⟨d1, hd1, -⟩ := Bx.cell u5b (o := 1) (by decide)
        have fz1 := Bx.free u5b 1
        refine ⟨u5s, 2, [.bool n1, .slice u3p u3n u3c], u5e, u5b, by rw [u3e]; rfl, rfl, noI_s2, fun K hK => ?_⟩
        have HK := Lib.hid hK
        clear hK hp
        go_simp
        exact HK.out
    case he =>
      intro ac v1 hM
      have y2_0e := hM.post 0 rfl rfl
      obtain ⟨y2_1p, y2_1n, y2_1c, y2_1e, y2_1o⟩ := hM.post 1 rfl rfl
      have y2_2e := hM.post 2 rfl rfl
      obtain ⟨y2_3p, y2_3n, y2_3c, y2_3e, y2_3o⟩ := hM.post 3 rfl rfl
      obtain ⟨y2_4s, y2_4e, y2_4l, y2_4b⟩ := hM.post 4 rfl rfl
      have l200 := Lib.hid y2_4l
      have k200 := Lib.hid y2_4b
      have u200 := Lib.hid (Bx.lt y2_4b)
      obtain ⟨y2_5s, y2_5e, y2_5l, y2_5b⟩ := hM.post 5 rfl rfl
      have l201 := Lib.hid y2_5l
      have k201 := Lib.hid y2_5b
      have u201 := Lib.hid (Bx.lt y2_5b)
      have hf2_4_5 : y2_4s ≠ y2_5s := by have h := hM.fresh 4 5 (by decide) rfl rfl rfl rfl rfl rfl; rw [show at_ _ ac 4 = _ from y2_4e, show at_ _ ac 5 = _ from y2_5e] at h; exact h
      have b200_0 : Hid (At (y2_4s) 0 (.bool n0) v1) := Lib.hid (hM.boxOp 6 4 1 rfl rfl y2_4e (cs := [.bool n0, .slice y2_1p y2_1n y2_1c]) (by rw [y2_1e]; rfl) 0 _ rfl)
      have b200_1 : Hid (At (y2_4s) 1 (.slice y2_1p y2_1n y2_1c) v1) := Lib.hid (hM.boxOp 6 4 1 rfl rfl y2_4e (cs := [.bool n0, .slice y2_1p y2_1n y2_1c]) (by rw [y2_1e]; rfl) 1 _ rfl)
      have b201_0 : Hid (At (y2_5s) 0 (.bool n1) v1) := Lib.hid (hM.boxOp 7 5 3 rfl rfl y2_5e (cs := [.bool n1, .slice y2_3p y2_3n y2_3c]) (by rw [y2_3e]; rfl) 0 _ rfl)
      have b201_1 : Hid (At (y2_5s) 1 (.slice y2_3p y2_3n y2_3c) v1) := Lib.hid (hM.boxOp 7 5 3 rfl rfl y2_5e (cs := [.bool n1, .slice y2_3p y2_3n y2_3c]) (by rw [y2_3e]; rfl) 1 _ rfl)
      have b102_0 : Hid (At (s2) 0 (.bool n0) v1) := Lib.hid (hM.keep.at 0 rfl)
      have b102_1 : Hid (At (s2) 1 (.slice p0 A0.length q0) v1) := Lib.hid (hM.keep.at 1 rfl)
      have b103_0 : Hid (At (s3) 0 (.bool n1) v1) := Lib.hid (hM.keep.at 2 rfl)
      have b103_1 : Hid (At (s3) 1 (.slice p1 A1.length q1) v1) := Lib.hid (hM.keep.at 3 rfl)
      have gv1 : Gr w1_ v1 := hM.gr
      have e1_ : Ext w v1 := Ext.below HX1.out hM.blw
      have z0_ : sl ac 23 = .agg #[.bool n0, .slice p0 A0.length q0] := y2_0e
      have z1_ : sl ac 24 = .agg #[.bool n0, .slice y2_1p y2_1n y2_1c] := y2_1e
      have z2_ : sl ac 25 = .agg #[.bool n1, .slice p1 A1.length q1] := y2_2e
      have z3_ : sl ac 26 = .agg #[.bool n1, .slice y2_3p y2_3n y2_3c] := y2_3e
      have z4_ : sl ac 5 = .pointer (some ⟨y2_4s, 0, none⟩) := y2_4e
      have z5_ : sl ac 6 = .pointer (some ⟨y2_5s, 0, none⟩) := y2_5e
      rw [hM.ag.lay]
      simp only [lay, List.foldl_cons, List.foldl_nil, List.setIfInBounds_toArray, List.set_cons_zero, List.set_cons_succ, z0_, z1_, z2_, z3_, z4_, z5_]
      clear hM hkeep2 hob2 hne2 z0_ z1_ z2_ z3_ z4_ z5_ y2_0e y2_1e y2_2e y2_3e y2_4e y2_5e
      have g102_0 := b102_0.out.1
      have g102_1 := b102_1.out.1
      have g103_0 := b103_0.out.1
      have g103_1 := b103_1.out.1
      have f102 : s2 < v1.heap.size := b102_0.out.2
      have f103 : s3 < v1.heap.size := b103_0.out.2
      go_wp2_with fail
      refine (refdiv_os (I0.out.gr gv1) (I1.out.gr gv1) (by decide) (by decide) Q R KE HQ.out HR.out HK.out).mono ?_
      rintro e w2 ⟨sb4, su4, sm4, su4_, sm4_, rfl, e4q, e4r, o4q, o4r, x2⟩
      have e2_ : Ext w w2 := Ext.trans e1_ x2
      obtain ⟨sp4q, sl4q, sc4q, rfl⟩ := e4q.slice
      obtain ⟨sp4r, sl4r, sc4r, rfl⟩ := e4r.slice
      clear g102_0 g102_1 g103_0 g103_1 f102 f103
      go_wp2_with fail
      obtain ⟨v3, hv3⟩ : ∃ W, W = ((w2.alloc (.cells #[.bool sb4, .slice sp4q sl4q sc4q] 25)).alloc (.cells #[.bool false, .slice sp4r sl4r sc4r] 25)) := ⟨_, rfl⟩
      have y3 : Ext w2 v3 := by rw [hv3]; exact (((Ext.refl _).alloc _).alloc _)
      have b202_0 : Hid (At (w2.heap.size) 0 (.bool sb4) v3) := by rw [hv3]; exact At.ext (At.n0 (by rfl)) ((Ext.refl _).alloc _)
      have b202_1 : Hid (At (w2.heap.size) 1 (.slice sp4q sl4q sc4q) v3) := by rw [hv3]; exact At.ext (At.n0 (by rfl)) ((Ext.refl _).alloc _)
      have k202 : Hid (Bx 2 (w2.heap.size) v3) := by rw [hv3]; exact Bx.gr (Bx.n0 2 ⟨rfl, by decide⟩ (by decide) noI_s2) (Ext.gr ((Ext.refl _).alloc _))
      have u202 : Hid (w2.heap.size < v3.heap.size) := b202_0.out.2
      have b203_0 : Hid (At (w2.heap.size + 1) 0 (.bool false) v3) := by rw [hv3]; exact At.ext (At.n1 (by rfl)) (Ext.refl _)
      have b203_1 : Hid (At (w2.heap.size + 1) 1 (.slice sp4r sl4r sc4r) v3) := by rw [hv3]; exact At.ext (At.n1 (by rfl)) (Ext.refl _)
      have k203 : Hid (Bx 2 (w2.heap.size + 1) v3) := by rw [hv3]; exact Bx.gr (Bx.n1 2 ⟨rfl, by decide⟩ (by decide) noI_s2) (Ext.gr (Ext.refl _))
      have u203 : Hid (w2.heap.size + 1 < v3.heap.size) := b203_0.out.2
      have e3_ : Ext w v3 := Ext.trans e2_ y3
      rw [← hv3]
      clear hv3
      have C2_0 := Lib.hid (b102_0.out.ext (x2.trans y3))
      have C2_1 := Lib.hid (b102_1.out.ext (x2.trans y3))
      have C3_0 := Lib.hid (b103_0.out.ext (x2.trans y3))
      have C3_1 := Lib.hid (b103_1.out.ext (x2.trans y3))
      have C5_0 := Lib.hid (b200_0.out.ext (x2.trans y3))
      have C5_1 := Lib.hid (b200_1.out.ext (x2.trans y3))
      have C6_0 := Lib.hid (b201_0.out.ext (x2.trans y3))
      have C6_1 := Lib.hid (b201_1.out.ext (x2.trans y3))
      have C7_0 := Lib.hid b202_0.out
      have C7_1 := Lib.hid b202_1.out
      have C8_0 := Lib.hid b203_0.out
      have C8_1 := Lib.hid b203_1.out
      have FL5 := Lib.hid (y2_1o.ext (x2.trans y3)).limbs
      have FL6 := Lib.hid (y2_3o.ext (x2.trans y3)).limbs
      have FI7 := Lib.hid (e4q.ext y3)
      have FI8 := Lib.hid (e4r.ext y3)
      have F0 := Lib.hid (I0.out.gr (gv1.trans (x2.gr.trans y3.gr)))
      have FG0 := Lib.hid (G0.out.gr (gv1.trans (x2.gr.trans y3.gr)))
      have F1 := Lib.hid (I1.out.gr (gv1.trans (x2.gr.trans y3.gr)))
      have FG1 := Lib.hid (G1.out.gr (gv1.trans (x2.gr.trans y3.gr)))
      have EW : Hid (Ext w v3) := e3_
      obtain ⟨W4, rfl⟩ : ∃ W, W = v3 := ⟨_, rfl⟩
      obtain ⟨sb8, hsb8⟩ : ∃ s, w2.heap.size + 1 = s := ⟨_, rfl⟩
      rw [hsb8] at C8_0 C8_1
      (try rw [hsb8])
      obtain ⟨sb7, hsb7⟩ : ∃ s, w2.heap.size = s := ⟨_, rfl⟩
      rw [hsb7] at C7_0 C7_1
      (try rw [hsb7])
      obtain ⟨sb5, hsb5⟩ : ∃ s, y2_4s = s := ⟨_, rfl⟩
      rw [hsb5] at C5_0 C5_1
      (try rw [hsb5])
      obtain ⟨sb6, hsb6⟩ : ∃ s, y2_5s = s := ⟨_, rfl⟩
      rw [hsb6] at C6_0 C6_1
      (try rw [hsb6])
      obtain ⟨sb2, hsb2⟩ : ∃ s, s2 = s := ⟨_, rfl⟩
      rw [hsb2] at C2_0 C2_1
      (try rw [hsb2])
      obtain ⟨sb3, hsb3⟩ : ∃ s, s3 = s := ⟨_, rfl⟩
      rw [hsb3] at C3_0 C3_1
      (try rw [hsb3])
      clear hsb2 hsb3 hsb5 hsb6 hsb7 hsb8
      go_loopw [10] (fun v10 wr => ∃ i : Nat, v10 = .int .i64 (i : Int) ∧ i ≤ 2 ∧ Ext W4 wr) (fun v10 _ => 2 - (intOf v10).toNat)
      case atStart => exact ⟨0, rfl, Nat.zero_le _, Ext.refl _⟩
      case round =>
        obtain ⟨i, rfl, hi, hx⟩ := hrel
        have XX := Lib.hid hx
        clear hx
        by_cases hi2 : i < 2
        · have LT := Lib.hid hi2
          have t3 : (i : Int) ≤ 1 := by omega
          clear hi hi2
          have b102_0 := Lib.hid (C2_0.out.ext XX.out)
          have b102_1 := Lib.hid (C2_1.out.ext XX.out)
          have u102 := Lib.hid b102_0.out.2
          have b103_0 := Lib.hid (C3_0.out.ext XX.out)
          have b103_1 := Lib.hid (C3_1.out.ext XX.out)
          have u103 := Lib.hid b103_0.out.2
          have b105_0 := Lib.hid (C5_0.out.ext XX.out)
          have b105_1 := Lib.hid (C5_1.out.ext XX.out)
          have u105 := Lib.hid b105_0.out.2
          have b106_0 := Lib.hid (C6_0.out.ext XX.out)
          have b106_1 := Lib.hid (C6_1.out.ext XX.out)
          have u106 := Lib.hid b106_0.out.2
          have b107_0 := Lib.hid (C7_0.out.ext XX.out)
          have b107_1 := Lib.hid (C7_1.out.ext XX.out)
          have u107 := Lib.hid b107_0.out.2
          have b108_0 := Lib.hid (C8_0.out.ext XX.out)
          have b108_1 := Lib.hid (C8_1.out.ext XX.out)
          have u108 := Lib.hid b108_0.out.2
          have LL5 := Lib.hid (FL5.out.ext XX.out)
          have LL6 := Lib.hid (FL6.out.ext XX.out)
          have JJ7 := Lib.hid (FI7.out.ext XX.out)
          have JJ8 := Lib.hid (FI8.out.ext XX.out)
          have I0 := Lib.hid (F0.out.ext XX.out)
          have G0 := Lib.hid (FG0.out.ext XX.out)
          have I1 := Lib.hid (F1.out.ext XX.out)
          have G1 := Lib.hid (FG1.out.ext XX.out)
          go_wp2_with fail
          have hkeep51 : AllAt' ([(sb2, 0, .bool n0), (sb2, 1, .slice p0 A0.length q0), (sb3, 0, .bool n1), (sb3, 1, .slice p1 A1.length q1), (sb5, 0, .bool n0), (sb5, 1, .slice y2_1p y2_1n y2_1c), (sb6, 0, .bool n1), (sb6, 1, .slice y2_3p y2_3n y2_3c), (sb7, 0, .bool sb4), (sb7, 1, .slice sp4q sl4q sc4q), (sb8, 0, .bool false), (sb8, 1, .slice sp4r sl4r sc4r)] : List (Nat × Nat × Value)) wr := AllAt'.cons b102_0.out (AllAt'.cons b102_1.out (AllAt'.cons b103_0.out (AllAt'.cons b103_1.out (AllAt'.cons b105_0.out (AllAt'.cons b105_1.out (AllAt'.cons b106_0.out (AllAt'.cons b106_1.out (AllAt'.cons b107_0.out (AllAt'.cons b107_1.out (AllAt'.cons b108_0.out (AllAt'.cons b108_1.out (AllAt'.nil _))))))))))))
          have hob51 : ObOk W4.heap.size wr (([(sb2, 0, .bool n0), (sb2, 1, .slice p0 A0.length q0), (sb3, 0, .bool n1), (sb3, 1, .slice p1 A1.length q1), (sb5, 0, .bool n0), (sb5, 1, .slice y2_1p y2_1n y2_1c), (sb6, 0, .bool n1), (sb6, 1, .slice y2_3p y2_3n y2_3c), (sb7, 0, .bool sb4), (sb7, 1, .slice sp4q sl4q sc4q), (sb8, 0, .bool false), (sb8, 1, .slice sp4r sl4r sc4r)] : List (Nat × Nat × Value)).map (·.1)) ([] : List (Nat × List (Nat × Value))) := trivial
          have hne51 : AllNe (([] : List (Nat × List (Nat × Value))).map (·.1)) := trivial
          (try simp only [List.append_eq, List.cons_append, List.nil_append])
          refine wp_region_gen ⟨[38, 39, 40, 41, 42, 43, 44, 45, 46, 47, 48, 11, 12, 13, 14], fun i => i == 11 || i == 12 || i == 13 || i == 14, fun i => ([none, none, none, none, none, none, none, none, none, none, none, none, none, none, none, some (.op 11, 1), some (.op 12, 4), some (.op 13, 7), some (.op 14, 10)] : List (Option (BoxRef × Nat))).getD i none, fun i => ([Sg.val (.agg #[.bool n0, .slice p0 A0.length q0]), Sg.intO W4.heap.size (-z0), Sg.val (.agg #[.bool n0, .slice p0 A0.length q0]), Sg.val (.agg #[.bool n1, .slice p1 A1.length q1]), Sg.intO W4.heap.size (z0 + z1), Sg.val (.agg #[.bool n0, .slice p0 A0.length q0]), Sg.val (.agg #[.bool n1, .slice p1 A1.length q1]), Sg.intO W4.heap.size (z0 - z1), Sg.val (.agg #[.bool n0, .slice p0 A0.length q0]), Sg.val (.agg #[.bool n1, .slice p1 A1.length q1]), Sg.intO W4.heap.size (z0 * z1), Sg.box 2 wr.heap.size, Sg.box 2 wr.heap.size, Sg.box 2 wr.heap.size, Sg.box 2 wr.heap.size, Sg.any, Sg.any, Sg.any, Sg.any] : List Sg).getD i Sg.any, [(sb2, 0, .bool n0), (sb2, 1, .slice p0 A0.length q0), (sb3, 0, .bool n1), (sb3, 1, .slice p1 A1.length q1), (sb5, 0, .bool n0), (sb5, 1, .slice y2_1p y2_1n y2_1c), (sb6, 0, .bool n1), (sb6, 1, .slice y2_3p y2_3n y2_3c), (sb7, 0, .bool sb4), (sb7, 1, .slice sp4q sl4q sc4q), (sb8, 0, .bool false), (sb8, 1, .slice sp4r sl4r sc4r)], []⟩ W4.heap.size (by kernel_rfl) (by kernel_rfl) XX.out.size ?hfr hkeep51 hob51 hne51 ?hs ?he
          case hfr =>
            intro i v wk hi hst hv
            have : i = 11 ∨ i = 12 ∨ i = 13 ∨ i = 14 := by simpa [or_assoc] using hi
            rcases this with rfl | rfl | rfl | rfl <;> (obtain ⟨s, rfl, -, hb⟩ := hv; exact hb.lt)
          case hs =>
            refine ⟨?_, ?_, ?_, ?_, ?_, ?_, ?_, ?_, ?_, ?_, ?_, ?_, ?_, ?_, ?_, ?_, ?_, ?_, ?_, trivial⟩
            · refine RStep.op rfl rfl (fun ac wk hp K hK => ?_)
              have t2_ : ac.tmps[2]?.getD undef = .pointer (some ⟨sb2, 0, none⟩) := hp.slot 2 rfl rfl
              have c0_ := hp.cell 0 rfl
              have c1_ := hp.cell 1 rfl
              have HP := Lib.hid hp
              clear hp
              go_simp
              refine hK.out _ _ ?_ (Ext.refl _) (fun h => absurd h (by simp))
              exact rfl
            · refine RStep.op rfl rfl (fun ac wk hp K hK => ?_)
              have u0e := hp.get 0 (by decide +kernel) rfl
              have t38_ : ac.tmps[38]?.getD undef = .agg #[.bool n0, .slice p0 A0.length q0] := slot_is' u0e
              have HP := Lib.hid hp
              clear hp
              go_simp
              refine (neg_os (I0.out.gr HP.out.gr) (by decide)).mono ?_
              rintro e wk' ⟨sb51, sv51, sm51, rfl, e51, o51, ix⟩
              obtain ⟨sp51, sl51, sc51, rfl⟩ := e51.slice
              refine hK.out _ _ ?_ ix (fun h => absurd h (by simp))
              exact ⟨_, _, _, _, _, rfl, e51, (o51.mono (Nat.le_trans XX.out.size HP.out.gr.size))⟩
            · refine RStep.op rfl rfl (fun ac wk hp K hK => ?_)
              have t2_ : ac.tmps[2]?.getD undef = .pointer (some ⟨sb2, 0, none⟩) := hp.slot 2 rfl rfl
              have c0_ := hp.cell 0 rfl
              have c1_ := hp.cell 1 rfl
              have HP := Lib.hid hp
              clear hp
              go_simp
              refine hK.out _ _ ?_ (Ext.refl _) (fun h => absurd h (by simp))
              exact rfl
            · refine RStep.op rfl rfl (fun ac wk hp K hK => ?_)
              have t3_ : ac.tmps[3]?.getD undef = .pointer (some ⟨sb3, 0, none⟩) := hp.slot 3 rfl rfl
              have c0_ := hp.cell 2 rfl
              have c1_ := hp.cell 3 rfl
              have HP := Lib.hid hp
              clear hp
              go_simp
              refine hK.out _ _ ?_ (Ext.refl _) (fun h => absurd h (by simp))
              exact rfl
            · refine RStep.op rfl rfl (fun ac wk hp K hK => ?_)
              have u2e := hp.get 2 (by decide +kernel) rfl
              have t40_ : ac.tmps[40]?.getD undef = .agg #[.bool n0, .slice p0 A0.length q0] := slot_is' u2e
              have u3e := hp.get 3 (by decide +kernel) rfl
              have t41_ : ac.tmps[41]?.getD undef = .agg #[.bool n1, .slice p1 A1.length q1] := slot_is' u3e
              have HP := Lib.hid hp
              clear hp
              go_simp
              refine (add_os (I0.out.gr HP.out.gr) (I1.out.gr HP.out.gr) (by decide) (by decide)).mono ?_
              rintro e wk' ⟨sb52, sv52, sm52, rfl, e52, o52, ix⟩
              obtain ⟨sp52, sl52, sc52, rfl⟩ := e52.slice
              refine hK.out _ _ ?_ ix (fun h => absurd h (by simp))
              exact ⟨_, _, _, _, _, rfl, e52, (o52.mono (Nat.le_trans XX.out.size HP.out.gr.size))⟩
            · refine RStep.op rfl rfl (fun ac wk hp K hK => ?_)
              have t2_ : ac.tmps[2]?.getD undef = .pointer (some ⟨sb2, 0, none⟩) := hp.slot 2 rfl rfl
              have c0_ := hp.cell 0 rfl
              have c1_ := hp.cell 1 rfl
              have HP := Lib.hid hp
              clear hp
              go_simp
              refine hK.out _ _ ?_ (Ext.refl _) (fun h => absurd h (by simp))
              exact rfl
            · refine RStep.op rfl rfl (fun ac wk hp K hK => ?_)
              have t3_ : ac.tmps[3]?.getD undef = .pointer (some ⟨sb3, 0, none⟩) := hp.slot 3 rfl rfl
              have c0_ := hp.cell 2 rfl
              have c1_ := hp.cell 3 rfl
              have HP := Lib.hid hp
              clear hp
              go_simp
              refine hK.out _ _ ?_ (Ext.refl _) (fun h => absurd h (by simp))
              exact rfl
            · refine RStep.op rfl rfl (fun ac wk hp K hK => ?_)
              have u5e := hp.get 5 (by decide +kernel) rfl
              have t43_ : ac.tmps[43]?.getD undef = .agg #[.bool n0, .slice p0 A0.length q0] := slot_is' u5e
              have u6e := hp.get 6 (by decide +kernel) rfl
              have t44_ : ac.tmps[44]?.getD undef = .agg #[.bool n1, .slice p1 A1.length q1] := slot_is' u6e
              have HP := Lib.hid hp
              clear hp
              go_simp
              refine (sub_os (I0.out.gr HP.out.gr) (I1.out.gr HP.out.gr) (by decide) (by decide)).mono ?_
              rintro e wk' ⟨sb53, sv53, sm53, rfl, e53, o53, ix⟩
              obtain ⟨sp53, sl53, sc53, rfl⟩ := e53.slice
              refine hK.out _ _ ?_ ix (fun h => absurd h (by simp))
              exact ⟨_, _, _, _, _, rfl, e53, (o53.mono (Nat.le_trans XX.out.size HP.out.gr.size))⟩
            · refine RStep.op rfl rfl (fun ac wk hp K hK => ?_)
              have t2_ : ac.tmps[2]?.getD undef = .pointer (some ⟨sb2, 0, none⟩) := hp.slot 2 rfl rfl
              have c0_ := hp.cell 0 rfl
              have c1_ := hp.cell 1 rfl
              have HP := Lib.hid hp
              clear hp
              go_simp
              refine hK.out _ _ ?_ (Ext.refl _) (fun h => absurd h (by simp))
              exact rfl
            · refine RStep.op rfl rfl (fun ac wk hp K hK => ?_)
              have t3_ : ac.tmps[3]?.getD undef = .pointer (some ⟨sb3, 0, none⟩) := hp.slot 3 rfl rfl
              have c0_ := hp.cell 2 rfl
              have c1_ := hp.cell 3 rfl
              have HP := Lib.hid hp
              clear hp
              go_simp
              refine hK.out _ _ ?_ (Ext.refl _) (fun h => absurd h (by simp))
              exact rfl
            · refine RStep.op rfl rfl (fun ac wk hp K hK => ?_)
              have u8e := hp.get 8 (by decide +kernel) rfl
              have t46_ : ac.tmps[46]?.getD undef = .agg #[.bool n0, .slice p0 A0.length q0] := slot_is' u8e
              have u9e := hp.get 9 (by decide +kernel) rfl
              have t47_ : ac.tmps[47]?.getD undef = .agg #[.bool n1, .slice p1 A1.length q1] := slot_is' u9e
              have HP := Lib.hid hp
              clear hp
              go_simp
              refine (mul_os (I0.out.gr HP.out.gr) (I1.out.gr HP.out.gr) (by decide) ).mono ?_
              rintro e wk' ⟨sb54, sv54, sm54, rfl, e54, o54, ix⟩
              obtain ⟨sp54, sl54, sc54, rfl⟩ := e54.slice
              refine hK.out _ _ ?_ ix (fun h => absurd h (by simp))
              exact ⟨_, _, _, _, _, rfl, e54, (o54.mono (Nat.le_trans XX.out.size HP.out.gr.size))⟩
            · refine RStep.op rfl rfl (fun ac wk hp K hK => ?_)
              have hsz := hp.gr.size
              clear hp
              go_simp
              exact hK.out _ _ ⟨_, rfl, hsz, Bx.new 2 ⟨rfl, by decide⟩ (by decide) noI_s2⟩ ((Ext.refl _).alloc _) (fun _ => rfl)
            · refine RStep.op rfl rfl (fun ac wk hp K hK => ?_)
              have hsz := hp.gr.size
              clear hp
              go_simp
              exact hK.out _ _ ⟨_, rfl, hsz, Bx.new 2 ⟨rfl, by decide⟩ (by decide) noI_s2⟩ ((Ext.refl _).alloc _) (fun _ => rfl)
            · refine RStep.op rfl rfl (fun ac wk hp K hK => ?_)
              have hsz := hp.gr.size
              clear hp
              go_simp
              exact hK.out _ _ ⟨_, rfl, hsz, Bx.new 2 ⟨rfl, by decide⟩ (by decide) noI_s2⟩ ((Ext.refl _).alloc _) (fun _ => rfl)
            · refine RStep.op rfl rfl (fun ac wk hp K hK => ?_)
              have hsz := hp.gr.size
              clear hp
              go_simp
              exact hK.out _ _ ⟨_, rfl, hsz, Bx.new 2 ⟨rfl, by decide⟩ (by decide) noI_s2⟩ ((Ext.refl _).alloc _) (fun _ => rfl)
            · refine RStep.st 11 1 rfl rfl (fun ac wk hp => ?_)
              obtain ⟨u11s, u11e, u11l, u11b⟩ := hp.get 11 (by decide +kernel) rfl
              have t11_ : ac.tmps[11]?.getD undef = .pointer (some ⟨u11s, 0, none⟩) := slot_is' u11e
              obtain ⟨u1b, u1p, u1n, u1c, u1m, u1e, u1i, u1o⟩ := hp.get 1 (by decide +kernel) rfl
              have t39_ : ac.tmps[39]?.getD undef = .agg #[.bool u1b, .slice u1p u1n u1c] := slot_is' u1e
              obtain ⟨d0, hd0, -⟩ := Bx.cell u11b (o := 0) (by decide)
              have fz0 := Bx.free u11b 0
              obtain ⟨d1, hd1, -⟩ := Bx.cell u11b (o := 1) (by decide)
              have fz1 := Bx.free u11b 1
              refine ⟨u11s, 2, [.bool u1b, .slice u1p u1n u1c], u11e, u11b, by rw [u1e]; rfl, rfl, noI_s2, fun K hK => ?_⟩
              have HK := Lib.hid hK
              clear hK hp
              go_simp
              exact HK.out
            · refine RStep.st 12 4 rfl rfl (fun ac wk hp => ?_)
              obtain ⟨u12s, u12e, u12l, u12b⟩ := hp.get 12 (by decide +kernel) rfl
              have t12_ : ac.tmps[12]?.getD undef = .pointer (some ⟨u12s, 0, none⟩) := slot_is' u12e
              obtain ⟨u4b, u4p, u4n, u4c, u4m, u4e, u4i, u4o⟩ := hp.get 4 (by decide +kernel) rfl
              have t42_ : ac.tmps[42]?.getD undef = .agg #[.bool u4b, .slice u4p u4n u4c] := slot_is' u4e
              obtain ⟨d0, hd0, -⟩ := Bx.cell u12b (o := 0) (by decide)
              have fz0 := Bx.free u12b 0
              obtain ⟨d1, hd1, -⟩ := Bx.cell u12b (o := 1) (by decide)
              have fz1 := Bx.free u12b 1
              refine ⟨u12s, 2, [.bool u4b, .slice u4p u4n u4c], u12e, u12b, by rw [u4e]; rfl, rfl, noI_s2, fun K hK => ?_⟩
              have HK := Lib.hid hK
              clear hK hp
              go_simp
              exact HK.out
            · refine RStep.st 13 7 rfl rfl (fun ac wk hp => ?_)
              obtain ⟨u13s, u13e, u13l, u13b⟩ := hp.get 13 (by decide +kernel) rfl
              have t13_ : ac.tmps[13]?.getD undef = .pointer (some ⟨u13s, 0, none⟩) := slot_is' u13e
              obtain ⟨u7b, u7p, u7n, u7c, u7m, u7e, u7i, u7o⟩ := hp.get 7 (by decide +kernel) rfl
              have t45_ : ac.tmps[45]?.getD undef = .agg #[.bool u7b, .slice u7p u7n u7c] := slot_is' u7e
              obtain ⟨d0, hd0, -⟩ := Bx.cell u13b (o := 0) (by decide)
              have fz0 := Bx.free u13b 0
              obtain ⟨d1, hd1, -⟩ := Bx.cell u13b (o := 1) (by decide)
              have fz1 := Bx.free u13b 1
              refine ⟨u13s, 2, [.bool u7b, .slice u7p u7n u7c], u13e, u13b, by rw [u7e]; rfl, rfl, noI_s2, fun K hK => ?_⟩
              have HK := Lib.hid hK
              clear hK hp
              go_simp
              exact HK.out
            · refine RStep.st 14 10 rfl rfl (fun ac wk hp => ?_)
              obtain ⟨u14s, u14e, u14l, u14b⟩ := hp.get 14 (by decide +kernel) rfl
              have t14_ : ac.tmps[14]?.getD undef = .pointer (some ⟨u14s, 0, none⟩) := slot_is' u14e
              obtain ⟨u10b, u10p, u10n, u10c, u10m, u10e, u10i, u10o⟩ := hp.get 10 (by decide +kernel) rfl
              have t48_ : ac.tmps[48]?.getD undef = .agg #[.bool u10b, .slice u10p u10n u10c] := slot_is' u10e
              obtain ⟨d0, hd0, -⟩ := Bx.cell u14b (o := 0) (by decide)
              have fz0 := Bx.free u14b 0
              obtain ⟨d1, hd1, -⟩ := Bx.cell u14b (o := 1) (by decide)
              have fz1 := Bx.free u14b 1
              refine ⟨u14s, 2, [.bool u10b, .slice u10p u10n u10c], u14e, u14b, by rw [u10e]; rfl, rfl, noI_s2, fun K hK => ?_⟩
              have HK := Lib.hid hK
              clear hK hp
              go_simp
              exact HK.out
          case he =>
            intro ac v1 hM
            have y51_0e := hM.post 0 rfl rfl
            obtain ⟨y51_1b, y51_1p, y51_1n, y51_1c, y51_1m, y51_1e, y51_1i, y51_1o⟩ := hM.post 1 rfl rfl
            have y51_2e := hM.post 2 rfl rfl
            have y51_3e := hM.post 3 rfl rfl
            obtain ⟨y51_4b, y51_4p, y51_4n, y51_4c, y51_4m, y51_4e, y51_4i, y51_4o⟩ := hM.post 4 rfl rfl
            have y51_5e := hM.post 5 rfl rfl
            have y51_6e := hM.post 6 rfl rfl
            obtain ⟨y51_7b, y51_7p, y51_7n, y51_7c, y51_7m, y51_7e, y51_7i, y51_7o⟩ := hM.post 7 rfl rfl
            have y51_8e := hM.post 8 rfl rfl
            have y51_9e := hM.post 9 rfl rfl
            obtain ⟨y51_10b, y51_10p, y51_10n, y51_10c, y51_10m, y51_10e, y51_10i, y51_10o⟩ := hM.post 10 rfl rfl
            obtain ⟨y51_11s, y51_11e, y51_11l, y51_11b⟩ := hM.post 11 rfl rfl
            have l300 := Lib.hid y51_11l
            have k300 := Lib.hid y51_11b
            have u300 := Lib.hid (Bx.lt y51_11b)
            obtain ⟨y51_12s, y51_12e, y51_12l, y51_12b⟩ := hM.post 12 rfl rfl
            have l301 := Lib.hid y51_12l
            have k301 := Lib.hid y51_12b
            have u301 := Lib.hid (Bx.lt y51_12b)
            obtain ⟨y51_13s, y51_13e, y51_13l, y51_13b⟩ := hM.post 13 rfl rfl
            have l302 := Lib.hid y51_13l
            have k302 := Lib.hid y51_13b
            have u302 := Lib.hid (Bx.lt y51_13b)
            obtain ⟨y51_14s, y51_14e, y51_14l, y51_14b⟩ := hM.post 14 rfl rfl
            have l303 := Lib.hid y51_14l
            have k303 := Lib.hid y51_14b
            have u303 := Lib.hid (Bx.lt y51_14b)
            have hf51_11_12 : y51_11s ≠ y51_12s := by have h := hM.fresh 11 12 (by decide) rfl rfl rfl rfl rfl rfl; rw [show at_ _ ac 11 = _ from y51_11e, show at_ _ ac 12 = _ from y51_12e] at h; exact h
            have hf51_11_13 : y51_11s ≠ y51_13s := by have h := hM.fresh 11 13 (by decide) rfl rfl rfl rfl rfl rfl; rw [show at_ _ ac 11 = _ from y51_11e, show at_ _ ac 13 = _ from y51_13e] at h; exact h
            have hf51_11_14 : y51_11s ≠ y51_14s := by have h := hM.fresh 11 14 (by decide) rfl rfl rfl rfl rfl rfl; rw [show at_ _ ac 11 = _ from y51_11e, show at_ _ ac 14 = _ from y51_14e] at h; exact h
            have hf51_12_13 : y51_12s ≠ y51_13s := by have h := hM.fresh 12 13 (by decide) rfl rfl rfl rfl rfl rfl; rw [show at_ _ ac 12 = _ from y51_12e, show at_ _ ac 13 = _ from y51_13e] at h; exact h
            have hf51_12_14 : y51_12s ≠ y51_14s := by have h := hM.fresh 12 14 (by decide) rfl rfl rfl rfl rfl rfl; rw [show at_ _ ac 12 = _ from y51_12e, show at_ _ ac 14 = _ from y51_14e] at h; exact h
            have hf51_13_14 : y51_13s ≠ y51_14s := by have h := hM.fresh 13 14 (by decide) rfl rfl rfl rfl rfl rfl; rw [show at_ _ ac 13 = _ from y51_13e, show at_ _ ac 14 = _ from y51_14e] at h; exact h
            have b300_0 : Hid (At (y51_11s) 0 (.bool y51_1b) v1) := Lib.hid (hM.boxOp 15 11 1 rfl rfl y51_11e (cs := [.bool y51_1b, .slice y51_1p y51_1n y51_1c]) (by rw [y51_1e]; rfl) 0 _ rfl)
            have b300_1 : Hid (At (y51_11s) 1 (.slice y51_1p y51_1n y51_1c) v1) := Lib.hid (hM.boxOp 15 11 1 rfl rfl y51_11e (cs := [.bool y51_1b, .slice y51_1p y51_1n y51_1c]) (by rw [y51_1e]; rfl) 1 _ rfl)
            have b301_0 : Hid (At (y51_12s) 0 (.bool y51_4b) v1) := Lib.hid (hM.boxOp 16 12 4 rfl rfl y51_12e (cs := [.bool y51_4b, .slice y51_4p y51_4n y51_4c]) (by rw [y51_4e]; rfl) 0 _ rfl)
            have b301_1 : Hid (At (y51_12s) 1 (.slice y51_4p y51_4n y51_4c) v1) := Lib.hid (hM.boxOp 16 12 4 rfl rfl y51_12e (cs := [.bool y51_4b, .slice y51_4p y51_4n y51_4c]) (by rw [y51_4e]; rfl) 1 _ rfl)
            have b302_0 : Hid (At (y51_13s) 0 (.bool y51_7b) v1) := Lib.hid (hM.boxOp 17 13 7 rfl rfl y51_13e (cs := [.bool y51_7b, .slice y51_7p y51_7n y51_7c]) (by rw [y51_7e]; rfl) 0 _ rfl)
            have b302_1 : Hid (At (y51_13s) 1 (.slice y51_7p y51_7n y51_7c) v1) := Lib.hid (hM.boxOp 17 13 7 rfl rfl y51_13e (cs := [.bool y51_7b, .slice y51_7p y51_7n y51_7c]) (by rw [y51_7e]; rfl) 1 _ rfl)
            have b303_0 : Hid (At (y51_14s) 0 (.bool y51_10b) v1) := Lib.hid (hM.boxOp 18 14 10 rfl rfl y51_14e (cs := [.bool y51_10b, .slice y51_10p y51_10n y51_10c]) (by rw [y51_10e]; rfl) 0 _ rfl)
            have b303_1 : Hid (At (y51_14s) 1 (.slice y51_10p y51_10n y51_10c) v1) := Lib.hid (hM.boxOp 18 14 10 rfl rfl y51_14e (cs := [.bool y51_10b, .slice y51_10p y51_10n y51_10c]) (by rw [y51_10e]; rfl) 1 _ rfl)
            have b102_0 : Hid (At (sb2) 0 (.bool n0) v1) := Lib.hid (hM.keep.at 0 rfl)
            have b102_1 : Hid (At (sb2) 1 (.slice p0 A0.length q0) v1) := Lib.hid (hM.keep.at 1 rfl)
            have b103_0 : Hid (At (sb3) 0 (.bool n1) v1) := Lib.hid (hM.keep.at 2 rfl)
            have b103_1 : Hid (At (sb3) 1 (.slice p1 A1.length q1) v1) := Lib.hid (hM.keep.at 3 rfl)
            have b105_0 : Hid (At (sb5) 0 (.bool n0) v1) := Lib.hid (hM.keep.at 4 rfl)
            have b105_1 : Hid (At (sb5) 1 (.slice y2_1p y2_1n y2_1c) v1) := Lib.hid (hM.keep.at 5 rfl)
            have b106_0 : Hid (At (sb6) 0 (.bool n1) v1) := Lib.hid (hM.keep.at 6 rfl)
            have b106_1 : Hid (At (sb6) 1 (.slice y2_3p y2_3n y2_3c) v1) := Lib.hid (hM.keep.at 7 rfl)
            have b107_0 : Hid (At (sb7) 0 (.bool sb4) v1) := Lib.hid (hM.keep.at 8 rfl)
            have b107_1 : Hid (At (sb7) 1 (.slice sp4q sl4q sc4q) v1) := Lib.hid (hM.keep.at 9 rfl)
            have b108_0 : Hid (At (sb8) 0 (.bool false) v1) := Lib.hid (hM.keep.at 10 rfl)
            have b108_1 : Hid (At (sb8) 1 (.slice sp4r sl4r sc4r) v1) := Lib.hid (hM.keep.at 11 rfl)
            have gv1 : Gr wr v1 := hM.gr
            have e1_ : Ext W4 v1 := Ext.below XX.out hM.blw
            have z0_ : sl ac 38 = .agg #[.bool n0, .slice p0 A0.length q0] := y51_0e
            have z1_ : sl ac 39 = .agg #[.bool y51_1b, .slice y51_1p y51_1n y51_1c] := y51_1e
            have z2_ : sl ac 40 = .agg #[.bool n0, .slice p0 A0.length q0] := y51_2e
            have z3_ : sl ac 41 = .agg #[.bool n1, .slice p1 A1.length q1] := y51_3e
            have z4_ : sl ac 42 = .agg #[.bool y51_4b, .slice y51_4p y51_4n y51_4c] := y51_4e
            have z5_ : sl ac 43 = .agg #[.bool n0, .slice p0 A0.length q0] := y51_5e
            have z6_ : sl ac 44 = .agg #[.bool n1, .slice p1 A1.length q1] := y51_6e
            have z7_ : sl ac 45 = .agg #[.bool y51_7b, .slice y51_7p y51_7n y51_7c] := y51_7e
            have z8_ : sl ac 46 = .agg #[.bool n0, .slice p0 A0.length q0] := y51_8e
            have z9_ : sl ac 47 = .agg #[.bool n1, .slice p1 A1.length q1] := y51_9e
            have z10_ : sl ac 48 = .agg #[.bool y51_10b, .slice y51_10p y51_10n y51_10c] := y51_10e
            have z11_ : sl ac 11 = .pointer (some ⟨y51_11s, 0, none⟩) := y51_11e
            have z12_ : sl ac 12 = .pointer (some ⟨y51_12s, 0, none⟩) := y51_12e
            have z13_ : sl ac 13 = .pointer (some ⟨y51_13s, 0, none⟩) := y51_13e
            have z14_ : sl ac 14 = .pointer (some ⟨y51_14s, 0, none⟩) := y51_14e
            rw [hM.ag.lay]
            simp only [lay, List.foldl_cons, List.foldl_nil, List.setIfInBounds_toArray, List.set_cons_zero, List.set_cons_succ, z0_, z1_, z2_, z3_, z4_, z5_, z6_, z7_, z8_, z9_, z10_, z11_, z12_, z13_, z14_]
            clear hM hkeep51 hob51 hne51 z0_ z1_ z2_ z3_ z4_ z5_ z6_ z7_ z8_ z9_ z10_ z11_ z12_ z13_ z14_ y51_0e y51_1e y51_2e y51_3e y51_4e y51_5e y51_6e y51_7e y51_8e y51_9e y51_10e y51_11e y51_12e y51_13e y51_14e
            have g102_0 := b102_0.out.1
            have g102_1 := b102_1.out.1
            have g103_0 := b103_0.out.1
            have g103_1 := b103_1.out.1
            have f102 : sb2 < v1.heap.size := b102_0.out.2
            have f103 : sb3 < v1.heap.size := b103_0.out.2
            go_wp2_with fail
            refine (div_os (I0.out.gr gv1) (I1.out.gr gv1) (by decide) (by decide) Q R KE HQ.out HR.out HK.out).mono ?_
            rintro e w2 ⟨sb55, su55, sm55, su55_, sm55_, rfl, e55q, e55r, o55q, o55r, x2⟩
            have e2_ : Ext W4 w2 := Ext.trans e1_ x2
            obtain ⟨sp55q, sl55q, sc55q, rfl⟩ := e55q.slice
            obtain ⟨sp55r, sl55r, sc55r, rfl⟩ := e55r.slice
            clear g102_0 g102_1 g103_0 g103_1 f102 f103
            go_wp2_with fail
            obtain ⟨v3, hv3⟩ : ∃ W, W = ((w2.alloc (.cells #[.bool sb55, .slice sp55q sl55q sc55q] 25)).alloc (.cells #[.bool false, .slice sp55r sl55r sc55r] 25)) := ⟨_, rfl⟩
            have y3 : Ext w2 v3 := by rw [hv3]; exact (((Ext.refl _).alloc _).alloc _)
            have b304_0 : Hid (At (w2.heap.size) 0 (.bool sb55) v3) := by rw [hv3]; exact At.ext (At.n0 (by rfl)) ((Ext.refl _).alloc _)
            have b304_1 : Hid (At (w2.heap.size) 1 (.slice sp55q sl55q sc55q) v3) := by rw [hv3]; exact At.ext (At.n0 (by rfl)) ((Ext.refl _).alloc _)
            have k304 : Hid (Bx 2 (w2.heap.size) v3) := by rw [hv3]; exact Bx.gr (Bx.n0 2 ⟨rfl, by decide⟩ (by decide) noI_s2) (Ext.gr ((Ext.refl _).alloc _))
            have u304 : Hid (w2.heap.size < v3.heap.size) := b304_0.out.2
            have b305_0 : Hid (At (w2.heap.size + 1) 0 (.bool false) v3) := by rw [hv3]; exact At.ext (At.n1 (by rfl)) (Ext.refl _)
            have b305_1 : Hid (At (w2.heap.size + 1) 1 (.slice sp55r sl55r sc55r) v3) := by rw [hv3]; exact At.ext (At.n1 (by rfl)) (Ext.refl _)
            have k305 : Hid (Bx 2 (w2.heap.size + 1) v3) := by rw [hv3]; exact Bx.gr (Bx.n1 2 ⟨rfl, by decide⟩ (by decide) noI_s2) (Ext.gr (Ext.refl _))
            have u305 : Hid (w2.heap.size + 1 < v3.heap.size) := b305_0.out.2
            have e3_ : Ext W4 v3 := Ext.trans e2_ y3
            rw [← hv3]
            clear hv3
            have hkeep52 : AllAt' ([(sb2, 0, .bool n0), (sb2, 1, .slice p0 A0.length q0), (sb3, 0, .bool n1), (sb3, 1, .slice p1 A1.length q1), (sb5, 0, .bool n0), (sb5, 1, .slice y2_1p y2_1n y2_1c), (sb6, 0, .bool n1), (sb6, 1, .slice y2_3p y2_3n y2_3c), (sb7, 0, .bool sb4), (sb7, 1, .slice sp4q sl4q sc4q), (sb8, 0, .bool false), (sb8, 1, .slice sp4r sl4r sc4r), (y51_11s, 0, .bool y51_1b), (y51_11s, 1, .slice y51_1p y51_1n y51_1c), (y51_12s, 0, .bool y51_4b), (y51_12s, 1, .slice y51_4p y51_4n y51_4c), (y51_13s, 0, .bool y51_7b), (y51_13s, 1, .slice y51_7p y51_7n y51_7c), (y51_14s, 0, .bool y51_10b), (y51_14s, 1, .slice y51_10p y51_10n y51_10c), (w2.heap.size, 0, .bool sb55), (w2.heap.size, 1, .slice sp55q sl55q sc55q), (w2.heap.size + 1, 0, .bool false), (w2.heap.size + 1, 1, .slice sp55r sl55r sc55r)] : List (Nat × Nat × Value)) v3 := AllAt'.cons (b102_0.out.ext (x2.trans y3)) (AllAt'.cons (b102_1.out.ext (x2.trans y3)) (AllAt'.cons (b103_0.out.ext (x2.trans y3)) (AllAt'.cons (b103_1.out.ext (x2.trans y3)) (AllAt'.cons (b105_0.out.ext (x2.trans y3)) (AllAt'.cons (b105_1.out.ext (x2.trans y3)) (AllAt'.cons (b106_0.out.ext (x2.trans y3)) (AllAt'.cons (b106_1.out.ext (x2.trans y3)) (AllAt'.cons (b107_0.out.ext (x2.trans y3)) (AllAt'.cons (b107_1.out.ext (x2.trans y3)) (AllAt'.cons (b108_0.out.ext (x2.trans y3)) (AllAt'.cons (b108_1.out.ext (x2.trans y3)) (AllAt'.cons (b300_0.out.ext (x2.trans y3)) (AllAt'.cons (b300_1.out.ext (x2.trans y3)) (AllAt'.cons (b301_0.out.ext (x2.trans y3)) (AllAt'.cons (b301_1.out.ext (x2.trans y3)) (AllAt'.cons (b302_0.out.ext (x2.trans y3)) (AllAt'.cons (b302_1.out.ext (x2.trans y3)) (AllAt'.cons (b303_0.out.ext (x2.trans y3)) (AllAt'.cons (b303_1.out.ext (x2.trans y3)) (AllAt'.cons b304_0.out (AllAt'.cons b304_1.out (AllAt'.cons b305_0.out (AllAt'.cons b305_1.out (AllAt'.nil _))))))))))))))))))))))))
            have hob52 : ObOk W4.heap.size v3 (([(sb2, 0, .bool n0), (sb2, 1, .slice p0 A0.length q0), (sb3, 0, .bool n1), (sb3, 1, .slice p1 A1.length q1), (sb5, 0, .bool n0), (sb5, 1, .slice y2_1p y2_1n y2_1c), (sb6, 0, .bool n1), (sb6, 1, .slice y2_3p y2_3n y2_3c), (sb7, 0, .bool sb4), (sb7, 1, .slice sp4q sl4q sc4q), (sb8, 0, .bool false), (sb8, 1, .slice sp4r sl4r sc4r), (y51_11s, 0, .bool y51_1b), (y51_11s, 1, .slice y51_1p y51_1n y51_1c), (y51_12s, 0, .bool y51_4b), (y51_12s, 1, .slice y51_4p y51_4n y51_4c), (y51_13s, 0, .bool y51_7b), (y51_13s, 1, .slice y51_7p y51_7n y51_7c), (y51_14s, 0, .bool y51_10b), (y51_14s, 1, .slice y51_10p y51_10n y51_10c), (w2.heap.size, 0, .bool sb55), (w2.heap.size, 1, .slice sp55q sl55q sc55q), (w2.heap.size + 1, 0, .bool false), (w2.heap.size + 1, 1, .slice sp55r sl55r sc55r)] : List (Nat × Nat × Value)).map (·.1)) ([] : List (Nat × List (Nat × Value))) := trivial
            have hne52 : AllNe (([] : List (Nat × List (Nat × Value))).map (·.1)) := trivial
            (try simp only [List.append_eq, List.cons_append, List.nil_append])
            refine wp_region_gen ⟨[56, 57, 58, 59, 60, 61, 62, 63, 64, 65, 66, 67, 68, 69, 70, 71, 72, 73, 74, 75, 76, 77, 78, 79, 80, 81, 82, 83, 84, 85, 86, 87, 88, 89, 90, 91, 92, 93, 94, 95, 96, 97, 98, 99, 100, 101, 102, 103, 104, 105, 106, 107, 108, 109, 110, 111, 112, 113], fun i => false, fun i => ([none, none, none, none, none, none, none, none, none, none, none, none, none, none, none, none, none, none, none, none, none, none, none, none, none, none, none, none, none, none, none, none, none, none, none, none, none, none, none, none, none, none, none, none, none, none, none, none, none, none, none, none, none, none, none, none, none, none] : List (Option (BoxRef × Nat))).getD i none, fun i => ([Sg.intO W4.heap.size (-z0), Sg.val (.agg #[.bool n0, .slice p0 A0.length q0]), Sg.int (-z0), Sg.val (.bool true), Sg.val (.bool false), Sg.val (.bool false), Sg.intO W4.heap.size (z0 + z1), Sg.val (.agg #[.bool n0, .slice p0 A0.length q0]), Sg.val (.agg #[.bool n1, .slice p1 A1.length q1]), Sg.int (z0 + z1), Sg.val (.bool true), Sg.val (.bool false), Sg.val (.bool false), Sg.val (.bool false), Sg.intO W4.heap.size (z0 - z1), Sg.val (.agg #[.bool n0, .slice p0 A0.length q0]), Sg.val (.agg #[.bool n1, .slice p1 A1.length q1]), Sg.int (z0 - z1), Sg.val (.bool true), Sg.val (.bool false), Sg.val (.bool false), Sg.val (.bool false), Sg.intO W4.heap.size (z0 * z1), Sg.val (.agg #[.bool n0, .slice p0 A0.length q0]), Sg.val (.agg #[.bool n1, .slice p1 A1.length q1]), Sg.int (z0 * z1), Sg.val (.bool true), Sg.val (.bool false), Sg.val (.bool false), Sg.val (.bool false), Sg.val (.int .i64 KE), Sg.val (.int .i64 KE), Sg.val (.bool false), Sg.val (.bool false), Sg.val (.bool false), Sg.intO W4.heap.size Q, Sg.int Q, Sg.val (.bool true), Sg.val (.bool false), Sg.val (.bool false), Sg.val (.bool false), Sg.intO W4.heap.size R, Sg.int R, Sg.val (.bool true), Sg.val (.bool false), Sg.val (.bool false), Sg.val (.bool false), Sg.val (.agg #[.bool n0, .slice p0 A0.length q0]), Sg.val (.agg #[.bool n0, .slice y2_1p y2_1n y2_1c]), Sg.val (.bool true), Sg.val (.bool false), Sg.val (.bool false), Sg.val (.bool false), Sg.val (.agg #[.bool n1, .slice p1 A1.length q1]), Sg.val (.agg #[.bool n1, .slice y2_3p y2_3n y2_3c]), Sg.val (.bool true), Sg.val (.bool false), Sg.val (.bool false)] : List Sg).getD i Sg.any, [(sb2, 0, .bool n0), (sb2, 1, .slice p0 A0.length q0), (sb3, 0, .bool n1), (sb3, 1, .slice p1 A1.length q1), (sb5, 0, .bool n0), (sb5, 1, .slice y2_1p y2_1n y2_1c), (sb6, 0, .bool n1), (sb6, 1, .slice y2_3p y2_3n y2_3c), (sb7, 0, .bool sb4), (sb7, 1, .slice sp4q sl4q sc4q), (sb8, 0, .bool false), (sb8, 1, .slice sp4r sl4r sc4r), (y51_11s, 0, .bool y51_1b), (y51_11s, 1, .slice y51_1p y51_1n y51_1c), (y51_12s, 0, .bool y51_4b), (y51_12s, 1, .slice y51_4p y51_4n y51_4c), (y51_13s, 0, .bool y51_7b), (y51_13s, 1, .slice y51_7p y51_7n y51_7c), (y51_14s, 0, .bool y51_10b), (y51_14s, 1, .slice y51_10p y51_10n y51_10c), (w2.heap.size, 0, .bool sb55), (w2.heap.size, 1, .slice sp55q sl55q sc55q), (w2.heap.size + 1, 0, .bool false), (w2.heap.size + 1, 1, .slice sp55r sl55r sc55r)], []⟩ W4.heap.size (by kernel_rfl) (by kernel_rfl) e3_.size ?hfr hkeep52 hob52 hne52 ?hs ?he
            case hfr =>
              intro i v wk hi hst hv
              exact absurd hi (by simp)
            case hs =>
              refine ⟨?_, ?_, ?_, ?_, ?_, ?_, ?_, ?_, ?_, ?_, ?_, ?_, ?_, ?_, ?_, ?_, ?_, ?_, ?_, ?_, ?_, ?_, ?_, ?_, ?_, ?_, ?_, ?_, ?_, ?_, ?_, ?_, ?_, ?_, ?_, ?_, ?_, ?_, ?_, ?_, ?_, ?_, ?_, ?_, ?_, ?_, ?_, ?_, ?_, ?_, ?_, ?_, ?_, ?_, ?_, ?_, ?_, ?_, trivial⟩
              · refine RStep.op rfl rfl (fun ac wk hp K hK => ?_)
                have t11_ : ac.tmps[11]?.getD undef = .pointer (some ⟨y51_11s, 0, none⟩) := hp.slot 11 rfl rfl
                have c0_ := hp.cell 12 rfl
                have c1_ := hp.cell 13 rfl
                have HP := Lib.hid hp
                clear hp
                go_simp
                refine hK.out _ _ ?_ (Ext.refl _) (fun h => absurd h (by simp))
                exact ⟨_, _, _, _, _, rfl, (y51_1i.gr ((x2.gr.trans y3.gr).trans HP.out.gr)), (y51_1o.gr ((x2.gr.trans y3.gr).trans HP.out.gr))⟩
              · refine RStep.op rfl rfl (fun ac wk hp K hK => ?_)
                have t2_ : ac.tmps[2]?.getD undef = .pointer (some ⟨sb2, 0, none⟩) := hp.slot 2 rfl rfl
                have c0_ := hp.cell 0 rfl
                have c1_ := hp.cell 1 rfl
                have HP := Lib.hid hp
                clear hp
                go_simp
                refine hK.out _ _ ?_ (Ext.refl _) (fun h => absurd h (by simp))
                exact rfl
              · refine RStep.op rfl rfl (fun ac wk hp K hK => ?_)
                have u1e := hp.get 1 (by decide +kernel) rfl
                have t57_ : ac.tmps[57]?.getD undef = .agg #[.bool n0, .slice p0 A0.length q0] := slot_is' u1e
                have HP := Lib.hid hp
                clear hp
                go_simp
                refine (refneg_is (I0.out.gr ((gv1.trans (x2.gr.trans y3.gr)).trans HP.out.gr)) (by decide)).mono ?_
                rintro e wk' ⟨sb56, sv56, sm56, rfl, e56, ix⟩
                obtain ⟨sp56, sl56, sc56, rfl⟩ := e56.slice
                refine hK.out _ _ ?_ ix (fun h => absurd h (by simp))
                exact ⟨_, _, _, _, _, rfl, e56⟩
              · refine RStep.op rfl rfl (fun ac wk hp K hK => ?_)
                obtain ⟨u0b, u0p, u0n, u0c, u0m, u0e, u0i, u0o⟩ := hp.get 0 (by decide +kernel) rfl
                have t56_ : ac.tmps[56]?.getD undef = .agg #[.bool u0b, .slice u0p u0n u0c] := slot_is' u0e
                obtain ⟨u2b, u2p, u2n, u2c, u2m, u2e, u2i⟩ := hp.get 2 (by decide +kernel) rfl
                have t58_ : ac.tmps[58]?.getD undef = .agg #[.bool u2b, .slice u2p u2n u2c] := slot_is' u2e
                have HP := Lib.hid hp
                clear hp
                go_simp
                refine (rsame_is u0i u2i true (decide_eq_true (show ((-z0) : Int) = (-z0) from rfl))).mono ?_
                rintro e wk' ⟨rfl, ix⟩
                refine hK.out _ _ ?_ ix (fun h => absurd h (by simp))
                exact rfl
              · refine RStep.op rfl rfl (fun ac wk hp K hK => ?_)
                have u3e := hp.get 3 (by decide +kernel) rfl
                have t59_ : ac.tmps[59]?.getD undef = .bool true := slot_is' u3e
                have HP := Lib.hid hp
                clear hp
                go_simp
                refine hK.out _ _ ?_ (Ext.refl _) (fun h => absurd h (by simp))
                exact rfl
              · refine RStep.op rfl rfl (fun ac wk hp K hK => ?_)
                have u4e := hp.get 4 (by decide +kernel) rfl
                have t60_ : ac.tmps[60]?.getD undef = .bool false := slot_is' u4e
                have HP := Lib.hid hp
                clear hp
                go_simp
                refine hK.out _ _ ?_ (Ext.refl _) (fun h => absurd h (by simp))
                exact rfl
              · refine RStep.yes 5 false rfl rfl (by decide +kernel) rfl rfl (fun ac wk hp K hK => ?_)
                have t12_ : ac.tmps[12]?.getD undef = .pointer (some ⟨y51_12s, 0, none⟩) := hp.slot 12 rfl rfl
                have c0_ := hp.cell 14 rfl
                have c1_ := hp.cell 15 rfl
                have HP := Lib.hid hp
                clear hp
                go_simp
                refine hK.out _ _ ?_ (Ext.refl _) (fun h => absurd h (by simp))
                exact ⟨_, _, _, _, _, rfl, (y51_4i.gr ((x2.gr.trans y3.gr).trans HP.out.gr)), (y51_4o.gr ((x2.gr.trans y3.gr).trans HP.out.gr))⟩
              · refine RStep.yes 5 false rfl rfl (by decide +kernel) rfl rfl (fun ac wk hp K hK => ?_)
                have t2_ : ac.tmps[2]?.getD undef = .pointer (some ⟨sb2, 0, none⟩) := hp.slot 2 rfl rfl
                have c0_ := hp.cell 0 rfl
                have c1_ := hp.cell 1 rfl
                have HP := Lib.hid hp
                clear hp
                go_simp
                refine hK.out _ _ ?_ (Ext.refl _) (fun h => absurd h (by simp))
                exact rfl
              · refine RStep.yes 5 false rfl rfl (by decide +kernel) rfl rfl (fun ac wk hp K hK => ?_)
                have t3_ : ac.tmps[3]?.getD undef = .pointer (some ⟨sb3, 0, none⟩) := hp.slot 3 rfl rfl
                have c0_ := hp.cell 2 rfl
                have c1_ := hp.cell 3 rfl
                have HP := Lib.hid hp
                clear hp
                go_simp
                refine hK.out _ _ ?_ (Ext.refl _) (fun h => absurd h (by simp))
                exact rfl
              · refine RStep.yes 5 false rfl rfl (by decide +kernel) rfl rfl (fun ac wk hp K hK => ?_)
                have u7e := hp.get 7 (by decide +kernel) rfl
                have t63_ : ac.tmps[63]?.getD undef = .agg #[.bool n0, .slice p0 A0.length q0] := slot_is' u7e
                have u8e := hp.get 8 (by decide +kernel) rfl
                have t64_ : ac.tmps[64]?.getD undef = .agg #[.bool n1, .slice p1 A1.length q1] := slot_is' u8e
                have HP := Lib.hid hp
                clear hp
                go_simp
                refine (refadd_is (I0.out.gr ((gv1.trans (x2.gr.trans y3.gr)).trans HP.out.gr)) (I1.out.gr ((gv1.trans (x2.gr.trans y3.gr)).trans HP.out.gr)) (by decide) (by decide)).mono ?_
                rintro e wk' ⟨sb58, sv58, sm58, rfl, e58, ix⟩
                obtain ⟨sp58, sl58, sc58, rfl⟩ := e58.slice
                refine hK.out _ _ ?_ ix (fun h => absurd h (by simp))
                exact ⟨_, _, _, _, _, rfl, e58⟩
              · refine RStep.yes 5 false rfl rfl (by decide +kernel) rfl rfl (fun ac wk hp K hK => ?_)
                obtain ⟨u6b, u6p, u6n, u6c, u6m, u6e, u6i, u6o⟩ := hp.get 6 (by decide +kernel) rfl
                have t62_ : ac.tmps[62]?.getD undef = .agg #[.bool u6b, .slice u6p u6n u6c] := slot_is' u6e
                obtain ⟨u9b, u9p, u9n, u9c, u9m, u9e, u9i⟩ := hp.get 9 (by decide +kernel) rfl
                have t65_ : ac.tmps[65]?.getD undef = .agg #[.bool u9b, .slice u9p u9n u9c] := slot_is' u9e
                have HP := Lib.hid hp
                clear hp
                go_simp
                refine (rsame_is u6i u9i true (decide_eq_true (show ((z0 + z1) : Int) = (z0 + z1) from rfl))).mono ?_
                rintro e wk' ⟨rfl, ix⟩
                refine hK.out _ _ ?_ ix (fun h => absurd h (by simp))
                exact rfl
              · refine RStep.yes 5 false rfl rfl (by decide +kernel) rfl rfl (fun ac wk hp K hK => ?_)
                have u10e := hp.get 10 (by decide +kernel) rfl
                have t66_ : ac.tmps[66]?.getD undef = .bool true := slot_is' u10e
                have HP := Lib.hid hp
                clear hp
                go_simp
                refine hK.out _ _ ?_ (Ext.refl _) (fun h => absurd h (by simp))
                exact rfl
              · refine RStep.op rfl rfl (fun ac wk hp K hK => ?_)
                have u5e := hp.get 5 (by decide +kernel) rfl
                have t61_ : ac.tmps[61]?.getD undef = .bool false := slot_is' u5e
                have u11e := hp.get 11 (by decide +kernel) rfl
                have t67_ : ac.tmps[67]?.getD undef = .bool false := slot_is' u11e
                have HP := Lib.hid hp
                clear hp
                go_simp
                refine hK.out _ _ ?_ (Ext.refl _) (fun h => absurd h (by simp))
                exact rfl
              · refine RStep.op rfl rfl (fun ac wk hp K hK => ?_)
                have u12e := hp.get 12 (by decide +kernel) rfl
                have t68_ : ac.tmps[68]?.getD undef = .bool false := slot_is' u12e
                have HP := Lib.hid hp
                clear hp
                go_simp
                refine hK.out _ _ ?_ (Ext.refl _) (fun h => absurd h (by simp))
                exact rfl
              · refine RStep.yes 13 false rfl rfl (by decide +kernel) rfl rfl (fun ac wk hp K hK => ?_)
                have t13_ : ac.tmps[13]?.getD undef = .pointer (some ⟨y51_13s, 0, none⟩) := hp.slot 13 rfl rfl
                have c0_ := hp.cell 16 rfl
                have c1_ := hp.cell 17 rfl
                have HP := Lib.hid hp
                clear hp
                go_simp
                refine hK.out _ _ ?_ (Ext.refl _) (fun h => absurd h (by simp))
                exact ⟨_, _, _, _, _, rfl, (y51_7i.gr ((x2.gr.trans y3.gr).trans HP.out.gr)), (y51_7o.gr ((x2.gr.trans y3.gr).trans HP.out.gr))⟩
              · refine RStep.yes 13 false rfl rfl (by decide +kernel) rfl rfl (fun ac wk hp K hK => ?_)
                have t2_ : ac.tmps[2]?.getD undef = .pointer (some ⟨sb2, 0, none⟩) := hp.slot 2 rfl rfl
                have c0_ := hp.cell 0 rfl
                have c1_ := hp.cell 1 rfl
                have HP := Lib.hid hp
                clear hp
                go_simp
                refine hK.out _ _ ?_ (Ext.refl _) (fun h => absurd h (by simp))
                exact rfl
              · refine RStep.yes 13 false rfl rfl (by decide +kernel) rfl rfl (fun ac wk hp K hK => ?_)
                have t3_ : ac.tmps[3]?.getD undef = .pointer (some ⟨sb3, 0, none⟩) := hp.slot 3 rfl rfl
                have c0_ := hp.cell 2 rfl
                have c1_ := hp.cell 3 rfl
                have HP := Lib.hid hp
                clear hp
                go_simp
                refine hK.out _ _ ?_ (Ext.refl _) (fun h => absurd h (by simp))
                exact rfl
              · refine RStep.yes 13 false rfl rfl (by decide +kernel) rfl rfl (fun ac wk hp K hK => ?_)
                have u15e := hp.get 15 (by decide +kernel) rfl
                have t71_ : ac.tmps[71]?.getD undef = .agg #[.bool n0, .slice p0 A0.length q0] := slot_is' u15e
                have u16e := hp.get 16 (by decide +kernel) rfl
                have t72_ : ac.tmps[72]?.getD undef = .agg #[.bool n1, .slice p1 A1.length q1] := slot_is' u16e
                have HP := Lib.hid hp
                clear hp
                go_simp
                refine (refsub_is (I0.out.gr ((gv1.trans (x2.gr.trans y3.gr)).trans HP.out.gr)) (I1.out.gr ((gv1.trans (x2.gr.trans y3.gr)).trans HP.out.gr)) (by decide) (by decide)).mono ?_
                rintro e wk' ⟨sb60, sv60, sm60, rfl, e60, ix⟩
                obtain ⟨sp60, sl60, sc60, rfl⟩ := e60.slice
                refine hK.out _ _ ?_ ix (fun h => absurd h (by simp))
                exact ⟨_, _, _, _, _, rfl, e60⟩
              · refine RStep.yes 13 false rfl rfl (by decide +kernel) rfl rfl (fun ac wk hp K hK => ?_)
                obtain ⟨u14b, u14p, u14n, u14c, u14m, u14e, u14i, u14o⟩ := hp.get 14 (by decide +kernel) rfl
                have t70_ : ac.tmps[70]?.getD undef = .agg #[.bool u14b, .slice u14p u14n u14c] := slot_is' u14e
                obtain ⟨u17b, u17p, u17n, u17c, u17m, u17e, u17i⟩ := hp.get 17 (by decide +kernel) rfl
                have t73_ : ac.tmps[73]?.getD undef = .agg #[.bool u17b, .slice u17p u17n u17c] := slot_is' u17e
                have HP := Lib.hid hp
                clear hp
                go_simp
                refine (rsame_is u14i u17i true (decide_eq_true (show ((z0 - z1) : Int) = (z0 - z1) from rfl))).mono ?_
                rintro e wk' ⟨rfl, ix⟩
                refine hK.out _ _ ?_ ix (fun h => absurd h (by simp))
                exact rfl
              · refine RStep.yes 13 false rfl rfl (by decide +kernel) rfl rfl (fun ac wk hp K hK => ?_)
                have u18e := hp.get 18 (by decide +kernel) rfl
                have t74_ : ac.tmps[74]?.getD undef = .bool true := slot_is' u18e
                have HP := Lib.hid hp
                clear hp
                go_simp
                refine hK.out _ _ ?_ (Ext.refl _) (fun h => absurd h (by simp))
                exact rfl
              · refine RStep.op rfl rfl (fun ac wk hp K hK => ?_)
                have u13e := hp.get 13 (by decide +kernel) rfl
                have t69_ : ac.tmps[69]?.getD undef = .bool false := slot_is' u13e
                have u19e := hp.get 19 (by decide +kernel) rfl
                have t75_ : ac.tmps[75]?.getD undef = .bool false := slot_is' u19e
                have HP := Lib.hid hp
                clear hp
                go_simp
                refine hK.out _ _ ?_ (Ext.refl _) (fun h => absurd h (by simp))
                exact rfl
              · refine RStep.op rfl rfl (fun ac wk hp K hK => ?_)
                have u20e := hp.get 20 (by decide +kernel) rfl
                have t76_ : ac.tmps[76]?.getD undef = .bool false := slot_is' u20e
                have HP := Lib.hid hp
                clear hp
                go_simp
                refine hK.out _ _ ?_ (Ext.refl _) (fun h => absurd h (by simp))
                exact rfl
              · refine RStep.yes 21 false rfl rfl (by decide +kernel) rfl rfl (fun ac wk hp K hK => ?_)
                have t14_ : ac.tmps[14]?.getD undef = .pointer (some ⟨y51_14s, 0, none⟩) := hp.slot 14 rfl rfl
                have c0_ := hp.cell 18 rfl
                have c1_ := hp.cell 19 rfl
                have HP := Lib.hid hp
                clear hp
                go_simp
                refine hK.out _ _ ?_ (Ext.refl _) (fun h => absurd h (by simp))
                exact ⟨_, _, _, _, _, rfl, (y51_10i.gr ((x2.gr.trans y3.gr).trans HP.out.gr)), (y51_10o.gr ((x2.gr.trans y3.gr).trans HP.out.gr))⟩
              · refine RStep.yes 21 false rfl rfl (by decide +kernel) rfl rfl (fun ac wk hp K hK => ?_)
                have t2_ : ac.tmps[2]?.getD undef = .pointer (some ⟨sb2, 0, none⟩) := hp.slot 2 rfl rfl
                have c0_ := hp.cell 0 rfl
                have c1_ := hp.cell 1 rfl
                have HP := Lib.hid hp
                clear hp
                go_simp
                refine hK.out _ _ ?_ (Ext.refl _) (fun h => absurd h (by simp))
                exact rfl
              · refine RStep.yes 21 false rfl rfl (by decide +kernel) rfl rfl (fun ac wk hp K hK => ?_)
                have t3_ : ac.tmps[3]?.getD undef = .pointer (some ⟨sb3, 0, none⟩) := hp.slot 3 rfl rfl
                have c0_ := hp.cell 2 rfl
                have c1_ := hp.cell 3 rfl
                have HP := Lib.hid hp
                clear hp
                go_simp
                refine hK.out _ _ ?_ (Ext.refl _) (fun h => absurd h (by simp))
                exact rfl
              · refine RStep.yes 21 false rfl rfl (by decide +kernel) rfl rfl (fun ac wk hp K hK => ?_)
                have u23e := hp.get 23 (by decide +kernel) rfl
                have t79_ : ac.tmps[79]?.getD undef = .agg #[.bool n0, .slice p0 A0.length q0] := slot_is' u23e
                have u24e := hp.get 24 (by decide +kernel) rfl
                have t80_ : ac.tmps[80]?.getD undef = .agg #[.bool n1, .slice p1 A1.length q1] := slot_is' u24e
                have HP := Lib.hid hp
                clear hp
                go_simp
                refine (refmul_is (I0.out.gr ((gv1.trans (x2.gr.trans y3.gr)).trans HP.out.gr)) (I1.out.gr ((gv1.trans (x2.gr.trans y3.gr)).trans HP.out.gr)) (by decide) ).mono ?_
                rintro e wk' ⟨sb62, sv62, sm62, rfl, e62, ix⟩
                obtain ⟨sp62, sl62, sc62, rfl⟩ := e62.slice
                refine hK.out _ _ ?_ ix (fun h => absurd h (by simp))
                exact ⟨_, _, _, _, _, rfl, e62⟩
              · refine RStep.yes 21 false rfl rfl (by decide +kernel) rfl rfl (fun ac wk hp K hK => ?_)
                obtain ⟨u22b, u22p, u22n, u22c, u22m, u22e, u22i, u22o⟩ := hp.get 22 (by decide +kernel) rfl
                have t78_ : ac.tmps[78]?.getD undef = .agg #[.bool u22b, .slice u22p u22n u22c] := slot_is' u22e
                obtain ⟨u25b, u25p, u25n, u25c, u25m, u25e, u25i⟩ := hp.get 25 (by decide +kernel) rfl
                have t81_ : ac.tmps[81]?.getD undef = .agg #[.bool u25b, .slice u25p u25n u25c] := slot_is' u25e
                have HP := Lib.hid hp
                clear hp
                go_simp
                refine (rsame_is u22i u25i true (decide_eq_true (show ((z0 * z1) : Int) = (z0 * z1) from rfl))).mono ?_
                rintro e wk' ⟨rfl, ix⟩
                refine hK.out _ _ ?_ ix (fun h => absurd h (by simp))
                exact rfl
              · refine RStep.yes 21 false rfl rfl (by decide +kernel) rfl rfl (fun ac wk hp K hK => ?_)
                have u26e := hp.get 26 (by decide +kernel) rfl
                have t82_ : ac.tmps[82]?.getD undef = .bool true := slot_is' u26e
                have HP := Lib.hid hp
                clear hp
                go_simp
                refine hK.out _ _ ?_ (Ext.refl _) (fun h => absurd h (by simp))
                exact rfl
              · refine RStep.op rfl rfl (fun ac wk hp K hK => ?_)
                have u21e := hp.get 21 (by decide +kernel) rfl
                have t77_ : ac.tmps[77]?.getD undef = .bool false := slot_is' u21e
                have u27e := hp.get 27 (by decide +kernel) rfl
                have t83_ : ac.tmps[83]?.getD undef = .bool false := slot_is' u27e
                have HP := Lib.hid hp
                clear hp
                go_simp
                refine hK.out _ _ ?_ (Ext.refl _) (fun h => absurd h (by simp))
                exact rfl
              · refine RStep.op rfl rfl (fun ac wk hp K hK => ?_)
                have u28e := hp.get 28 (by decide +kernel) rfl
                have t84_ : ac.tmps[84]?.getD undef = .bool false := slot_is' u28e
                have HP := Lib.hid hp
                clear hp
                go_simp
                refine hK.out _ _ ?_ (Ext.refl _) (fun h => absurd h (by simp))
                exact rfl
              · refine RStep.yes 29 false rfl rfl (by decide +kernel) rfl rfl (fun ac wk hp K hK => ?_)
                have t17_ : ac.tmps[17]?.getD undef = .int .i64 KE := hp.slot 17 rfl rfl
                have HP := Lib.hid hp
                clear hp
                go_simp
                refine hK.out _ _ ?_ (Ext.refl _) (fun h => absurd h (by simp))
                exact rfl
              · refine RStep.yes 29 false rfl rfl (by decide +kernel) rfl rfl (fun ac wk hp K hK => ?_)
                have t9_ : ac.tmps[9]?.getD undef = .int .i64 KE := hp.slot 9 rfl rfl
                have HP := Lib.hid hp
                clear hp
                go_simp
                refine hK.out _ _ ?_ (Ext.refl _) (fun h => absurd h (by simp))
                exact rfl
              · refine RStep.yes 29 false rfl rfl (by decide +kernel) rfl rfl (fun ac wk hp K hK => ?_)
                have u30e := hp.get 30 (by decide +kernel) rfl
                have t86_ : ac.tmps[86]?.getD undef = .int .i64 KE := slot_is' u30e
                have u31e := hp.get 31 (by decide +kernel) rfl
                have t87_ : ac.tmps[87]?.getD undef = .int .i64 KE := slot_is' u31e
                have HP := Lib.hid hp
                clear hp
                go_simp
                refine hK.out _ _ ?_ (Ext.refl _) (fun h => absurd h (by simp))
                exact rfl
              · refine RStep.op rfl rfl (fun ac wk hp K hK => ?_)
                have u29e := hp.get 29 (by decide +kernel) rfl
                have t85_ : ac.tmps[85]?.getD undef = .bool false := slot_is' u29e
                have u32e := hp.get 32 (by decide +kernel) rfl
                have t88_ : ac.tmps[88]?.getD undef = .bool false := slot_is' u32e
                have HP := Lib.hid hp
                clear hp
                go_simp
                refine hK.out _ _ ?_ (Ext.refl _) (fun h => absurd h (by simp))
                exact rfl
              · refine RStep.op rfl rfl (fun ac wk hp K hK => ?_)
                have u33e := hp.get 33 (by decide +kernel) rfl
                have t89_ : ac.tmps[89]?.getD undef = .bool false := slot_is' u33e
                have HP := Lib.hid hp
                clear hp
                go_simp
                refine hK.out _ _ ?_ (Ext.refl _) (fun h => absurd h (by simp))
                exact rfl
              · refine RStep.yes 34 false rfl rfl (by decide +kernel) rfl rfl (fun ac wk hp K hK => ?_)
                have t15_ : ac.tmps[15]?.getD undef = .pointer (some ⟨w2.heap.size, 0, none⟩) := hp.slot 15 rfl rfl
                have c0_ := hp.cell 20 rfl
                have c1_ := hp.cell 21 rfl
                have HP := Lib.hid hp
                clear hp
                go_simp
                refine hK.out _ _ ?_ (Ext.refl _) (fun h => absurd h (by simp))
                exact ⟨_, _, _, _, _, rfl, (e55q.gr (y3.gr.trans HP.out.gr)), ((o55q.gr (y3.gr.trans HP.out.gr)).mono e1_.size)⟩
              · refine RStep.yes 34 false rfl rfl (by decide +kernel) rfl rfl (fun ac wk hp K hK => ?_)
                have t7_ : ac.tmps[7]?.getD undef = .pointer (some ⟨sb7, 0, none⟩) := hp.slot 7 rfl rfl
                have c0_ := hp.cell 8 rfl
                have c1_ := hp.cell 9 rfl
                have HP := Lib.hid hp
                clear hp
                go_simp
                refine hK.out _ _ ?_ (Ext.refl _) (fun h => absurd h (by simp))
                exact ⟨_, _, _, _, _, rfl, (JJ7.out.gr ((gv1.trans (x2.gr.trans y3.gr)).trans HP.out.gr))⟩
              · refine RStep.yes 34 false rfl rfl (by decide +kernel) rfl rfl (fun ac wk hp K hK => ?_)
                obtain ⟨u35b, u35p, u35n, u35c, u35m, u35e, u35i, u35o⟩ := hp.get 35 (by decide +kernel) rfl
                have t91_ : ac.tmps[91]?.getD undef = .agg #[.bool u35b, .slice u35p u35n u35c] := slot_is' u35e
                obtain ⟨u36b, u36p, u36n, u36c, u36m, u36e, u36i⟩ := hp.get 36 (by decide +kernel) rfl
                have t92_ : ac.tmps[92]?.getD undef = .agg #[.bool u36b, .slice u36p u36n u36c] := slot_is' u36e
                have HP := Lib.hid hp
                clear hp
                go_simp
                refine (rsame_is u35i u36i true (decide_eq_true (show (Q : Int) = Q from rfl))).mono ?_
                rintro e wk' ⟨rfl, ix⟩
                refine hK.out _ _ ?_ ix (fun h => absurd h (by simp))
                exact rfl
              · refine RStep.yes 34 false rfl rfl (by decide +kernel) rfl rfl (fun ac wk hp K hK => ?_)
                have u37e := hp.get 37 (by decide +kernel) rfl
                have t93_ : ac.tmps[93]?.getD undef = .bool true := slot_is' u37e
                have HP := Lib.hid hp
                clear hp
                go_simp
                refine hK.out _ _ ?_ (Ext.refl _) (fun h => absurd h (by simp))
                exact rfl
              · refine RStep.op rfl rfl (fun ac wk hp K hK => ?_)
                have u34e := hp.get 34 (by decide +kernel) rfl
                have t90_ : ac.tmps[90]?.getD undef = .bool false := slot_is' u34e
                have u38e := hp.get 38 (by decide +kernel) rfl
                have t94_ : ac.tmps[94]?.getD undef = .bool false := slot_is' u38e
                have HP := Lib.hid hp
                clear hp
                go_simp
                refine hK.out _ _ ?_ (Ext.refl _) (fun h => absurd h (by simp))
                exact rfl
              · refine RStep.op rfl rfl (fun ac wk hp K hK => ?_)
                have u39e := hp.get 39 (by decide +kernel) rfl
                have t95_ : ac.tmps[95]?.getD undef = .bool false := slot_is' u39e
                have HP := Lib.hid hp
                clear hp
                go_simp
                refine hK.out _ _ ?_ (Ext.refl _) (fun h => absurd h (by simp))
                exact rfl
              · refine RStep.yes 40 false rfl rfl (by decide +kernel) rfl rfl (fun ac wk hp K hK => ?_)
                have t16_ : ac.tmps[16]?.getD undef = .pointer (some ⟨w2.heap.size + 1, 0, none⟩) := hp.slot 16 rfl rfl
                have c0_ := hp.cell 22 rfl
                have c1_ := hp.cell 23 rfl
                have HP := Lib.hid hp
                clear hp
                go_simp
                refine hK.out _ _ ?_ (Ext.refl _) (fun h => absurd h (by simp))
                exact ⟨_, _, _, _, _, rfl, (e55r.gr (y3.gr.trans HP.out.gr)), ((o55r.gr (y3.gr.trans HP.out.gr)).mono e1_.size)⟩
              · refine RStep.yes 40 false rfl rfl (by decide +kernel) rfl rfl (fun ac wk hp K hK => ?_)
                have t8_ : ac.tmps[8]?.getD undef = .pointer (some ⟨sb8, 0, none⟩) := hp.slot 8 rfl rfl
                have c0_ := hp.cell 10 rfl
                have c1_ := hp.cell 11 rfl
                have HP := Lib.hid hp
                clear hp
                go_simp
                refine hK.out _ _ ?_ (Ext.refl _) (fun h => absurd h (by simp))
                exact ⟨_, _, _, _, _, rfl, (JJ8.out.gr ((gv1.trans (x2.gr.trans y3.gr)).trans HP.out.gr))⟩
              · refine RStep.yes 40 false rfl rfl (by decide +kernel) rfl rfl (fun ac wk hp K hK => ?_)
                obtain ⟨u41b, u41p, u41n, u41c, u41m, u41e, u41i, u41o⟩ := hp.get 41 (by decide +kernel) rfl
                have t97_ : ac.tmps[97]?.getD undef = .agg #[.bool u41b, .slice u41p u41n u41c] := slot_is' u41e
                obtain ⟨u42b, u42p, u42n, u42c, u42m, u42e, u42i⟩ := hp.get 42 (by decide +kernel) rfl
                have t98_ : ac.tmps[98]?.getD undef = .agg #[.bool u42b, .slice u42p u42n u42c] := slot_is' u42e
                have HP := Lib.hid hp
                clear hp
                go_simp
                refine (rsame_is u41i u42i true (decide_eq_true (show (R : Int) = R from rfl))).mono ?_
                rintro e wk' ⟨rfl, ix⟩
                refine hK.out _ _ ?_ ix (fun h => absurd h (by simp))
                exact rfl
              · refine RStep.yes 40 false rfl rfl (by decide +kernel) rfl rfl (fun ac wk hp K hK => ?_)
                have u43e := hp.get 43 (by decide +kernel) rfl
                have t99_ : ac.tmps[99]?.getD undef = .bool true := slot_is' u43e
                have HP := Lib.hid hp
                clear hp
                go_simp
                refine hK.out _ _ ?_ (Ext.refl _) (fun h => absurd h (by simp))
                exact rfl
              · refine RStep.op rfl rfl (fun ac wk hp K hK => ?_)
                have u40e := hp.get 40 (by decide +kernel) rfl
                have t96_ : ac.tmps[96]?.getD undef = .bool false := slot_is' u40e
                have u44e := hp.get 44 (by decide +kernel) rfl
                have t100_ : ac.tmps[100]?.getD undef = .bool false := slot_is' u44e
                have HP := Lib.hid hp
                clear hp
                go_simp
                refine hK.out _ _ ?_ (Ext.refl _) (fun h => absurd h (by simp))
                exact rfl
              · refine RStep.op rfl rfl (fun ac wk hp K hK => ?_)
                have u45e := hp.get 45 (by decide +kernel) rfl
                have t101_ : ac.tmps[101]?.getD undef = .bool false := slot_is' u45e
                have HP := Lib.hid hp
                clear hp
                go_simp
                refine hK.out _ _ ?_ (Ext.refl _) (fun h => absurd h (by simp))
                exact rfl
              · refine RStep.yes 46 false rfl rfl (by decide +kernel) rfl rfl (fun ac wk hp K hK => ?_)
                have t2_ : ac.tmps[2]?.getD undef = .pointer (some ⟨sb2, 0, none⟩) := hp.slot 2 rfl rfl
                have c0_ := hp.cell 0 rfl
                have c1_ := hp.cell 1 rfl
                have HP := Lib.hid hp
                clear hp
                go_simp
                refine hK.out _ _ ?_ (Ext.refl _) (fun h => absurd h (by simp))
                exact rfl
              · refine RStep.yes 46 false rfl rfl (by decide +kernel) rfl rfl (fun ac wk hp K hK => ?_)
                have t5_ : ac.tmps[5]?.getD undef = .pointer (some ⟨sb5, 0, none⟩) := hp.slot 5 rfl rfl
                have c0_ := hp.cell 4 rfl
                have c1_ := hp.cell 5 rfl
                have HP := Lib.hid hp
                clear hp
                go_simp
                refine hK.out _ _ ?_ (Ext.refl _) (fun h => absurd h (by simp))
                exact rfl
              · refine RStep.yes 46 false rfl rfl (by decide +kernel) rfl rfl (fun ac wk hp K hK => ?_)
                have u47e := hp.get 47 (by decide +kernel) rfl
                have t103_ : ac.tmps[103]?.getD undef = .agg #[.bool n0, .slice p0 A0.length q0] := slot_is' u47e
                have u48e := hp.get 48 (by decide +kernel) rfl
                have t104_ : ac.tmps[104]?.getD undef = .agg #[.bool n0, .slice y2_1p y2_1n y2_1c] := slot_is' u48e
                have HP := Lib.hid hp
                clear hp
                go_simp
                refine (rsame_raw (G0.out.gr ((gv1.trans (x2.gr.trans y3.gr)).trans HP.out.gr)) (LL5.out.gr ((gv1.trans (x2.gr.trans y3.gr)).trans HP.out.gr))).mono ?_
                rintro e wk' ⟨rfl, ix⟩
                refine hK.out _ _ ?_ ix (fun h => absurd h (by simp))
                exact rfl
              · refine RStep.yes 46 false rfl rfl (by decide +kernel) rfl rfl (fun ac wk hp K hK => ?_)
                have u49e := hp.get 49 (by decide +kernel) rfl
                have t105_ : ac.tmps[105]?.getD undef = .bool true := slot_is' u49e
                have HP := Lib.hid hp
                clear hp
                go_simp
                refine hK.out _ _ ?_ (Ext.refl _) (fun h => absurd h (by simp))
                exact rfl
              · refine RStep.op rfl rfl (fun ac wk hp K hK => ?_)
                have u46e := hp.get 46 (by decide +kernel) rfl
                have t102_ : ac.tmps[102]?.getD undef = .bool false := slot_is' u46e
                have u50e := hp.get 50 (by decide +kernel) rfl
                have t106_ : ac.tmps[106]?.getD undef = .bool false := slot_is' u50e
                have HP := Lib.hid hp
                clear hp
                go_simp
                refine hK.out _ _ ?_ (Ext.refl _) (fun h => absurd h (by simp))
                exact rfl
              · refine RStep.op rfl rfl (fun ac wk hp K hK => ?_)
                have u51e := hp.get 51 (by decide +kernel) rfl
                have t107_ : ac.tmps[107]?.getD undef = .bool false := slot_is' u51e
                have HP := Lib.hid hp
                clear hp
                go_simp
                refine hK.out _ _ ?_ (Ext.refl _) (fun h => absurd h (by simp))
                exact rfl
              · refine RStep.yes 52 false rfl rfl (by decide +kernel) rfl rfl (fun ac wk hp K hK => ?_)
                have t3_ : ac.tmps[3]?.getD undef = .pointer (some ⟨sb3, 0, none⟩) := hp.slot 3 rfl rfl
                have c0_ := hp.cell 2 rfl
                have c1_ := hp.cell 3 rfl
                have HP := Lib.hid hp
                clear hp
                go_simp
                refine hK.out _ _ ?_ (Ext.refl _) (fun h => absurd h (by simp))
                exact rfl
              · refine RStep.yes 52 false rfl rfl (by decide +kernel) rfl rfl (fun ac wk hp K hK => ?_)
                have t6_ : ac.tmps[6]?.getD undef = .pointer (some ⟨sb6, 0, none⟩) := hp.slot 6 rfl rfl
                have c0_ := hp.cell 6 rfl
                have c1_ := hp.cell 7 rfl
                have HP := Lib.hid hp
                clear hp
                go_simp
                refine hK.out _ _ ?_ (Ext.refl _) (fun h => absurd h (by simp))
                exact rfl
              · refine RStep.yes 52 false rfl rfl (by decide +kernel) rfl rfl (fun ac wk hp K hK => ?_)
                have u53e := hp.get 53 (by decide +kernel) rfl
                have t109_ : ac.tmps[109]?.getD undef = .agg #[.bool n1, .slice p1 A1.length q1] := slot_is' u53e
                have u54e := hp.get 54 (by decide +kernel) rfl
                have t110_ : ac.tmps[110]?.getD undef = .agg #[.bool n1, .slice y2_3p y2_3n y2_3c] := slot_is' u54e
                have HP := Lib.hid hp
                clear hp
                go_simp
                refine (rsame_raw (G1.out.gr ((gv1.trans (x2.gr.trans y3.gr)).trans HP.out.gr)) (LL6.out.gr ((gv1.trans (x2.gr.trans y3.gr)).trans HP.out.gr))).mono ?_
                rintro e wk' ⟨rfl, ix⟩
                refine hK.out _ _ ?_ ix (fun h => absurd h (by simp))
                exact rfl
              · refine RStep.yes 52 false rfl rfl (by decide +kernel) rfl rfl (fun ac wk hp K hK => ?_)
                have u55e := hp.get 55 (by decide +kernel) rfl
                have t111_ : ac.tmps[111]?.getD undef = .bool true := slot_is' u55e
                have HP := Lib.hid hp
                clear hp
                go_simp
                refine hK.out _ _ ?_ (Ext.refl _) (fun h => absurd h (by simp))
                exact rfl
              · refine RStep.op rfl rfl (fun ac wk hp K hK => ?_)
                have u52e := hp.get 52 (by decide +kernel) rfl
                have t108_ : ac.tmps[108]?.getD undef = .bool false := slot_is' u52e
                have u56e := hp.get 56 (by decide +kernel) rfl
                have t112_ : ac.tmps[112]?.getD undef = .bool false := slot_is' u56e
                have HP := Lib.hid hp
                clear hp
                go_simp
                refine hK.out _ _ ?_ (Ext.refl _) (fun h => absurd h (by simp))
                exact rfl
            case he =>
              intro ac v4 hM
              obtain ⟨y52_0b, y52_0p, y52_0n, y52_0c, y52_0m, y52_0e, y52_0i, y52_0o⟩ := hM.post 0 rfl rfl
              have y52_1e := hM.post 1 rfl rfl
              obtain ⟨y52_2b, y52_2p, y52_2n, y52_2c, y52_2m, y52_2e, y52_2i⟩ := hM.post 2 rfl rfl
              have y52_3e := hM.post 3 rfl rfl
              have y52_4e := hM.post 4 rfl rfl
              have y52_5e := hM.post 5 rfl rfl
              obtain ⟨y52_6b, y52_6p, y52_6n, y52_6c, y52_6m, y52_6e, y52_6i, y52_6o⟩ := hM.post 6 rfl rfl
              have y52_7e := hM.post 7 rfl rfl
              have y52_8e := hM.post 8 rfl rfl
              obtain ⟨y52_9b, y52_9p, y52_9n, y52_9c, y52_9m, y52_9e, y52_9i⟩ := hM.post 9 rfl rfl
              have y52_10e := hM.post 10 rfl rfl
              have y52_11e := hM.post 11 rfl rfl
              have y52_12e := hM.post 12 rfl rfl
              have y52_13e := hM.post 13 rfl rfl
              obtain ⟨y52_14b, y52_14p, y52_14n, y52_14c, y52_14m, y52_14e, y52_14i, y52_14o⟩ := hM.post 14 rfl rfl
              have y52_15e := hM.post 15 rfl rfl
              have y52_16e := hM.post 16 rfl rfl
              obtain ⟨y52_17b, y52_17p, y52_17n, y52_17c, y52_17m, y52_17e, y52_17i⟩ := hM.post 17 rfl rfl
              have y52_18e := hM.post 18 rfl rfl
              have y52_19e := hM.post 19 rfl rfl
              have y52_20e := hM.post 20 rfl rfl
              have y52_21e := hM.post 21 rfl rfl
              obtain ⟨y52_22b, y52_22p, y52_22n, y52_22c, y52_22m, y52_22e, y52_22i, y52_22o⟩ := hM.post 22 rfl rfl
              have y52_23e := hM.post 23 rfl rfl
              have y52_24e := hM.post 24 rfl rfl
              obtain ⟨y52_25b, y52_25p, y52_25n, y52_25c, y52_25m, y52_25e, y52_25i⟩ := hM.post 25 rfl rfl
              have y52_26e := hM.post 26 rfl rfl
              have y52_27e := hM.post 27 rfl rfl
              have y52_28e := hM.post 28 rfl rfl
              have y52_29e := hM.post 29 rfl rfl
              have y52_30e := hM.post 30 rfl rfl
              have y52_31e := hM.post 31 rfl rfl
              have y52_32e := hM.post 32 rfl rfl
              have y52_33e := hM.post 33 rfl rfl
              have y52_34e := hM.post 34 rfl rfl
              obtain ⟨y52_35b, y52_35p, y52_35n, y52_35c, y52_35m, y52_35e, y52_35i, y52_35o⟩ := hM.post 35 rfl rfl
              obtain ⟨y52_36b, y52_36p, y52_36n, y52_36c, y52_36m, y52_36e, y52_36i⟩ := hM.post 36 rfl rfl
              have y52_37e := hM.post 37 rfl rfl
              have y52_38e := hM.post 38 rfl rfl
              have y52_39e := hM.post 39 rfl rfl
              have y52_40e := hM.post 40 rfl rfl
              obtain ⟨y52_41b, y52_41p, y52_41n, y52_41c, y52_41m, y52_41e, y52_41i, y52_41o⟩ := hM.post 41 rfl rfl
              obtain ⟨y52_42b, y52_42p, y52_42n, y52_42c, y52_42m, y52_42e, y52_42i⟩ := hM.post 42 rfl rfl
              have y52_43e := hM.post 43 rfl rfl
              have y52_44e := hM.post 44 rfl rfl
              have y52_45e := hM.post 45 rfl rfl
              have y52_46e := hM.post 46 rfl rfl
              have y52_47e := hM.post 47 rfl rfl
              have y52_48e := hM.post 48 rfl rfl
              have y52_49e := hM.post 49 rfl rfl
              have y52_50e := hM.post 50 rfl rfl
              have y52_51e := hM.post 51 rfl rfl
              have y52_52e := hM.post 52 rfl rfl
              have y52_53e := hM.post 53 rfl rfl
              have y52_54e := hM.post 54 rfl rfl
              have y52_55e := hM.post 55 rfl rfl
              have y52_56e := hM.post 56 rfl rfl
              have y52_57e := hM.post 57 rfl rfl
              have b102_0 : Hid (At (sb2) 0 (.bool n0) v4) := Lib.hid (hM.keep.at 0 rfl)
              have b102_1 : Hid (At (sb2) 1 (.slice p0 A0.length q0) v4) := Lib.hid (hM.keep.at 1 rfl)
              have b103_0 : Hid (At (sb3) 0 (.bool n1) v4) := Lib.hid (hM.keep.at 2 rfl)
              have b103_1 : Hid (At (sb3) 1 (.slice p1 A1.length q1) v4) := Lib.hid (hM.keep.at 3 rfl)
              have b105_0 : Hid (At (sb5) 0 (.bool n0) v4) := Lib.hid (hM.keep.at 4 rfl)
              have b105_1 : Hid (At (sb5) 1 (.slice y2_1p y2_1n y2_1c) v4) := Lib.hid (hM.keep.at 5 rfl)
              have b106_0 : Hid (At (sb6) 0 (.bool n1) v4) := Lib.hid (hM.keep.at 6 rfl)
              have b106_1 : Hid (At (sb6) 1 (.slice y2_3p y2_3n y2_3c) v4) := Lib.hid (hM.keep.at 7 rfl)
              have b107_0 : Hid (At (sb7) 0 (.bool sb4) v4) := Lib.hid (hM.keep.at 8 rfl)
              have b107_1 : Hid (At (sb7) 1 (.slice sp4q sl4q sc4q) v4) := Lib.hid (hM.keep.at 9 rfl)
              have b108_0 : Hid (At (sb8) 0 (.bool false) v4) := Lib.hid (hM.keep.at 10 rfl)
              have b108_1 : Hid (At (sb8) 1 (.slice sp4r sl4r sc4r) v4) := Lib.hid (hM.keep.at 11 rfl)
              have b300_0 : Hid (At (y51_11s) 0 (.bool y51_1b) v4) := Lib.hid (hM.keep.at 12 rfl)
              have b300_1 : Hid (At (y51_11s) 1 (.slice y51_1p y51_1n y51_1c) v4) := Lib.hid (hM.keep.at 13 rfl)
              have b301_0 : Hid (At (y51_12s) 0 (.bool y51_4b) v4) := Lib.hid (hM.keep.at 14 rfl)
              have b301_1 : Hid (At (y51_12s) 1 (.slice y51_4p y51_4n y51_4c) v4) := Lib.hid (hM.keep.at 15 rfl)
              have b302_0 : Hid (At (y51_13s) 0 (.bool y51_7b) v4) := Lib.hid (hM.keep.at 16 rfl)
              have b302_1 : Hid (At (y51_13s) 1 (.slice y51_7p y51_7n y51_7c) v4) := Lib.hid (hM.keep.at 17 rfl)
              have b303_0 : Hid (At (y51_14s) 0 (.bool y51_10b) v4) := Lib.hid (hM.keep.at 18 rfl)
              have b303_1 : Hid (At (y51_14s) 1 (.slice y51_10p y51_10n y51_10c) v4) := Lib.hid (hM.keep.at 19 rfl)
              have b304_0 : Hid (At (w2.heap.size) 0 (.bool sb55) v4) := Lib.hid (hM.keep.at 20 rfl)
              have b304_1 : Hid (At (w2.heap.size) 1 (.slice sp55q sl55q sc55q) v4) := Lib.hid (hM.keep.at 21 rfl)
              have b305_0 : Hid (At (w2.heap.size + 1) 0 (.bool false) v4) := Lib.hid (hM.keep.at 22 rfl)
              have b305_1 : Hid (At (w2.heap.size + 1) 1 (.slice sp55r sl55r sc55r) v4) := Lib.hid (hM.keep.at 23 rfl)
              have gv4 : Gr v3 v4 := hM.gr
              have e4_ : Ext W4 v4 := Ext.below e3_ hM.blw
              have z0_ : sl ac 56 = .agg #[.bool y52_0b, .slice y52_0p y52_0n y52_0c] := y52_0e
              have z1_ : sl ac 57 = .agg #[.bool n0, .slice p0 A0.length q0] := y52_1e
              have z2_ : sl ac 58 = .agg #[.bool y52_2b, .slice y52_2p y52_2n y52_2c] := y52_2e
              have z3_ : sl ac 59 = .bool true := y52_3e
              have z4_ : sl ac 60 = .bool false := y52_4e
              have z5_ : sl ac 61 = .bool false := y52_5e
              have z6_ : sl ac 62 = .agg #[.bool y52_6b, .slice y52_6p y52_6n y52_6c] := y52_6e
              have z7_ : sl ac 63 = .agg #[.bool n0, .slice p0 A0.length q0] := y52_7e
              have z8_ : sl ac 64 = .agg #[.bool n1, .slice p1 A1.length q1] := y52_8e
              have z9_ : sl ac 65 = .agg #[.bool y52_9b, .slice y52_9p y52_9n y52_9c] := y52_9e
              have z10_ : sl ac 66 = .bool true := y52_10e
              have z11_ : sl ac 67 = .bool false := y52_11e
              have z12_ : sl ac 68 = .bool false := y52_12e
              have z13_ : sl ac 69 = .bool false := y52_13e
              have z14_ : sl ac 70 = .agg #[.bool y52_14b, .slice y52_14p y52_14n y52_14c] := y52_14e
              have z15_ : sl ac 71 = .agg #[.bool n0, .slice p0 A0.length q0] := y52_15e
              have z16_ : sl ac 72 = .agg #[.bool n1, .slice p1 A1.length q1] := y52_16e
              have z17_ : sl ac 73 = .agg #[.bool y52_17b, .slice y52_17p y52_17n y52_17c] := y52_17e
              have z18_ : sl ac 74 = .bool true := y52_18e
              have z19_ : sl ac 75 = .bool false := y52_19e
              have z20_ : sl ac 76 = .bool false := y52_20e
              have z21_ : sl ac 77 = .bool false := y52_21e
              have z22_ : sl ac 78 = .agg #[.bool y52_22b, .slice y52_22p y52_22n y52_22c] := y52_22e
              have z23_ : sl ac 79 = .agg #[.bool n0, .slice p0 A0.length q0] := y52_23e
              have z24_ : sl ac 80 = .agg #[.bool n1, .slice p1 A1.length q1] := y52_24e
              have z25_ : sl ac 81 = .agg #[.bool y52_25b, .slice y52_25p y52_25n y52_25c] := y52_25e
              have z26_ : sl ac 82 = .bool true := y52_26e
              have z27_ : sl ac 83 = .bool false := y52_27e
              have z28_ : sl ac 84 = .bool false := y52_28e
              have z29_ : sl ac 85 = .bool false := y52_29e
              have z30_ : sl ac 86 = .int .i64 KE := y52_30e
              have z31_ : sl ac 87 = .int .i64 KE := y52_31e
              have z32_ : sl ac 88 = .bool false := y52_32e
              have z33_ : sl ac 89 = .bool false := y52_33e
              have z34_ : sl ac 90 = .bool false := y52_34e
              have z35_ : sl ac 91 = .agg #[.bool y52_35b, .slice y52_35p y52_35n y52_35c] := y52_35e
              have z36_ : sl ac 92 = .agg #[.bool y52_36b, .slice y52_36p y52_36n y52_36c] := y52_36e
              have z37_ : sl ac 93 = .bool true := y52_37e
              have z38_ : sl ac 94 = .bool false := y52_38e
              have z39_ : sl ac 95 = .bool false := y52_39e
              have z40_ : sl ac 96 = .bool false := y52_40e
              have z41_ : sl ac 97 = .agg #[.bool y52_41b, .slice y52_41p y52_41n y52_41c] := y52_41e
              have z42_ : sl ac 98 = .agg #[.bool y52_42b, .slice y52_42p y52_42n y52_42c] := y52_42e
              have z43_ : sl ac 99 = .bool true := y52_43e
              have z44_ : sl ac 100 = .bool false := y52_44e
              have z45_ : sl ac 101 = .bool false := y52_45e
              have z46_ : sl ac 102 = .bool false := y52_46e
              have z47_ : sl ac 103 = .agg #[.bool n0, .slice p0 A0.length q0] := y52_47e
              have z48_ : sl ac 104 = .agg #[.bool n0, .slice y2_1p y2_1n y2_1c] := y52_48e
              have z49_ : sl ac 105 = .bool true := y52_49e
              have z50_ : sl ac 106 = .bool false := y52_50e
              have z51_ : sl ac 107 = .bool false := y52_51e
              have z52_ : sl ac 108 = .bool false := y52_52e
              have z53_ : sl ac 109 = .agg #[.bool n1, .slice p1 A1.length q1] := y52_53e
              have z54_ : sl ac 110 = .agg #[.bool n1, .slice y2_3p y2_3n y2_3c] := y52_54e
              have z55_ : sl ac 111 = .bool true := y52_55e
              have z56_ : sl ac 112 = .bool false := y52_56e
              have z57_ : sl ac 113 = .bool false := y52_57e
              rw [hM.ag.lay]
              simp only [lay, List.foldl_cons, List.foldl_nil, List.setIfInBounds_toArray, List.set_cons_zero, List.set_cons_succ, z0_, z1_, z2_, z3_, z4_, z5_, z6_, z7_, z8_, z9_, z10_, z11_, z12_, z13_, z14_, z15_, z16_, z17_, z18_, z19_, z20_, z21_, z22_, z23_, z24_, z25_, z26_, z27_, z28_, z29_, z30_, z31_, z32_, z33_, z34_, z35_, z36_, z37_, z38_, z39_, z40_, z41_, z42_, z43_, z44_, z45_, z46_, z47_, z48_, z49_, z50_, z51_, z52_, z53_, z54_, z55_, z56_, z57_]
              clear hM hkeep52 hob52 hne52 z0_ z1_ z2_ z3_ z4_ z5_ z6_ z7_ z8_ z9_ z10_ z11_ z12_ z13_ z14_ z15_ z16_ z17_ z18_ z19_ z20_ z21_ z22_ z23_ z24_ z25_ z26_ z27_ z28_ z29_ z30_ z31_ z32_ z33_ z34_ z35_ z36_ z37_ z38_ z39_ z40_ z41_ z42_ z43_ z44_ z45_ z46_ z47_ z48_ z49_ z50_ z51_ z52_ z53_ z54_ z55_ z56_ z57_ y52_0e y52_1e y52_2e y52_3e y52_4e y52_5e y52_6e y52_7e y52_8e y52_9e y52_10e y52_11e y52_12e y52_13e y52_14e y52_15e y52_16e y52_17e y52_18e y52_19e y52_20e y52_21e y52_22e y52_23e y52_24e y52_25e y52_26e y52_27e y52_28e y52_29e y52_30e y52_31e y52_32e y52_33e y52_34e y52_35e y52_36e y52_37e y52_38e y52_39e y52_40e y52_41e y52_42e y52_43e y52_44e y52_45e y52_46e y52_47e y52_48e y52_49e y52_50e y52_51e y52_52e y52_53e y52_54e y52_55e y52_56e y52_57e
              have g300_0 := b300_0.out.1
              have g300_1 := b300_1.out.1
              have g301_0 := b301_0.out.1
              have g301_1 := b301_1.out.1
              have g302_0 := b302_0.out.1
              have g302_1 := b302_1.out.1
              have g303_0 := b303_0.out.1
              have g303_1 := b303_1.out.1
              have g304_0 := b304_0.out.1
              have g304_1 := b304_1.out.1
              have g305_0 := b305_0.out.1
              have g305_1 := b305_1.out.1
              have f300 : y51_11s < v4.heap.size := b300_0.out.2
              have f301 : y51_12s < v4.heap.size := b301_0.out.2
              have f302 : y51_13s < v4.heap.size := b302_0.out.2
              have f303 : y51_14s < v4.heap.size := b303_0.out.2
              have f304 : w2.heap.size < v4.heap.size := b304_0.out.2
              have f305 : w2.heap.size + 1 < v4.heap.size := b305_0.out.2
              go_wp2_with fail
              refine (spoil6 y51_1b y51_4b y51_7b y51_10b sb55 false (y51_1o.gr (x2.gr.trans (y3.gr.trans gv4))) (y51_4o.gr (x2.gr.trans (y3.gr.trans gv4))) (y51_7o.gr (x2.gr.trans (y3.gr.trans gv4))) (y51_10o.gr (x2.gr.trans (y3.gr.trans gv4))) ((o55q.gr (y3.gr.trans gv4)).mono e1_.size) ((o55r.gr (y3.gr.trans gv4)).mono e1_.size) e4_.size).mono ?_
              rintro e ws ⟨rfl, xs⟩
              have XS : Hid (Ext W4 ws) := Ext.below e4_ xs
              clear xs
              go_wp2_with fail
              exact ⟨⟨i + 1, by first | rfl | go_num, LT.out, XS.out⟩, by simp [intOf]; have := LT.out; omega⟩
        · have t3 : (2 : Int) ≤ (i : Int) := by omega
          have E5 := Lib.hid (EW.out.trans XX.out)
          clear hi hi2
          go_wp2_with fail
          refine (lawake_calls _).mono ?_
          rintro e w1 ⟨rfl, x1⟩
          go_wp2_with fail
          go_ret
          exact ⟨rfl, E5.out.trans x1⟩

end Go.Proofs.YtefeglkbikcjeaaGreatDoor
