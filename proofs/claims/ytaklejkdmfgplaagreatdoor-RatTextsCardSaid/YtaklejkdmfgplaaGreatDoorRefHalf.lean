/- The contracts of tombolaref06.Half, May. -/
import Derived.Test.YtaklejkdmfgplaaGreatDoorRefAdd
namespace Go.Proofs.YtaklejkdmfgplaaGreatDoor
open Go Go.RowKit

set_option maxHeartbeats 4000000 in
set_option maxRecDepth 100000 in
theorem rmay06_raw {w : World} {b : Bool} {v u : Value} {k : Nat} {q : Rat} {A B : List Nat} (hA : Limbs w v A) (hB : Limbs w u B) (hq : mkRat (iv b A) (val B) = q) (hlA : A.length ≤ k) (hlB : B.length ≤ k) (hk1 : 1 ≤ k) (hk : k ≤ 1000) (c : Bool)
    (hc : decide (val B ≠ 0 ∧ decide (q.num < 0) = b ∧ dig q.num.natAbs = A ∧ dig q.den = B) = c) :
    Calls Tryz.prog 35 #[.agg #[.bool b, v, u]] w fun e w' => e = .returned (.bool c) ∧ Ext w w' := by
  have HLR := Lib.hid (lenR_raw hA hB hq hlA hlB hk1)
  obtain ⟨pa, qa, rfl, -, -, -⟩ := hA.open
  obtain ⟨pb, qb, rfl, -, -, -⟩ := hB.open
  have HQ := Lib.hid hq
  have HLA := Lib.hid hlA
  have HLB := Lib.hid hlB
  have HK := Lib.hid hk
  clear hq hlA hlB hk
  by_cases hb0 : val B = 0
  case pos =>
    obtain rfl : c = false := by rw [← hc]; simp [hb0]
    have HB0 := Lib.hid hb0
    clear hb0 hc
    go_enter Tryz.func35, Tryz.ntmps35
    go_wp2_with fail
    obtain ⟨v1, hv1⟩ : ∃ W, W = (w.alloc (.cells #[.bool b, .slice pa A.length qa, .slice pb B.length qb] 36)) := ⟨_, rfl⟩
    have y1 : Ext w v1 := by rw [hv1]; exact ((Ext.refl _).alloc _)
    have b0_0 : Hid (At (w.heap.size) 0 (.bool b) v1) := by rw [hv1]; exact At.ext (At.n0 (by rfl)) (Ext.refl _)
    have b0_1 : Hid (At (w.heap.size) 1 (.slice pa A.length qa) v1) := by rw [hv1]; exact At.ext (At.n0 (by rfl)) (Ext.refl _)
    have b0_2 : Hid (At (w.heap.size) 2 (.slice pb B.length qb) v1) := by rw [hv1]; exact At.ext (At.n0 (by rfl)) (Ext.refl _)
    have k0 : Hid (Bx 3 (w.heap.size) v1) := by rw [hv1]; exact Bx.gr (Bx.n0 3 ⟨rfl, by decide⟩ (by decide) noI_s3) (Ext.gr (Ext.refl _))
    have u0 : Hid (w.heap.size < v1.heap.size) := b0_0.out.2
    have e1_ : Ext w v1 := y1
    rw [← hv1]
    clear hv1
    refine (rmake06_zero ⟨_, (hA.ext y1), rfl, HLA.out⟩ ⟨_, (hB.ext y1), rfl, HLB.out⟩ HB0.out (by have h1 := HK.out; have h2 := HLA.out; have h3 := HLB.out; omega) (by have h1 := HK.out; have h2 := HLA.out; have h3 := HLB.out; omega)).mono ?_
    rintro e w2 ⟨rfl, x2⟩
    have e2_ : Ext w w2 := Ext.trans e1_ x2
    go_wp2_with fail
    obtain ⟨v3, hv3⟩ : ∃ W, W = (w2.alloc (.cells #[.bool false, .slice none 0 0, .slice none 0 0] 36)) := ⟨_, rfl⟩
    have y3 : Ext w2 v3 := by rw [hv3]; exact ((Ext.refl _).alloc _)
    have b1_0 : Hid (At (w2.heap.size) 0 (.bool false) v3) := by rw [hv3]; exact At.ext (At.n0 (by rfl)) (Ext.refl _)
    have b1_1 : Hid (At (w2.heap.size) 1 (.slice none 0 0) v3) := by rw [hv3]; exact At.ext (At.n0 (by rfl)) (Ext.refl _)
    have b1_2 : Hid (At (w2.heap.size) 2 (.slice none 0 0) v3) := by rw [hv3]; exact At.ext (At.n0 (by rfl)) (Ext.refl _)
    have k1 : Hid (Bx 3 (w2.heap.size) v3) := by rw [hv3]; exact Bx.gr (Bx.n0 3 ⟨rfl, by decide⟩ (by decide) noI_s3) (Ext.gr (Ext.refl _))
    have u1 : Hid (w2.heap.size < v3.heap.size) := b1_0.out.2
    have e3_ : Ext w v3 := Ext.trans e2_ y3
    rw [← hv3]
    clear hv3
    have hkeep1 : AllAt' ([(w.heap.size, 0, .bool b), (w.heap.size, 1, .slice pa A.length qa), (w.heap.size, 2, .slice pb B.length qb), (w2.heap.size, 0, .bool false), (w2.heap.size, 1, .slice none 0 0), (w2.heap.size, 2, .slice none 0 0)] : List (Nat × Nat × Value)) v3 := AllAt'.cons (b0_0.out.ext (x2.trans y3)) (AllAt'.cons (b0_1.out.ext (x2.trans y3)) (AllAt'.cons (b0_2.out.ext (x2.trans y3)) (AllAt'.cons b1_0.out (AllAt'.cons b1_1.out (AllAt'.cons b1_2.out (AllAt'.nil _))))))
    have hob1 : ObOk w.heap.size v3 (([(w.heap.size, 0, .bool b), (w.heap.size, 1, .slice pa A.length qa), (w.heap.size, 2, .slice pb B.length qb), (w2.heap.size, 0, .bool false), (w2.heap.size, 1, .slice none 0 0), (w2.heap.size, 2, .slice none 0 0)] : List (Nat × Nat × Value)).map (·.1)) ([] : List (Nat × List (Nat × Value))) := trivial
    have hne1 : AllNe (([] : List (Nat × List (Nat × Value))).map (·.1)) := trivial
    (try simp only [List.append_eq, List.cons_append, List.nil_append])
    refine wp_region_gen ⟨[13, 14, 15, 16, 17, 18, 19, 20, 2], fun i => false, fun i => ([none, none, none, none, none, none, none, none, none] : List (Option (BoxRef × Nat))).getD i none, fun i => ([Sg.val (.int .i64 7), Sg.val (.bool false), Sg.val (.bool false), Sg.val undef, Sg.val undef, Sg.val undef, Sg.val undef, Sg.val (.bool false), Sg.val (.bool false)] : List Sg).getD i Sg.any, [(w.heap.size, 0, .bool b), (w.heap.size, 1, .slice pa A.length qa), (w.heap.size, 2, .slice pb B.length qb), (w2.heap.size, 0, .bool false), (w2.heap.size, 1, .slice none 0 0), (w2.heap.size, 2, .slice none 0 0)], []⟩ w.heap.size (by kernel_rfl) (by kernel_rfl) e3_.size ?hfr hkeep1 hob1 hne1 ?hs ?he
    case hfr =>
      intro i v wk hi hst hv
      exact absurd hi (by simp)
    case hs =>
      refine ⟨?_, ?_, ?_, ?_, ?_, ?_, ?_, ?_, ?_, trivial⟩
      · refine RStep.op rfl rfl (fun ac wk hp K hK => ?_)
        have t4_ : ac.tmps[4]?.getD undef = .int .i64 7 := hp.slot 4 rfl rfl
        have HP := Lib.hid hp
        clear hp
        go_simp
        refine hK.out _ _ ?_ (Ext.refl _) (fun h => absurd h (by simp))
        exact rfl
      · refine RStep.op rfl rfl (fun ac wk hp K hK => ?_)
        have u0e := hp.get 0 (by decide +kernel) rfl
        have t13_ : ac.tmps[13]?.getD undef = .int .i64 7 := slot_is' u0e
        have HP := Lib.hid hp
        clear hp
        go_simp
        refine hK.out _ _ ?_ (Ext.refl _) (fun h => absurd h (by simp))
        exact rfl
      · refine RStep.op rfl rfl (fun ac wk hp K hK => ?_)
        have u1e := hp.get 1 (by decide +kernel) rfl
        have t14_ : ac.tmps[14]?.getD undef = .bool false := slot_is' u1e
        have HP := Lib.hid hp
        clear hp
        go_simp
        refine hK.out _ _ ?_ (Ext.refl _) (fun h => absurd h (by simp))
        exact rfl
      · exact RStep.no 2 true rfl rfl (by decide +kernel) rfl (.inl rfl) rfl rfl
      · exact RStep.no 2 true rfl rfl (by decide +kernel) rfl (.inl rfl) rfl rfl
      · exact RStep.no 2 true rfl rfl (by decide +kernel) rfl (.inl rfl) rfl rfl
      · exact RStep.no 2 true rfl rfl (by decide +kernel) rfl (.inl rfl) rfl rfl
      · refine RStep.op rfl rfl (fun ac wk hp K hK => ?_)
        have u2e := hp.get 2 (by decide +kernel) rfl
        have t15_ : ac.tmps[15]?.getD undef = .bool false := slot_is' u2e
        have u6e := hp.get 6 (by decide +kernel) rfl
        have t19_ : ac.tmps[19]?.getD undef = undef := slot_is' u6e
        have HP := Lib.hid hp
        clear hp
        go_simp
        refine hK.out _ _ ?_ (Ext.refl _) (fun h => absurd h (by simp))
        exact rfl
      · refine RStep.op rfl rfl (fun ac wk hp K hK => ?_)
        have u7e := hp.get 7 (by decide +kernel) rfl
        have t20_ : ac.tmps[20]?.getD undef = .bool false := slot_is' u7e
        have HP := Lib.hid hp
        clear hp
        go_simp
        refine hK.out _ _ ?_ (Ext.refl _) (fun h => absurd h (by simp))
        exact rfl
    case he =>
      intro ac v4 hM
      have y1_0e := hM.post 0 rfl rfl
      have y1_1e := hM.post 1 rfl rfl
      have y1_2e := hM.post 2 rfl rfl
      have y1_3e := hM.post 3 rfl rfl
      have y1_4e := hM.post 4 rfl rfl
      have y1_5e := hM.post 5 rfl rfl
      have y1_6e := hM.post 6 rfl rfl
      have y1_7e := hM.post 7 rfl rfl
      have y1_8e := hM.post 8 rfl rfl
      have b0_0 : Hid (At (w.heap.size) 0 (.bool b) v4) := Lib.hid (hM.keep.at 0 rfl)
      have b0_1 : Hid (At (w.heap.size) 1 (.slice pa A.length qa) v4) := Lib.hid (hM.keep.at 1 rfl)
      have b0_2 : Hid (At (w.heap.size) 2 (.slice pb B.length qb) v4) := Lib.hid (hM.keep.at 2 rfl)
      have b1_0 : Hid (At (w2.heap.size) 0 (.bool false) v4) := Lib.hid (hM.keep.at 3 rfl)
      have b1_1 : Hid (At (w2.heap.size) 1 (.slice none 0 0) v4) := Lib.hid (hM.keep.at 4 rfl)
      have b1_2 : Hid (At (w2.heap.size) 2 (.slice none 0 0) v4) := Lib.hid (hM.keep.at 5 rfl)
      have gv4 : Gr v3 v4 := hM.gr
      have e4_ : Ext w v4 := Ext.below e3_ hM.blw
      have z0_ : sl ac 13 = .int .i64 7 := y1_0e
      have z1_ : sl ac 14 = .bool false := y1_1e
      have z2_ : sl ac 15 = .bool false := y1_2e
      have z3_ : sl ac 16 = undef := y1_3e
      have z4_ : sl ac 17 = undef := y1_4e
      have z5_ : sl ac 18 = undef := y1_5e
      have z6_ : sl ac 19 = undef := y1_6e
      have z7_ : sl ac 20 = .bool false := y1_7e
      have z8_ : sl ac 2 = .bool false := y1_8e
      rw [hM.ag.lay]
      simp only [lay, List.foldl_cons, List.foldl_nil, List.setIfInBounds_toArray, List.set_cons_zero, List.set_cons_succ, z0_, z1_, z2_, z3_, z4_, z5_, z6_, z7_, z8_]
      clear hM hkeep1 hob1 hne1 z0_ z1_ z2_ z3_ z4_ z5_ z6_ z7_ z8_ y1_0e y1_1e y1_2e y1_3e y1_4e y1_5e y1_6e y1_7e y1_8e
      go_wp2_with fail
      go_ret
      exact ⟨rfl, e4_⟩
  case neg =>
    have HC : Hid (decide (b = decide (q.num < 0) ∧ A = dig q.num.natAbs ∧ B = dig q.den) = c) := by
      show _ = _
      rw [← hc, decide_eq_decide]
      exact ⟨fun ⟨h1, h2, h3⟩ => ⟨hb0, h1.symm, h2.symm, h3.symm⟩, fun ⟨_, h1, h2, h3⟩ => ⟨h1.symm, h2.symm, h3.symm⟩⟩
    have HB0 : Hid (val B ≠ 0) := hb0
    clear hb0 hc
    go_enter Tryz.func35, Tryz.ntmps35
    go_wp2_with fail
    obtain ⟨v1, hv1⟩ : ∃ W, W = (w.alloc (.cells #[.bool b, .slice pa A.length qa, .slice pb B.length qb] 36)) := ⟨_, rfl⟩
    have y1 : Ext w v1 := by rw [hv1]; exact ((Ext.refl _).alloc _)
    have b0_0 : Hid (At (w.heap.size) 0 (.bool b) v1) := by rw [hv1]; exact At.ext (At.n0 (by rfl)) (Ext.refl _)
    have b0_1 : Hid (At (w.heap.size) 1 (.slice pa A.length qa) v1) := by rw [hv1]; exact At.ext (At.n0 (by rfl)) (Ext.refl _)
    have b0_2 : Hid (At (w.heap.size) 2 (.slice pb B.length qb) v1) := by rw [hv1]; exact At.ext (At.n0 (by rfl)) (Ext.refl _)
    have k0 : Hid (Bx 3 (w.heap.size) v1) := by rw [hv1]; exact Bx.gr (Bx.n0 3 ⟨rfl, by decide⟩ (by decide) noI_s3) (Ext.gr (Ext.refl _))
    have u0 : Hid (w.heap.size < v1.heap.size) := b0_0.out.2
    have e1_ : Ext w v1 := y1
    rw [← hv1]
    clear hv1
    refine (rmake06_is (q := q) ⟨_, (hA.ext y1), rfl, HLA.out⟩ ⟨_, (hB.ext y1), rfl, HLB.out⟩ HB0.out (by have h1 := HK.out; have h2 := HLA.out; have h3 := HLB.out; omega) (by have h1 := HK.out; have h2 := HLA.out; have h3 := HLB.out; omega) HQ.out).mono ?_
    rintro e w2 ⟨sb1, sv1, su1, sm1, sd1, rfl, e1, o1, x2⟩
    have e2_ : Ext w w2 := Ext.trans e1_ x2
    obtain ⟨sp1, sl1, sc1, tp1, tl1, tc1, rfl, rfl⟩ := e1.slice
    go_wp2_with fail
    obtain ⟨v3, hv3⟩ : ∃ W, W = (w2.alloc (.cells #[.bool sb1, .slice sp1 sl1 sc1, .slice tp1 tl1 tc1] 36)) := ⟨_, rfl⟩
    have y3 : Ext w2 v3 := by rw [hv3]; exact ((Ext.refl _).alloc _)
    have b1_0 : Hid (At (w2.heap.size) 0 (.bool sb1) v3) := by rw [hv3]; exact At.ext (At.n0 (by rfl)) (Ext.refl _)
    have b1_1 : Hid (At (w2.heap.size) 1 (.slice sp1 sl1 sc1) v3) := by rw [hv3]; exact At.ext (At.n0 (by rfl)) (Ext.refl _)
    have b1_2 : Hid (At (w2.heap.size) 2 (.slice tp1 tl1 tc1) v3) := by rw [hv3]; exact At.ext (At.n0 (by rfl)) (Ext.refl _)
    have k1 : Hid (Bx 3 (w2.heap.size) v3) := by rw [hv3]; exact Bx.gr (Bx.n0 3 ⟨rfl, by decide⟩ (by decide) noI_s3) (Ext.gr (Ext.refl _))
    have u1 : Hid (w2.heap.size < v3.heap.size) := b1_0.out.2
    have e3_ : Ext w v3 := Ext.trans e2_ y3
    rw [← hv3]
    clear hv3
    have hkeep1 : AllAt' ([(w.heap.size, 0, .bool b), (w.heap.size, 1, .slice pa A.length qa), (w.heap.size, 2, .slice pb B.length qb), (w2.heap.size, 0, .bool sb1), (w2.heap.size, 1, .slice sp1 sl1 sc1), (w2.heap.size, 2, .slice tp1 tl1 tc1)] : List (Nat × Nat × Value)) v3 := AllAt'.cons (b0_0.out.ext (x2.trans y3)) (AllAt'.cons (b0_1.out.ext (x2.trans y3)) (AllAt'.cons (b0_2.out.ext (x2.trans y3)) (AllAt'.cons b1_0.out (AllAt'.cons b1_1.out (AllAt'.cons b1_2.out (AllAt'.nil _))))))
    have hob1 : ObOk w.heap.size v3 (([(w.heap.size, 0, .bool b), (w.heap.size, 1, .slice pa A.length qa), (w.heap.size, 2, .slice pb B.length qb), (w2.heap.size, 0, .bool sb1), (w2.heap.size, 1, .slice sp1 sl1 sc1), (w2.heap.size, 2, .slice tp1 tl1 tc1)] : List (Nat × Nat × Value)).map (·.1)) ([] : List (Nat × List (Nat × Value))) := trivial
    have hne1 : AllNe (([] : List (Nat × List (Nat × Value))).map (·.1)) := trivial
    (try simp only [List.append_eq, List.cons_append, List.nil_append])
    refine wp_region_gen ⟨[13, 14, 15, 16, 17, 18, 19, 20, 2], fun i => false, fun i => ([none, none, none, none, none, none, none, none, none] : List (Option (BoxRef × Nat))).getD i none, fun i => ([Sg.val (.int .i64 0), Sg.val (.bool true), Sg.val (.bool true), Sg.val (.agg #[.bool b, .slice pa A.length qa, .slice pb B.length qb]), Sg.val (.agg #[.bool b, .slice pa A.length qa, .slice pb B.length qb]), Sg.ratO w.heap.size q, Sg.val (.bool c), Sg.val (.bool c), Sg.val (.bool c)] : List Sg).getD i Sg.any, [(w.heap.size, 0, .bool b), (w.heap.size, 1, .slice pa A.length qa), (w.heap.size, 2, .slice pb B.length qb), (w2.heap.size, 0, .bool sb1), (w2.heap.size, 1, .slice sp1 sl1 sc1), (w2.heap.size, 2, .slice tp1 tl1 tc1)], []⟩ w.heap.size (by kernel_rfl) (by kernel_rfl) e3_.size ?hfr hkeep1 hob1 hne1 ?hs ?he
    case hfr =>
      intro i v wk hi hst hv
      exact absurd hi (by simp)
    case hs =>
      refine ⟨?_, ?_, ?_, ?_, ?_, ?_, ?_, ?_, ?_, trivial⟩
      · refine RStep.op rfl rfl (fun ac wk hp K hK => ?_)
        have t4_ : ac.tmps[4]?.getD undef = .int .i64 0 := hp.slot 4 rfl rfl
        have HP := Lib.hid hp
        clear hp
        go_simp
        refine hK.out _ _ ?_ (Ext.refl _) (fun h => absurd h (by simp))
        exact rfl
      · refine RStep.op rfl rfl (fun ac wk hp K hK => ?_)
        have u0e := hp.get 0 (by decide +kernel) rfl
        have t13_ : ac.tmps[13]?.getD undef = .int .i64 0 := slot_is' u0e
        have HP := Lib.hid hp
        clear hp
        go_simp
        refine hK.out _ _ ?_ (Ext.refl _) (fun h => absurd h (by simp))
        exact rfl
      · refine RStep.op rfl rfl (fun ac wk hp K hK => ?_)
        have u1e := hp.get 1 (by decide +kernel) rfl
        have t14_ : ac.tmps[14]?.getD undef = .bool true := slot_is' u1e
        have HP := Lib.hid hp
        clear hp
        go_simp
        refine hK.out _ _ ?_ (Ext.refl _) (fun h => absurd h (by simp))
        exact rfl
      · refine RStep.yes 2 true rfl rfl (by decide +kernel) rfl rfl (fun ac wk hp K hK => ?_)
        have t1_ : ac.tmps[1]?.getD undef = .pointer (some ⟨w.heap.size, 0, none⟩) := hp.slot 1 rfl rfl
        have c0_ := hp.cell 0 rfl
        have c1_ := hp.cell 1 rfl
        have c2_ := hp.cell 2 rfl
        have HP := Lib.hid hp
        clear hp
        go_simp
        refine hK.out _ _ ?_ (Ext.refl _) (fun h => absurd h (by simp))
        exact rfl
      · refine RStep.yes 2 true rfl rfl (by decide +kernel) rfl rfl (fun ac wk hp K hK => ?_)
        have t1_ : ac.tmps[1]?.getD undef = .pointer (some ⟨w.heap.size, 0, none⟩) := hp.slot 1 rfl rfl
        have c0_ := hp.cell 0 rfl
        have c1_ := hp.cell 1 rfl
        have c2_ := hp.cell 2 rfl
        have HP := Lib.hid hp
        clear hp
        go_simp
        refine hK.out _ _ ?_ (Ext.refl _) (fun h => absurd h (by simp))
        exact rfl
      · refine RStep.yes 2 true rfl rfl (by decide +kernel) rfl rfl (fun ac wk hp K hK => ?_)
        have u4e := hp.get 4 (by decide +kernel) rfl
        have t17_ : ac.tmps[17]?.getD undef = .agg #[.bool b, .slice pa A.length qa, .slice pb B.length qb] := slot_is' u4e
        have HP := Lib.hid hp
        clear hp
        go_simp
        refine (count06_is ⟨_, _, (hA.gr ((y1.gr.trans (x2.gr.trans y3.gr)).trans HP.out.gr)), (hB.gr ((y1.gr.trans (x2.gr.trans y3.gr)).trans HP.out.gr)), HQ.out, HLA.out, HLB.out, hk1⟩ (by have h1 := HK.out; have h2 := HLA.out; have h3 := HLB.out; omega)).mono ?_
        rintro e wk' ⟨sb2, sv2, su2, sm2, sd2, rfl, e2, o2, ix⟩
        obtain ⟨sp2, sl2, sc2, tp2, tl2, tc2, rfl, rfl⟩ := e2.slice
        refine hK.out _ _ ?_ ix (fun h => absurd h (by simp))
        exact ⟨_, _, _, _, _, _, _, _, _, rfl, e2, (o2.mono (Nat.le_trans e3_.size HP.out.gr.size))⟩
      · refine RStep.yes 2 true rfl rfl (by decide +kernel) rfl rfl (fun ac wk hp K hK => ?_)
        have u3e := hp.get 3 (by decide +kernel) rfl
        have t16_ : ac.tmps[16]?.getD undef = .agg #[.bool b, .slice pa A.length qa, .slice pb B.length qb] := slot_is' u3e
        obtain ⟨u5b, u5p, u5n, u5c, u5q, u5k, u5d, u5m, u5l, u5e, u5i, u5o⟩ := hp.get 5 (by decide +kernel) rfl
        have t18_ : ac.tmps[18]?.getD undef = .agg #[.bool u5b, .slice u5p u5n u5c, .slice u5q u5k u5d] := slot_is' u5e
        have HP := Lib.hid hp
        clear hp
        go_simp
        refine (is_raw (hA.gr ((y1.gr.trans (x2.gr.trans y3.gr)).trans HP.out.gr)) (hB.gr ((y1.gr.trans (x2.gr.trans y3.gr)).trans HP.out.gr)) u5i.2.2.2.1 u5i.2.2.2.2 b u5b c (by rw [← u5i.1, ← u5i.2.1, ← u5i.2.2.1]; exact HC.out)).mono ?_
        rintro e wk' ⟨rfl, ix⟩
        refine hK.out _ _ ?_ ix (fun h => absurd h (by simp))
        exact rfl
      · refine RStep.op rfl rfl (fun ac wk hp K hK => ?_)
        have u2e := hp.get 2 (by decide +kernel) rfl
        have t15_ : ac.tmps[15]?.getD undef = .bool true := slot_is' u2e
        have u6e := hp.get 6 (by decide +kernel) rfl
        have t19_ : ac.tmps[19]?.getD undef = .bool c := slot_is' u6e
        have HP := Lib.hid hp
        clear hp
        go_simp
        refine hK.out _ _ ?_ (Ext.refl _) (fun h => absurd h (by simp))
        exact rfl
      · refine RStep.op rfl rfl (fun ac wk hp K hK => ?_)
        have u7e := hp.get 7 (by decide +kernel) rfl
        have t20_ : ac.tmps[20]?.getD undef = .bool c := slot_is' u7e
        have HP := Lib.hid hp
        clear hp
        go_simp
        refine hK.out _ _ ?_ (Ext.refl _) (fun h => absurd h (by simp))
        exact rfl
    case he =>
      intro ac v4 hM
      have y1_0e := hM.post 0 rfl rfl
      have y1_1e := hM.post 1 rfl rfl
      have y1_2e := hM.post 2 rfl rfl
      have y1_3e := hM.post 3 rfl rfl
      have y1_4e := hM.post 4 rfl rfl
      obtain ⟨y1_5b, y1_5p, y1_5n, y1_5c, y1_5q, y1_5k, y1_5d, y1_5m, y1_5l, y1_5e, y1_5i, y1_5o⟩ := hM.post 5 rfl rfl
      have y1_6e := hM.post 6 rfl rfl
      have y1_7e := hM.post 7 rfl rfl
      have y1_8e := hM.post 8 rfl rfl
      have b0_0 : Hid (At (w.heap.size) 0 (.bool b) v4) := Lib.hid (hM.keep.at 0 rfl)
      have b0_1 : Hid (At (w.heap.size) 1 (.slice pa A.length qa) v4) := Lib.hid (hM.keep.at 1 rfl)
      have b0_2 : Hid (At (w.heap.size) 2 (.slice pb B.length qb) v4) := Lib.hid (hM.keep.at 2 rfl)
      have b1_0 : Hid (At (w2.heap.size) 0 (.bool sb1) v4) := Lib.hid (hM.keep.at 3 rfl)
      have b1_1 : Hid (At (w2.heap.size) 1 (.slice sp1 sl1 sc1) v4) := Lib.hid (hM.keep.at 4 rfl)
      have b1_2 : Hid (At (w2.heap.size) 2 (.slice tp1 tl1 tc1) v4) := Lib.hid (hM.keep.at 5 rfl)
      have gv4 : Gr v3 v4 := hM.gr
      have e4_ : Ext w v4 := Ext.below e3_ hM.blw
      have z0_ : sl ac 13 = .int .i64 0 := y1_0e
      have z1_ : sl ac 14 = .bool true := y1_1e
      have z2_ : sl ac 15 = .bool true := y1_2e
      have z3_ : sl ac 16 = .agg #[.bool b, .slice pa A.length qa, .slice pb B.length qb] := y1_3e
      have z4_ : sl ac 17 = .agg #[.bool b, .slice pa A.length qa, .slice pb B.length qb] := y1_4e
      have z5_ : sl ac 18 = .agg #[.bool y1_5b, .slice y1_5p y1_5n y1_5c, .slice y1_5q y1_5k y1_5d] := y1_5e
      have z6_ : sl ac 19 = .bool c := y1_6e
      have z7_ : sl ac 20 = .bool c := y1_7e
      have z8_ : sl ac 2 = .bool c := y1_8e
      rw [hM.ag.lay]
      simp only [lay, List.foldl_cons, List.foldl_nil, List.setIfInBounds_toArray, List.set_cons_zero, List.set_cons_succ, z0_, z1_, z2_, z3_, z4_, z5_, z6_, z7_, z8_]
      clear hM hkeep1 hob1 hne1 z0_ z1_ z2_ z3_ z4_ z5_ z6_ z7_ z8_ y1_0e y1_1e y1_2e y1_3e y1_4e y1_5e y1_6e y1_7e y1_8e
      go_wp2_with fail
      go_ret
      exact ⟨rfl, e4_⟩

end Go.Proofs.YtaklejkdmfgplaaGreatDoor
