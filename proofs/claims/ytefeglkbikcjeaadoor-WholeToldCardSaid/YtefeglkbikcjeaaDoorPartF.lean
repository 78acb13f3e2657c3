/- Facts and contracts, joined: RatTxt, RatSum, Rat6. -/
import Derived.Test.YtefeglkbikcjeaaDoorPartE

/- The contracts of rat.Show and rat.Read. -/
namespace Go.Proofs.YtefeglkbikcjeaaDoor
open Go Go.RowKit

theorem extract_take' (s : ByteArray) (k : Nat) : (s.extract 0 k).data.toList = s.data.toList.take k := by rw [ByteArray.data_extract]; simp
/-- a fraction's text -/
noncomputable def showR (q : Rat) : List UInt8 := showI q.num ++ (if q.den = 1 then [] else 47 :: showL q.den)
theorem showL_lenB {n k : Nat} (h : n < Bs ^ k) (hk : 1 ≤ k) : (showL n).length ≤ 20 * k := by
  have := LenI.show (z := (n : Int)) (k := k) (by unfold LenI; simpa using h) hk
  simpa using this
theorem dig_inj {a b : Nat} : dig a = dig b ↔ a = b := ⟨fun h => by rw [← val_dig a, h, val_dig], fun h => by rw [h]⟩
theorem read_z (s : ByteArray) (w : World) (hs : s.size ≤ 500) (k : Int) (z : Int) (hk : ((errI s.data.toList : Nat) : Int) = k) (hz : readI s.data.toList = z) :
    Calls Tryd.prog 12 #[.string s] w fun e w' => ∃ b v m, e = .returned (.tuple #[.agg #[.bool b, v], .int .i64 k]) ∧ IsI w' b v m z ∧ OwnL w.heap.size w' v (dig m) ∧ Ext w w' := by
  subst hk hz
  exact (iread_calls s w hs).mono fun _ _ ⟨v, h1, h2, h3⟩ => ⟨_, v, _, h1, ⟨rfl, rfl, h2.limbs⟩, h2, h3⟩
set_option maxHeartbeats 4000000 in
set_option maxRecDepth 100000 in
theorem rshow_is {w : World} {ba : Bool} {va ua : Value} {k : Nat} {q : Rat} (ha : InR w ba va ua k q) (hk : k ≤ 1000) (t : ByteArray) (ht : t.data.toList = showR q) :
    Calls Tryd.prog 35 #[.agg #[.bool ba, va, ua]] w fun e w' => e = .returned (.string t) ∧ Ext w w' := by
  obtain ⟨pa, qa, ra, pa', qa', ra', rfl, rfl⟩ := ha.slice
  have LQ := Lib.hid ha.len
  have hk1 := LQ.out.pos
  obtain ⟨s, hs⟩ := str_of (showI q.num)
  have HS := Lib.hid hs
  have HSZ : Hid ((showL q.num.natAbs).length ≤ 4294967296) := by show _ ≤ _; have := showL_lenB LQ.out.1 hk1; omega
  have HLD : Hid ((dig q.den).length ≤ 1000) := Nat.le_trans (dig_len_le LQ.out.2) hk
  have HL1 : Hid ((dig 1).length ≤ 65535) := by show _ ≤ _; rw [dig_one one_lt_Bs (by decide)]; decide
  have HK := Lib.hid hk
  have hsz : (s.size : Int) ≤ 20001 := by
    have h1 := showI_len (k := k) (z := q.num) LQ.out.1 hk1
    have h2 : s.size = (showI q.num).length := by rw [Lib.size_eq s, hs]
    omega
  by_cases hd : q.den = 1
  · have HD : Hid (decide (dig q.den = dig 1) = true) := by show _ = _; rw [hd]; simp
    have HT : Hid (s = t) := by
      show _ = _
      rw [← mk_of ht, ← mk_of hs]; unfold showR; rw [if_pos hd, List.append_nil]
    clear ht hs hd hk hk1
    go_enter Tryd.func35, Tryd.ntmps35
    go_wp2_with fail
    obtain ⟨v1, hv1⟩ : ∃ W, W = (w.alloc (.cells #[.bool ba, .slice pa qa ra, .slice pa' qa' ra'] 64)) := ⟨_, rfl⟩
    have y1 : Ext w v1 := by rw [hv1]; exact ((Ext.refl _).alloc _)
    have b0_0 : Hid (At (w.heap.size) 0 (.bool ba) v1) := by rw [hv1]; exact At.ext (At.n0 (by rfl)) (Ext.refl _)
    have b0_1 : Hid (At (w.heap.size) 1 (.slice pa qa ra) v1) := by rw [hv1]; exact At.ext (At.n0 (by rfl)) (Ext.refl _)
    have b0_2 : Hid (At (w.heap.size) 2 (.slice pa' qa' ra') v1) := by rw [hv1]; exact At.ext (At.n0 (by rfl)) (Ext.refl _)
    have k0 : Hid (Bx 3 (w.heap.size) v1) := by rw [hv1]; exact Bx.gr (Bx.n0 3 ⟨rfl, by decide⟩ (by decide) noI_s3) (Ext.gr (Ext.refl _))
    have u0 : Hid (w.heap.size < v1.heap.size) := b0_0.out.2
    have e1_ : Ext w v1 := y1
    rw [← hv1]
    clear hv1
    refine (rcount_is (ha.ext y1) (by have h1 := HK.out; omega)).mono ?_
    rintro e w2 ⟨sb1, sv1, su1, sm1, sd1, rfl, e1, o1, x2⟩
    have e2_ : Ext w w2 := Ext.trans e1_ x2
    obtain ⟨sp1, sl1, sc1, tp1, tl1, tc1, rfl, rfl⟩ := e1.slice
    have g0_0 := (b0_0.out.ext x2).1
    have g0_1 := (b0_1.out.ext x2).1
    have g0_2 := (b0_2.out.ext x2).1
    have z0_0 := (k0.out.gr x2.gr).free 0
    have z0_1 := (k0.out.gr x2.gr).free 1
    have z0_2 := (k0.out.gr x2.gr).free 2
    have f0 : w.heap.size < w2.heap.size := (b0_0.out.ext x2).2
    go_wp2_with fail
    obtain ⟨v3, hv3⟩ : ∃ W, W = (((w2.setCell ⟨w.heap.size, 0, none⟩ (.bool sb1)).setCell ⟨w.heap.size, 1, none⟩ (.slice sp1 sl1 sc1)).setCell ⟨w.heap.size, 2, none⟩ (.slice tp1 tl1 tc1)) := ⟨_, rfl⟩
    have sv3 : v3 = setRow (w.heap.size) 0 [.bool sb1, .slice sp1 sl1 sc1, .slice tp1 tl1 tc1] w2 := hv3
    have uv3 := setRow_bx' (o := 0) (cs := [.bool sb1, .slice sp1 sl1 sc1, .slice tp1 tl1 tc1]) (k0.out.gr x2.gr) (by simp) noI_s3
    have y3 : Gr w2 v3 := by rw [sv3]; exact setRow_gr' (o := 0) (cs := [.bool sb1, .slice sp1 sl1 sc1, .slice tp1 tl1 tc1]) (k0.out.gr x2.gr) (by simp) noI_s3
    have t3 : Hid (∀ t o u, t ≠ (w.heap.size) → At t o u w2 → At t o u v3) := fun t o u h k => by rw [sv3]; exact k.setRow h _ _
    have e3_ : Ext w v3 := by rw [sv3]; exact setRow_below _ _ (by omega) _ _ e2_
    have b0_0 : Hid (At (w.heap.size) 0 (.bool sb1) v3) := by rw [sv3]; exact uv3.2.1 0 _ rfl
    have b0_1 : Hid (At (w.heap.size) 1 (.slice sp1 sl1 sc1) v3) := by rw [sv3]; exact uv3.2.1 1 _ rfl
    have b0_2 : Hid (At (w.heap.size) 2 (.slice tp1 tl1 tc1) v3) := by rw [sv3]; exact uv3.2.1 2 _ rfl
    have k0 : Hid (Bx 3 (w.heap.size) v3) := by rw [sv3]; exact uv3.1
    rw [← hv3]
    clear hv3 sv3 uv3
    refine (show_is ((e1.gr y3).num.inI (k := k) LQ.out.1) (by have h1 := HK.out; omega) s HS.out HSZ.out).mono ?_
    rintro e w4 ⟨rfl, x4⟩
    have e4_ : Ext w w4 := Ext.trans e3_ x4
    clear g0_0 g0_1 g0_2 z0_0 z0_1 z0_2 f0
    go_wp2_with fail
    have hkeep1 : AllAt' ([(w.heap.size, 0, .bool sb1), (w.heap.size, 1, .slice sp1 sl1 sc1), (w.heap.size, 2, .slice tp1 tl1 tc1)] : List (Nat × Nat × Value)) w4 := AllAt'.cons (b0_0.out.ext x4) (AllAt'.cons (b0_1.out.ext x4) (AllAt'.cons (b0_2.out.ext x4) (AllAt'.nil _)))
    have hob1 : ObOk w.heap.size w4 (([(w.heap.size, 0, .bool sb1), (w.heap.size, 1, .slice sp1 sl1 sc1), (w.heap.size, 2, .slice tp1 tl1 tc1)] : List (Nat × Nat × Value)).map (·.1)) ([] : List (Nat × List (Nat × Value))) := trivial
    have hne1 : AllNe (([] : List (Nat × List (Nat × Value))).map (·.1)) := trivial
    (try simp only [List.append_eq, List.cons_append, List.nil_append])
    refine wp_region_gen ⟨[9, 10, 11, 12, 13], fun i => false, fun i => ([none, none, none, none, none] : List (Option (BoxRef × Nat))).getD i none, fun i => ([Sg.val (.pointer (some ⟨w.heap.size, 2, none⟩)), Sg.val (.slice tp1 tl1 tc1), Sg.natO w.heap.size 1, Sg.val (.bool true), Sg.val (.bool false)] : List Sg).getD i Sg.any, [(w.heap.size, 0, .bool sb1), (w.heap.size, 1, .slice sp1 sl1 sc1), (w.heap.size, 2, .slice tp1 tl1 tc1)], []⟩ w.heap.size (by kernel_rfl) (by kernel_rfl) e4_.size ?hfr hkeep1 hob1 hne1 ?hs ?he
    case hfr =>
      intro i v wk hi hst hv
      exact absurd hi (by simp)
    case hs =>
      refine ⟨?_, ?_, ?_, ?_, ?_, trivial⟩
      · refine RStep.op rfl rfl (fun ac wk hp K hK => ?_)
        have t1_ : ac.tmps[1]?.getD undef = .pointer (some ⟨w.heap.size, 0, none⟩) := hp.slot 1 rfl rfl
        have HP := Lib.hid hp
        clear hp
        go_simp
        refine hK.out _ _ ?_ (Ext.refl _) (fun h => absurd h (by simp))
        exact rfl
      · refine RStep.op rfl rfl (fun ac wk hp K hK => ?_)
        have u0e := hp.get 0 (by decide +kernel) rfl
        have t9_ : ac.tmps[9]?.getD undef = .pointer (some ⟨w.heap.size, 2, none⟩) := slot_is' u0e
        have c0_ := hp.cell 2 rfl
        have HP := Lib.hid hp
        clear hp
        go_simp
        refine hK.out _ _ ?_ (Ext.refl _) (fun h => absurd h (by simp))
        exact rfl
      · refine RStep.op rfl rfl (fun ac wk hp K hK => ?_)
        have HP := Lib.hid hp
        clear hp
        go_simp
        refine (rone_is).mono ?_
        rintro e wk' ⟨sv3, rfl, o3, ix⟩
        obtain ⟨sp3, sl3, sc3, rfl⟩ := o3.slice'
        refine hK.out _ _ ?_ ix (fun h => absurd h (by simp))
        exact ⟨_, _, _, rfl, (o3.mono (Nat.le_trans e4_.size HP.out.gr.size))⟩
      · refine RStep.op rfl rfl (fun ac wk hp K hK => ?_)
        have u1e := hp.get 1 (by decide +kernel) rfl
        have t10_ : ac.tmps[10]?.getD undef = .slice tp1 tl1 tc1 := slot_is' u1e
        obtain ⟨u2p, u2n, u2c, u2e, u2o⟩ := hp.get 2 (by decide +kernel) rfl
        have t11_ : ac.tmps[11]?.getD undef = .slice u2p u2n u2c := slot_is' u2e
        have HP := Lib.hid hp
        clear hp
        go_simp
        refine (equal_is (e1.gr ((y3.trans x4.gr).trans HP.out.gr)).2.2.2.2 u2o.limbs (by rw [e1.2.2.1.symm]; exact Nat.le_trans HLD.out (by decide)) HL1.out true (by rw [e1.2.2.1.symm]; exact HD.out)).mono ?_
        rintro e wk' ⟨rfl, ix⟩
        refine hK.out _ _ ?_ ix (fun h => absurd h (by simp))
        exact rfl
      · refine RStep.op rfl rfl (fun ac wk hp K hK => ?_)
        have u3e := hp.get 3 (by decide +kernel) rfl
        have t12_ : ac.tmps[12]?.getD undef = .bool true := slot_is' u3e
        have HP := Lib.hid hp
        clear hp
        go_simp
        refine hK.out _ _ ?_ (Ext.refl _) (fun h => absurd h (by simp))
        exact rfl
    case he =>
      intro ac v5 hM
      have y1_0e := hM.post 0 rfl rfl
      have y1_1e := hM.post 1 rfl rfl
      obtain ⟨y1_2p, y1_2n, y1_2c, y1_2e, y1_2o⟩ := hM.post 2 rfl rfl
      have y1_3e := hM.post 3 rfl rfl
      have y1_4e := hM.post 4 rfl rfl
      have b0_0 : Hid (At (w.heap.size) 0 (.bool sb1) v5) := Lib.hid (hM.keep.at 0 rfl)
      have b0_1 : Hid (At (w.heap.size) 1 (.slice sp1 sl1 sc1) v5) := Lib.hid (hM.keep.at 1 rfl)
      have b0_2 : Hid (At (w.heap.size) 2 (.slice tp1 tl1 tc1) v5) := Lib.hid (hM.keep.at 2 rfl)
      have gv5 : Gr w4 v5 := hM.gr
      have e5_ : Ext w v5 := Ext.below e4_ hM.blw
      have z0_ : sl ac 9 = .pointer (some ⟨w.heap.size, 2, none⟩) := y1_0e
      have z1_ : sl ac 10 = .slice tp1 tl1 tc1 := y1_1e
      have z2_ : sl ac 11 = .slice y1_2p y1_2n y1_2c := y1_2e
      have z3_ : sl ac 12 = .bool true := y1_3e
      have z4_ : sl ac 13 = .bool false := y1_4e
      rw [hM.ag.lay]
      simp only [lay, List.foldl_cons, List.foldl_nil, List.setIfInBounds_toArray, List.set_cons_zero, List.set_cons_succ, z0_, z1_, z2_, z3_, z4_]
      clear hM hkeep1 hob1 hne1 z0_ z1_ z2_ z3_ z4_ y1_0e y1_1e y1_2e y1_3e y1_4e
      go_wp2_with fail
      go_ret
      exact ⟨by rw [HT.out]; rfl, e5_⟩
  · obtain ⟨u, hu⟩ := str_of (showL q.den)
    have HU := Lib.hid hu
    have HD : Hid (decide (dig q.den = dig 1) = false) := by show _ = _; rw [decide_eq_false_iff_not, dig_inj]; exact hd
    have husz : (u.size : Int) ≤ 20000 := by
      have h1 := showL_lenB LQ.out.2 hk1
      have h2 : u.size = (showL q.den).length := by rw [Lib.size_eq u, hu]
      omega
    have HT : Hid (s ++ ((⟨#[47]⟩ : ByteArray) ++ u) = t) := by
      show _ = _
      refine append_of ?_
      rw [ht]; unfold showR; rw [if_neg hd, hs]
      simp [ByteArray.data_append, hu]
    clear ht hs hd hk hk1 hu
    go_enter Tryd.func35, Tryd.ntmps35
    go_wp2_with fail
    obtain ⟨v1, hv1⟩ : ∃ W, W = (w.alloc (.cells #[.bool ba, .slice pa qa ra, .slice pa' qa' ra'] 64)) := ⟨_, rfl⟩
    have y1 : Ext w v1 := by rw [hv1]; exact ((Ext.refl _).alloc _)
    have b0_0 : Hid (At (w.heap.size) 0 (.bool ba) v1) := by rw [hv1]; exact At.ext (At.n0 (by rfl)) (Ext.refl _)
    have b0_1 : Hid (At (w.heap.size) 1 (.slice pa qa ra) v1) := by rw [hv1]; exact At.ext (At.n0 (by rfl)) (Ext.refl _)
    have b0_2 : Hid (At (w.heap.size) 2 (.slice pa' qa' ra') v1) := by rw [hv1]; exact At.ext (At.n0 (by rfl)) (Ext.refl _)
    have k0 : Hid (Bx 3 (w.heap.size) v1) := by rw [hv1]; exact Bx.gr (Bx.n0 3 ⟨rfl, by decide⟩ (by decide) noI_s3) (Ext.gr (Ext.refl _))
    have u0 : Hid (w.heap.size < v1.heap.size) := b0_0.out.2
    have e1_ : Ext w v1 := y1
    rw [← hv1]
    clear hv1
    refine (rcount_is (ha.ext y1) (by have h1 := HK.out; omega)).mono ?_
    rintro e w2 ⟨sb1, sv1, su1, sm1, sd1, rfl, e1, o1, x2⟩
    have e2_ : Ext w w2 := Ext.trans e1_ x2
    obtain ⟨sp1, sl1, sc1, tp1, tl1, tc1, rfl, rfl⟩ := e1.slice
    have g0_0 := (b0_0.out.ext x2).1
    have g0_1 := (b0_1.out.ext x2).1
    have g0_2 := (b0_2.out.ext x2).1
    have z0_0 := (k0.out.gr x2.gr).free 0
    have z0_1 := (k0.out.gr x2.gr).free 1
    have z0_2 := (k0.out.gr x2.gr).free 2
    have f0 : w.heap.size < w2.heap.size := (b0_0.out.ext x2).2
    go_wp2_with fail
    obtain ⟨v3, hv3⟩ : ∃ W, W = (((w2.setCell ⟨w.heap.size, 0, none⟩ (.bool sb1)).setCell ⟨w.heap.size, 1, none⟩ (.slice sp1 sl1 sc1)).setCell ⟨w.heap.size, 2, none⟩ (.slice tp1 tl1 tc1)) := ⟨_, rfl⟩
    have sv3 : v3 = setRow (w.heap.size) 0 [.bool sb1, .slice sp1 sl1 sc1, .slice tp1 tl1 tc1] w2 := hv3
    have uv3 := setRow_bx' (o := 0) (cs := [.bool sb1, .slice sp1 sl1 sc1, .slice tp1 tl1 tc1]) (k0.out.gr x2.gr) (by simp) noI_s3
    have y3 : Gr w2 v3 := by rw [sv3]; exact setRow_gr' (o := 0) (cs := [.bool sb1, .slice sp1 sl1 sc1, .slice tp1 tl1 tc1]) (k0.out.gr x2.gr) (by simp) noI_s3
    have t3 : Hid (∀ t o u, t ≠ (w.heap.size) → At t o u w2 → At t o u v3) := fun t o u h k => by rw [sv3]; exact k.setRow h _ _
    have e3_ : Ext w v3 := by rw [sv3]; exact setRow_below _ _ (by omega) _ _ e2_
    have b0_0 : Hid (At (w.heap.size) 0 (.bool sb1) v3) := by rw [sv3]; exact uv3.2.1 0 _ rfl
    have b0_1 : Hid (At (w.heap.size) 1 (.slice sp1 sl1 sc1) v3) := by rw [sv3]; exact uv3.2.1 1 _ rfl
    have b0_2 : Hid (At (w.heap.size) 2 (.slice tp1 tl1 tc1) v3) := by rw [sv3]; exact uv3.2.1 2 _ rfl
    have k0 : Hid (Bx 3 (w.heap.size) v3) := by rw [sv3]; exact uv3.1
    rw [← hv3]
    clear hv3 sv3 uv3
    refine (show_is ((e1.gr y3).num.inI (k := k) LQ.out.1) (by have h1 := HK.out; omega) s HS.out HSZ.out).mono ?_
    rintro e w4 ⟨rfl, x4⟩
    have e4_ : Ext w w4 := Ext.trans e3_ x4
    clear g0_0 g0_1 g0_2 z0_0 z0_1 z0_2 f0
    go_wp2_with fail
    have hkeep1 : AllAt' ([(w.heap.size, 0, .bool sb1), (w.heap.size, 1, .slice sp1 sl1 sc1), (w.heap.size, 2, .slice tp1 tl1 tc1)] : List (Nat × Nat × Value)) w4 := AllAt'.cons (b0_0.out.ext x4) (AllAt'.cons (b0_1.out.ext x4) (AllAt'.cons (b0_2.out.ext x4) (AllAt'.nil _)))
    have hob1 : ObOk w.heap.size w4 (([(w.heap.size, 0, .bool sb1), (w.heap.size, 1, .slice sp1 sl1 sc1), (w.heap.size, 2, .slice tp1 tl1 tc1)] : List (Nat × Nat × Value)).map (·.1)) ([] : List (Nat × List (Nat × Value))) := trivial
    have hne1 : AllNe (([] : List (Nat × List (Nat × Value))).map (·.1)) := trivial
    (try simp only [List.append_eq, List.cons_append, List.nil_append])
    refine wp_region_gen ⟨[9, 10, 11, 12, 13], fun i => false, fun i => ([none, none, none, none, none] : List (Option (BoxRef × Nat))).getD i none, fun i => ([Sg.val (.pointer (some ⟨w.heap.size, 2, none⟩)), Sg.val (.slice tp1 tl1 tc1), Sg.natO w.heap.size 1, Sg.val (.bool false), Sg.val (.bool true)] : List Sg).getD i Sg.any, [(w.heap.size, 0, .bool sb1), (w.heap.size, 1, .slice sp1 sl1 sc1), (w.heap.size, 2, .slice tp1 tl1 tc1)], []⟩ w.heap.size (by kernel_rfl) (by kernel_rfl) e4_.size ?hfr hkeep1 hob1 hne1 ?hs ?he
    case hfr =>
      intro i v wk hi hst hv
      exact absurd hi (by simp)
    case hs =>
      refine ⟨?_, ?_, ?_, ?_, ?_, trivial⟩
      · refine RStep.op rfl rfl (fun ac wk hp K hK => ?_)
        have t1_ : ac.tmps[1]?.getD undef = .pointer (some ⟨w.heap.size, 0, none⟩) := hp.slot 1 rfl rfl
        have HP := Lib.hid hp
        clear hp
        go_simp
        refine hK.out _ _ ?_ (Ext.refl _) (fun h => absurd h (by simp))
        exact rfl
      · refine RStep.op rfl rfl (fun ac wk hp K hK => ?_)
        have u0e := hp.get 0 (by decide +kernel) rfl
        have t9_ : ac.tmps[9]?.getD undef = .pointer (some ⟨w.heap.size, 2, none⟩) := slot_is' u0e
        have c0_ := hp.cell 2 rfl
        have HP := Lib.hid hp
        clear hp
        go_simp
        refine hK.out _ _ ?_ (Ext.refl _) (fun h => absurd h (by simp))
        exact rfl
      · refine RStep.op rfl rfl (fun ac wk hp K hK => ?_)
        have HP := Lib.hid hp
        clear hp
        go_simp
        refine (rone_is).mono ?_
        rintro e wk' ⟨sv3, rfl, o3, ix⟩
        obtain ⟨sp3, sl3, sc3, rfl⟩ := o3.slice'
        refine hK.out _ _ ?_ ix (fun h => absurd h (by simp))
        exact ⟨_, _, _, rfl, (o3.mono (Nat.le_trans e4_.size HP.out.gr.size))⟩
      · refine RStep.op rfl rfl (fun ac wk hp K hK => ?_)
        have u1e := hp.get 1 (by decide +kernel) rfl
        have t10_ : ac.tmps[10]?.getD undef = .slice tp1 tl1 tc1 := slot_is' u1e
        obtain ⟨u2p, u2n, u2c, u2e, u2o⟩ := hp.get 2 (by decide +kernel) rfl
        have t11_ : ac.tmps[11]?.getD undef = .slice u2p u2n u2c := slot_is' u2e
        have HP := Lib.hid hp
        clear hp
        go_simp
        refine (equal_is (e1.gr ((y3.trans x4.gr).trans HP.out.gr)).2.2.2.2 u2o.limbs (by rw [e1.2.2.1.symm]; exact Nat.le_trans HLD.out (by decide)) HL1.out false (by rw [e1.2.2.1.symm]; exact HD.out)).mono ?_
        rintro e wk' ⟨rfl, ix⟩
        refine hK.out _ _ ?_ ix (fun h => absurd h (by simp))
        exact rfl
      · refine RStep.op rfl rfl (fun ac wk hp K hK => ?_)
        have u3e := hp.get 3 (by decide +kernel) rfl
        have t12_ : ac.tmps[12]?.getD undef = .bool false := slot_is' u3e
        have HP := Lib.hid hp
        clear hp
        go_simp
        refine hK.out _ _ ?_ (Ext.refl _) (fun h => absurd h (by simp))
        exact rfl
    case he =>
      intro ac v5 hM
      have y1_0e := hM.post 0 rfl rfl
      have y1_1e := hM.post 1 rfl rfl
      obtain ⟨y1_2p, y1_2n, y1_2c, y1_2e, y1_2o⟩ := hM.post 2 rfl rfl
      have y1_3e := hM.post 3 rfl rfl
      have y1_4e := hM.post 4 rfl rfl
      have b0_0 : Hid (At (w.heap.size) 0 (.bool sb1) v5) := Lib.hid (hM.keep.at 0 rfl)
      have b0_1 : Hid (At (w.heap.size) 1 (.slice sp1 sl1 sc1) v5) := Lib.hid (hM.keep.at 1 rfl)
      have b0_2 : Hid (At (w.heap.size) 2 (.slice tp1 tl1 tc1) v5) := Lib.hid (hM.keep.at 2 rfl)
      have gv5 : Gr w4 v5 := hM.gr
      have e5_ : Ext w v5 := Ext.below e4_ hM.blw
      have z0_ : sl ac 9 = .pointer (some ⟨w.heap.size, 2, none⟩) := y1_0e
      have z1_ : sl ac 10 = .slice tp1 tl1 tc1 := y1_1e
      have z2_ : sl ac 11 = .slice y1_2p y1_2n y1_2c := y1_2e
      have z3_ : sl ac 12 = .bool false := y1_3e
      have z4_ : sl ac 13 = .bool true := y1_4e
      rw [hM.ag.lay]
      simp only [lay, List.foldl_cons, List.foldl_nil, List.setIfInBounds_toArray, List.set_cons_zero, List.set_cons_succ, z0_, z1_, z2_, z3_, z4_]
      clear hM hkeep1 hob1 hne1 z0_ z1_ z2_ z3_ z4_ y1_0e y1_1e y1_2e y1_3e y1_4e
      have g0_2 := b0_2.out.1
      have f0 : w.heap.size < v5.heap.size := b0_0.out.2
      go_wp2_with fail
      refine (show_str (e1.gr (y3.trans (x4.gr.trans gv5))).2.2.2.2 (by rw [e1.2.2.1.symm]; have := HLD.out; omega) u (by rw [val_dig, e1.2.2.1.symm]; exact HU.out)).mono ?_
      rintro e w6 ⟨rfl, x6⟩
      have e6_ : Ext w w6 := Ext.trans e5_ x6
      clear g0_2 f0
      go_wp2_with fail
      go_ret
      exact ⟨ret_eq (congrArg Value.string HT.out), e6_⟩

/-- why a text is no fraction's -/
noncomputable def errQ (l : List UInt8) : Nat :=
  if Lib.indexByte l 47 = -1 then errI l else
  if errI (l.take (Lib.indexByte l 47).toNat) ≠ 0 then errI (l.take (Lib.indexByte l 47).toNat) else
  if errR (l.drop ((Lib.indexByte l 47).toNat + 1)) ≠ 0 then errR (l.drop ((Lib.indexByte l 47).toNat + 1)) else
  if readN (l.drop ((Lib.indexByte l 47).toNat + 1)) ≠ 1 ∧ readN (l.drop ((Lib.indexByte l 47).toNat + 1)) ≠ 0 ∧ Nat.gcd (readI (l.take (Lib.indexByte l 47).toNat)).natAbs (readN (l.drop ((Lib.indexByte l 47).toNat + 1))) = 1 then 0 else 3
/-- the fraction of a text -/
noncomputable def readQ (l : List UInt8) : Rat :=
  if errQ l ≠ 0 then 0 else if Lib.indexByte l 47 = -1 then ((readI l : Int) : Rat) else mkRat (readI (l.take (Lib.indexByte l 47).toNat)) (readN (l.drop ((Lib.indexByte l 47).toNat + 1)))

theorem indexByte_range (l : List UInt8) (c : UInt8) : Lib.indexByte l c = -1 ∨ ∃ i : Nat, Lib.indexByte l c = i ∧ i < l.length := by
  have h1 := Lib.indexByte_ge l c
  by_cases h : Lib.indexByte l c = -1
  · exact .inl h
  · obtain ⟨i, hi⟩ := Int.eq_ofNat_of_zero_le (show 0 ≤ Lib.indexByte l c by omega)
    refine .inr ⟨i, hi, ?_⟩
    have := (Lib.indexByte_some hi).1
    exact (List.getElem?_eq_some_iff.1 this).1
end Go.Proofs.YtefeglkbikcjeaaDoor

/- Slices of fractions; the contracts of tombolalaw06.Long and rat.Sum. -/
namespace Go.Proofs.YtefeglkbikcjeaaDoor
open Go Go.RowKit

/-- v is a slice of fractions, of which each is R -/
def Sl3 {α : Type} (R : Bool → Value → Value → α → World → Prop) (w : World) (v : Value) (Ls : List α) : Prop :=
  ∃ p c, v = .slice p Ls.length c ∧ Ls.length ≤ c ∧ c ≤ maxLen ∧ ∀ i, i < Ls.length → ∃ bl off, p = some ⟨bl, off, none⟩ ∧ bl < w.heap.size ∧
    ∀ j a, Ls[j]? = some a → ∃ b x y, w.cell? ⟨bl, off + j * 3, none⟩ = some (.bool b) ∧ w.cell? ⟨bl, off + j * 3 + 1, none⟩ = some x ∧ w.cell? ⟨bl, off + j * 3 + 2, none⟩ = some y ∧ R b x y a w
theorem sl3_1 {α : Type} {R : Bool → Value → Value → α → World → Prop} {w : World} {s : Nat} {b : Bool} {x y : Value} {a : α} (h0 : At s 0 (.bool b) w) (h1 : At s 1 x w) (h2 : At s 2 y w) (hr : R b x y a w) :
    Sl3 R w (.slice (some ⟨s, 0, none⟩) 1 1) [a] := by
  refine ⟨_, 1, rfl, Nat.le_refl _, by simp [maxLen], fun i _ => ⟨s, 0, rfl, h0.2, fun j c hj => ?_⟩⟩
  cases j with
  | zero => simp at hj; subst hj; exact ⟨b, x, y, h0.1, h1.1, h2.1, hr⟩
  | succ j => simp at hj
theorem sl3_3 {α : Type} {R : Bool → Value → Value → α → World → Prop} {w : World} {s : Nat} {b1 b2 b3 : Bool} {x1 y1 x2 y2 x3 y3 : Value} {a1 a2 a3 : α} (h0 : At s 0 (.bool b1) w) (h1 : At s 1 x1 w) (h2 : At s 2 y1 w) (hr1 : R b1 x1 y1 a1 w)
    (h3 : At s 3 (.bool b2) w) (h4 : At s 4 x2 w) (h5 : At s 5 y2 w) (hr2 : R b2 x2 y2 a2 w) (h6 : At s 6 (.bool b3) w) (h7 : At s 7 x3 w) (h8 : At s 8 y3 w) (hr3 : R b3 x3 y3 a3 w) :
    Sl3 R w (.slice (some ⟨s, 0, none⟩) 3 3) [a1, a2, a3] := by
  refine ⟨_, 3, rfl, Nat.le_refl _, by simp [maxLen], fun i _ => ⟨s, 0, rfl, h0.2, fun j c hj => ?_⟩⟩
  match j, hj with
  | 0, hj => simp at hj; subst hj; exact ⟨b1, x1, y1, h0.1, h1.1, h2.1, hr1⟩
  | 1, hj => simp at hj; subst hj; exact ⟨b2, x2, y2, h3.1, h4.1, h5.1, hr2⟩
  | 2, hj => simp at hj; subst hj; exact ⟨b3, x3, y3, h6.1, h7.1, h8.1, hr3⟩
  | j + 3, hj => simp at hj
/-- raw limbs -/
def RawT (b : Bool) (x y : Value) (a : Bool × List Nat × List Nat) (w : World) : Prop := b = a.1 ∧ Limbs w x a.2.1 ∧ Limbs w y a.2.2
def FraT (K : Nat) (b : Bool) (x y : Value) (q : Rat) (w : World) : Prop := InR w b x y K q
/-- is there more in fractions than a statement goes over? -/
def longR (Ls : List (Bool × List Nat × List Nat)) : Bool := Ls.any fun a => decide (6 < a.2.1.length) || decide (6 < a.2.2.length)
theorem longR_get {Ls : List (Bool × List Nat × List Nat)} (h : longR Ls = false) {a : Bool × List Nat × List Nat} (ha : a ∈ Ls) : a.2.1.length ≤ 6 ∧ a.2.2.length ≤ 6 := by
  have := List.any_eq_false.1 h a ha
  simp only [Bool.or_eq_true, decide_eq_true_eq] at this
  omega

noncomputable def sumR (qs : List Rat) : Rat := qs.foldl (· + ·) 0
theorem sumR_take {qs : List Rat} {i : Nat} {q : Rat} (h : qs[i]? = some q) : sumR (qs.take (i + 1)) = sumR (qs.take i) + q := by
  unfold sumR; rw [List.take_add_one, h, List.foldl_append]; rfl
theorem foldl_len {K : Nat} : ∀ (l : List Rat) (n : Nat) (s : Rat), LenR n s → (∀ q ∈ l, LenR K q) → LenR (n + l.length * (K + 1)) (l.foldl (· + ·) s)
  | [], n, s, h, _ => by simpa using h
  | q :: l, n, s, h, hl => by
    have h1 := foldl_len l (n + K + 1) (s + q) (h.add (hl q (by simp))) (fun x hx => hl x (by simp [hx]))
    refine h1.mono ?_
    simp [Nat.add_mul]; omega
theorem sumR_len {qs : List Rat} {K : Nat} (h : ∀ q ∈ qs, LenR K q) : LenR (qs.length * (K + 1) + 1) (sumR qs) := by
  have := foldl_len qs 1 0 lenR_zero h
  rw [Nat.add_comm]; exact this

/-- the round's cells -/
def Row3 (s : Nat) (b : Bool) (x y : Value) (W : World) : Prop := At s 0 (.bool b) W ∧ At s 1 x W ∧ At s 2 y W
theorem Row3.ext {s : Nat} {b : Bool} {x y : Value} {W W' : World} (h : Row3 s b x y W) (e : Ext W W') : Row3 s b x y W' := ⟨h.1.ext e, h.2.1.ext e, h.2.2.ext e⟩

end Go.Proofs.YtefeglkbikcjeaaDoor

/- The contract of rat.Pow; small facts for the laws. -/
namespace Go.Proofs.YtefeglkbikcjeaaDoor
open Go Go.RowKit

theorem pow_mk {a : Rat} {n : Nat} {c : Bool} (hc : (decide (a.num < 0) && decide (n % 2 = 1)) = c) : mkRat (sgI c (a.num.natAbs ^ n)) (a.den ^ n) = a ^ n := by
  have e : sgI c (a.num.natAbs ^ n) = (a ^ n).num := by
    rw [Rat.num_pow]
    unfold sgI
    rcases Int.lt_or_le a.num 0 with h | h
    · obtain ⟨x, hx⟩ : ∃ x : Nat, a.num = -(x : Int) := ⟨a.num.natAbs, by omega⟩
      have hx2 : a.num.natAbs = x := by omega
      have e2 : (-(x : Int)) ^ 2 = (x : Int) ^ 2 := by simp [Int.pow_succ, Int.neg_mul_neg]
      rcases Nat.mod_two_eq_zero_or_one n with hp | hp
      · have : c = false := by rw [← hc, hp]; simp
        subst this
        rw [hx2, hx]
        simp only [Bool.false_eq_true, if_false]
        obtain ⟨m, rfl⟩ : ∃ m, n = 2 * m := ⟨n / 2, by omega⟩
        rw [Int.natCast_pow, Int.pow_mul, Int.pow_mul, e2]
      · have : c = true := by rw [← hc, hp]; simp [h]
        subst this
        rw [hx2, hx]
        simp only [if_true]
        obtain ⟨m, rfl⟩ : ∃ m, n = 2 * m + 1 := ⟨n / 2, by omega⟩
        rw [Int.natCast_pow, Int.pow_succ, Int.pow_succ, Int.pow_mul, Int.pow_mul, e2, Int.mul_neg]
    · have : c = false := by rw [← hc]; simp [Int.not_lt.2 h]
      subst this
      simp only [Bool.false_eq_true, if_false]
      rw [Int.natCast_pow, Int.natAbs_of_nonneg h]
  rw [e, ← Rat.den_pow, Rat.mkRat_self]

theorem Sl3.gr {K : Nat} {w w' : World} {v : Value} {qs : List Rat} (h : Sl3 (FraT K) w v qs) (g : Gr w w') {s : Nat} (hv : ∀ p n c, v = .slice p n c → ∀ bl off, p = some ⟨bl, off, none⟩ → bl = s) (hs : w'.heap[s]? = w.heap[s]?) : Sl3 (FraT K) w' v qs := by
  obtain ⟨p, c, rfl, h1, h2, h3⟩ := h
  refine ⟨p, c, rfl, h1, h2, fun i hi => ?_⟩
  obtain ⟨bl, off, rfl, hbl, hc⟩ := h3 i hi
  obtain rfl := hv _ _ _ rfl bl off rfl
  refine ⟨bl, off, rfl, Nat.lt_of_lt_of_le hbl g.size, fun j a hj => ?_⟩
  obtain ⟨b, x, y, c0, c1, c2, hr⟩ := hc j a hj
  exact ⟨b, x, y, by rw [← c0]; exact World.cell?_of_block (w := w) hs, by rw [← c1]; exact World.cell?_of_block (w := w) hs, by rw [← c2]; exact World.cell?_of_block (w := w) hs, InR.gr hr g⟩
/-- three fractions in a new block -/
def Sg.fra3 (K : Nat) (q1 q2 q3 : Rat) : Sg := ⟨fun v w => ∃ s, v = .slice (some ⟨s, 0, none⟩) 3 3 ∧ (∃ C t, w.heap[s]? = some (.cells C t (0, 0)) ∧ C.size = 9) ∧ Sl3 (FraT K) w (.slice (some ⟨s, 0, none⟩) 3 3) [q1, q2, q3], fun v w w' ⟨s, h, ⟨C, t, h1, h2⟩, h3⟩ g => by
  have e : w'.heap[s]? = w.heap[s]? := by
    rcases g.blk s (Array.getElem?_eq_some_iff.1 h1).1 with e | ⟨n, ⟨cur, t', k1, ⟨k2, k3⟩, -⟩, -⟩
    · exact e
    · rw [h1] at k1
      injection k1 with k1
      injection k1 with k1
      subst k1
      omega
  refine ⟨s, h, ⟨C, t, by rw [e]; exact h1, h2⟩, h3.gr g (s := s) (fun p n c hv bl off hp => ?_) e⟩
  injection hv with hv
  rw [hp] at hv
  injection hv with hv
  injection hv with hv
  exact hv.symm⟩
theorem ncmp_n {w : World} {v u : Value} {k l m n : Nat} (h : InN w v k m) (g : InN w u l n) (hk : k ≤ 65535) (hl : l ≤ 65535) (s : Int) (hs : cmpN m n = s) : Calls Tryd.prog 46 #[v, u] w fun e w' => e = .returned (.int .i64 s) ∧ Ext w w' := by
  obtain ⟨A, h1, rfl, h3⟩ := h
  obtain ⟨B, g1, rfl, g3⟩ := g
  refine (cmp_int h1 g1 (lmax_17 (by omega)) (lmax_17 (by omega)) s hs).mono ?_
  rintro e w' ⟨e1, rfl⟩
  exact ⟨e1, Ext.refl _⟩
/-- a literal natural -/
theorem inI_mk {w : World} {v : Value} {k n : Nat} (h : InN w v k n) (b : Bool) : InI w b v k (sgI b n) := by
  obtain ⟨A, h1, rfl, h3⟩ := h
  exact ⟨A, h1, rfl, h3⟩
theorem lit_n0 {w : World} {C : Array Value} (A : List Nat) (hA : ∀ x ∈ A, x ≤ 65535) (hC : C.toList = A.map lv) (n : Nat) (hn : n = A.length) (hl : A.length ≤ 100) : Limbs (w.alloc (.cells C 28)) (.slice (some ⟨w.heap.size, 0, none⟩) n n) A :=
  litn w A (fun x hx => small_Bs (hA x hx)) C hC n hn hl
theorem lit_n1 {w : World} {o1 : Obj} {C : Array Value} (A : List Nat) (hA : ∀ x ∈ A, x ≤ 65535) (hC : C.toList = A.map lv) (n : Nat) (hn : n = A.length) (hl : A.length ≤ 100) : Limbs ((w.alloc o1).alloc (.cells C 28)) (.slice (some ⟨w.heap.size + 1, 0, none⟩) n n) A := by
  have := lit_n0 (w := w.alloc o1) A hA hC n hn hl; simpa using this
theorem lit_n2 {w : World} {o1 o2 : Obj} {C : Array Value} (A : List Nat) (hA : ∀ x ∈ A, x ≤ 65535) (hC : C.toList = A.map lv) (n : Nat) (hn : n = A.length) (hl : A.length ≤ 100) : Limbs (((w.alloc o1).alloc o2).alloc (.cells C 28)) (.slice (some ⟨w.heap.size + 1 + 1, 0, none⟩) n n) A := by
  have := lit_n1 (w := w.alloc o1) (o1 := o2) A hA hC n hn hl; simpa using this
theorem lit_n3 {w : World} {o1 o2 o3 : Obj} {C : Array Value} (A : List Nat) (hA : ∀ x ∈ A, x ≤ 65535) (hC : C.toList = A.map lv) (n : Nat) (hn : n = A.length) (hl : A.length ≤ 100) : Limbs ((((w.alloc o1).alloc o2).alloc o3).alloc (.cells C 28)) (.slice (some ⟨w.heap.size + 1 + 1 + 1, 0, none⟩) n n) A := by
  have := lit_n2 (w := w.alloc o1) (o1 := o2) (o2 := o3) A hA hC n hn hl; simpa using this
theorem lit_in {w : World} {v : Value} {n : Nat} (h : Limbs w v [n]) : InN w v 1 n := ⟨[n], h, by simp [val], by simp⟩
theorem lit_dig {w : World} {v : Value} {n : Nat} (h : Limbs w v [n]) (h0 : n ≠ 0) (h1 : n ≤ 65535) : Limbs w v (dig n) := by rw [dig_one (small_Bs h1) (Nat.pos_of_ne_zero h0)]; exact h
theorem lenR_over {n d : Int} {q : Rat} (h1 : -9223372036854775808 ≤ n) (h2 : n ≤ 9223372036854775807) (h3 : -9223372036854775808 ≤ d) (h4 : d ≤ 9223372036854775807) (hq : Rat.divInt n d = q) : LenR 1 q := by
  have e := over_mk (n := n) (d := d) rfl rfl hq
  rw [← e]
  refine LenR.mk (Nat.le_refl _) ?_ ?_
  · rw [sgI_abs]; exact LenI.small (z := n) (by omega)
  · exact LenI.small (z := d) (by omega)
end Go.Proofs.YtefeglkbikcjeaaDoor
