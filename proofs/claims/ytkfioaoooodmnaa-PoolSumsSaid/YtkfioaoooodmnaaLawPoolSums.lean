/- PoolSums answers true at all numbers. -/
import Derived.Test.YtkfioaoooodmnaaPartJ
namespace Go.Proofs.Ytkfioaoooodmnaa
open Go Go.RowKit

set_option maxHeartbeats 8000000 in
set_option maxRecDepth 100000 in
theorem poolSums_all (w : World) (k n m s : Nat) (hk : k < 256) (hn : n < 256) (hm : n % 65 = m) (hs : k % (m + 1) = s) (h : s = m) :
    Calls Try.prog 7 #[.int .u8 (k : Int), .int .u8 (n : Int)] w (Yes w) := by
  have k1 : (k : Int) ≤ 255 := by omega
  have n1 : (n : Int) ≤ 255 := by omega
  have hm1 : (n : Int) % 65 = (m : Int) := by omega
  have m64 : m ≤ 64 := by omega
  have hsm : s ≤ m := by have := Nat.mod_lt k (show 0 < m + 1 by omega); omega
  obtain ⟨p, hp⟩ : ∃ p, m + 1 = p := ⟨_, rfl⟩
  have hwp : IntKind.i64.wrap ((m : Int) + 1) = (p : Int) := by rw [IntWalk.i64_in _ (by omega)]; omega
  have hs1 : (k : Int) % (p : Int) = (s : Int) := by rw [← hp, ← hs]; exact (Int.natCast_emod k (m + 1)).symm
  have p1 : (1 : Int) ≤ p := by omega
  have p2 : (p : Int) ≤ 65 := by omega
  have m1 : (m : Int) ≤ 64 := by omega
  have s1 : (s : Int) ≤ m := by omega
  have M64 := Lib.hid m64
  have SM := Lib.hid hsm
  clear hk hn hm hs hp m64
  subst h
  clear hsm SM s1
  go_enter Try.func7, Try.ntmps7
  go_wp2_with fail
  refine (awake13_calls _).mono ?_
  rintro e w1 ⟨rfl, x1⟩
  have e1_ : Ext w w1 := Ext.trans (Ext.refl w) x1
  go_wp2_with fail
  refine (plcost_q _ s s (Nat.le_refl _) M64.out 0 (Nat.sub_self _) rfl).mono ?_
  rintro e w2 ⟨sb2, sv2, su2, sm2, sd2, rfl, e2, o2, x2⟩
  have e2_ : Ext w w2 := Ext.trans e1_ x2
  obtain ⟨sp2, sl2, sc2, tp2, tl2, tc2, rfl, rfl⟩ := e2.slice
  go_wp2_with fail
  obtain ⟨v3, hv3⟩ : ∃ W, W = (w2.alloc (.cells #[.bool sb2, .slice sp2 sl2 sc2, .slice tp2 tl2 tc2] 51)) := ⟨_, rfl⟩
  have y3 : Ext w2 v3 := by rw [hv3]; exact ((Ext.refl _).alloc _)
  have b0_0 : Hid (At (w2.heap.size) 0 (.bool sb2) v3) := by rw [hv3]; exact At.ext (At.n0 (by rfl)) (Ext.refl _)
  have b0_1 : Hid (At (w2.heap.size) 1 (.slice sp2 sl2 sc2) v3) := by rw [hv3]; exact At.ext (At.n0 (by rfl)) (Ext.refl _)
  have b0_2 : Hid (At (w2.heap.size) 2 (.slice tp2 tl2 tc2) v3) := by rw [hv3]; exact At.ext (At.n0 (by rfl)) (Ext.refl _)
  have k0 : Hid (Bx 3 (w2.heap.size) v3) := by rw [hv3]; exact Bx.gr (Bx.n0 3 ⟨rfl, by decide⟩ (by decide) noI_s3) (Ext.gr (Ext.refl _))
  have u0 : Hid (w2.heap.size < v3.heap.size) := b0_0.out.2
  have e3_ : Ext w v3 := Ext.trans e2_ y3
  rw [← hv3]
  clear hv3
  have hkeep1 : AllAt' ([(w2.heap.size, 0, .bool sb2), (w2.heap.size, 1, .slice sp2 sl2 sc2), (w2.heap.size, 2, .slice tp2 tl2 tc2)] : List (Nat × Nat × Value)) v3 := AllAt'.cons b0_0.out (AllAt'.cons b0_1.out (AllAt'.cons b0_2.out (AllAt'.nil _)))
  have hob1 : ObOk w.heap.size v3 (([(w2.heap.size, 0, .bool sb2), (w2.heap.size, 1, .slice sp2 sl2 sc2), (w2.heap.size, 2, .slice tp2 tl2 tc2)] : List (Nat × Nat × Value)).map (·.1)) ([] : List (Nat × List (Nat × Value))) := trivial
  have hne1 : AllNe (([] : List (Nat × List (Nat × Value))).map (·.1)) := trivial
  (try simp only [List.append_eq, List.cons_append, List.nil_append])
  refine wp_region_gen ⟨[32, 33, 34, 35, 36, 37, 38, 4], fun i => false, fun i => ([none, none, none, none, none, none, none, none] : List (Option (BoxRef × Nat))).getD i none, fun i => ([Sg.val (.int .i64 0), Sg.val (.bool true), Sg.val (.bool true), Sg.ratO w.heap.size (0 : Rat), Sg.ratO w.heap.size ((0 : Int) : Rat), Sg.val (.bool true), Sg.val (.bool true), Sg.val (.bool true)] : List Sg).getD i Sg.any, [(w2.heap.size, 0, .bool sb2), (w2.heap.size, 1, .slice sp2 sl2 sc2), (w2.heap.size, 2, .slice tp2 tl2 tc2)], []⟩ w.heap.size (by kernel_rfl) (by kernel_rfl) e3_.size ?hfr hkeep1 hob1 hne1 ?hs ?he
  case hfr =>
    intro i v wk hi hst hv
    exact absurd hi (by simp)
  case hs =>
    refine ⟨?_, ?_, ?_, ?_, ?_, ?_, ?_, ?_, trivial⟩
    · refine RStep.op rfl rfl (fun ac wk hp K hK => ?_)
      have t8_ : ac.tmps[8]?.getD undef = .int .i64 0 := hp.slot 8 rfl rfl
      have HP := Lib.hid hp
      clear hp
      go_simp
      refine hK.out _ _ ?_ (Ext.refl _) (fun h => absurd h (by simp))
      exact rfl
    · refine RStep.op rfl rfl (fun ac wk hp K hK => ?_)
      have u0e := hp.get 0 (by decide +kernel) rfl
      have t32_ : ac.tmps[32]?.getD undef = .int .i64 0 := slot_is' u0e
      have HP := Lib.hid hp
      clear hp
      go_simp
      refine hK.out _ _ ?_ (Ext.refl _) (fun h => absurd h (by simp))
      exact rfl
    · refine RStep.op rfl rfl (fun ac wk hp K hK => ?_)
      have u1e := hp.get 1 (by decide +kernel) rfl
      have t33_ : ac.tmps[33]?.getD undef = .bool true := slot_is' u1e
      have HP := Lib.hid hp
      clear hp
      go_simp
      refine hK.out _ _ ?_ (Ext.refl _) (fun h => absurd h (by simp))
      exact rfl
    · refine RStep.yes 2 true rfl rfl (by decide +kernel) rfl rfl (fun ac wk hp K hK => ?_)
      have t7_ : ac.tmps[7]?.getD undef = .pointer (some ⟨w2.heap.size, 0, none⟩) := hp.slot 7 rfl rfl
      have c0_ := hp.cell 0 rfl
      have c1_ := hp.cell 1 rfl
      have c2_ := hp.cell 2 rfl
      have HP := Lib.hid hp
      clear hp
      go_simp
      refine hK.out _ _ ?_ (Ext.refl _) (fun h => absurd h (by simp))
      exact ⟨_, _, _, _, _, _, _, _, _, rfl, (e2.gr (y3.gr.trans HP.out.gr)), ((o2.gr (y3.gr.trans HP.out.gr)).mono e1_.size)⟩
    · refine RStep.yes 2 true rfl rfl (by decide +kernel) rfl rfl (fun ac wk hp K hK => ?_)
      have HP := Lib.hid hp
      clear hp
      go_simp
      refine (rof_is _ 0 (by decide) (by decide)).mono ?_
      rintro e wk' ⟨sb3, sv3, su3, sm3, sd3, rfl, e3, o3, ix⟩
      obtain ⟨sp3, sl3, sc3, tp3, tl3, tc3, rfl, rfl⟩ := e3.slice
      refine hK.out _ _ ?_ ix (fun h => absurd h (by simp))
      exact ⟨_, _, _, _, _, _, _, _, _, rfl, e3, (o3.mono (Nat.le_trans e3_.size HP.out.gr.size))⟩
    · refine RStep.yes 2 true rfl rfl (by decide +kernel) rfl rfl (fun ac wk hp K hK => ?_)
      obtain ⟨u3b, u3p, u3n, u3c, u3q, u3k, u3d, u3m, u3l, u3e, u3i, u3o⟩ := hp.get 3 (by decide +kernel) rfl
      have t35_ : ac.tmps[35]?.getD undef = .agg #[.bool u3b, .slice u3p u3n u3c, .slice u3q u3k u3d] := slot_is' u3e
      obtain ⟨u4b, u4p, u4n, u4c, u4q, u4k, u4d, u4m, u4l, u4e, u4i, u4o⟩ := hp.get 4 (by decide +kernel) rfl
      have t36_ : ac.tmps[36]?.getD undef = .agg #[.bool u4b, .slice u4p u4n u4c, .slice u4q u4k u4d] := slot_is' u4e
      have HP := Lib.hid hp
      clear hp
      go_simp
      refine (is_is u3i u4i true (decide_eq_true (show ((0 : Rat) : Rat) = ((0 : Int) : Rat) from rfl))).mono ?_
      rintro e wk' ⟨rfl, ix⟩
      refine hK.out _ _ ?_ ix (fun h => absurd h (by simp))
      exact rfl
    · refine RStep.op rfl rfl (fun ac wk hp K hK => ?_)
      have u2e := hp.get 2 (by decide +kernel) rfl
      have t34_ : ac.tmps[34]?.getD undef = .bool true := slot_is' u2e
      have u5e := hp.get 5 (by decide +kernel) rfl
      have t37_ : ac.tmps[37]?.getD undef = .bool true := slot_is' u5e
      have HP := Lib.hid hp
      clear hp
      go_simp
      refine hK.out _ _ ?_ (Ext.refl _) (fun h => absurd h (by simp))
      exact rfl
    · refine RStep.op rfl rfl (fun ac wk hp K hK => ?_)
      have u6e := hp.get 6 (by decide +kernel) rfl
      have t38_ : ac.tmps[38]?.getD undef = .bool true := slot_is' u6e
      have HP := Lib.hid hp
      clear hp
      go_simp
      refine hK.out _ _ ?_ (Ext.refl _) (fun h => absurd h (by simp))
      exact rfl
  case he =>
    intro ac v4 hM
    have y1_0e := hM.post 0 rfl rfl
    have y1_1e := hM.post 1 rfl rfl
    have y1_2e := hM.post 2 rfl rfl
    obtain ⟨y1_3b, y1_3p, y1_3n, y1_3c, y1_3q, y1_3k, y1_3d, y1_3m, y1_3l, y1_3e, y1_3i, y1_3o⟩ := hM.post 3 rfl rfl
    obtain ⟨y1_4b, y1_4p, y1_4n, y1_4c, y1_4q, y1_4k, y1_4d, y1_4m, y1_4l, y1_4e, y1_4i, y1_4o⟩ := hM.post 4 rfl rfl
    have y1_5e := hM.post 5 rfl rfl
    have y1_6e := hM.post 6 rfl rfl
    have y1_7e := hM.post 7 rfl rfl
    have b0_0 : Hid (At (w2.heap.size) 0 (.bool sb2) v4) := Lib.hid (hM.keep.at 0 rfl)
    have b0_1 : Hid (At (w2.heap.size) 1 (.slice sp2 sl2 sc2) v4) := Lib.hid (hM.keep.at 1 rfl)
    have b0_2 : Hid (At (w2.heap.size) 2 (.slice tp2 tl2 tc2) v4) := Lib.hid (hM.keep.at 2 rfl)
    have gv4 : Gr v3 v4 := hM.gr
    have e4_ : Ext w v4 := Ext.below e3_ hM.blw
    have z0_ : sl ac 32 = .int .i64 0 := y1_0e
    have z1_ : sl ac 33 = .bool true := y1_1e
    have z2_ : sl ac 34 = .bool true := y1_2e
    have z3_ : sl ac 35 = .agg #[.bool y1_3b, .slice y1_3p y1_3n y1_3c, .slice y1_3q y1_3k y1_3d] := y1_3e
    have z4_ : sl ac 36 = .agg #[.bool y1_4b, .slice y1_4p y1_4n y1_4c, .slice y1_4q y1_4k y1_4d] := y1_4e
    have z5_ : sl ac 37 = .bool true := y1_5e
    have z6_ : sl ac 38 = .bool true := y1_6e
    have z7_ : sl ac 4 = .bool true := y1_7e
    rw [hM.ag.lay]
    simp only [lay, List.foldl_cons, List.foldl_nil, List.setIfInBounds_toArray, List.set_cons_zero, List.set_cons_succ, z0_, z1_, z2_, z3_, z4_, z5_, z6_, z7_]
    clear hM hkeep1 hob1 hne1 z0_ z1_ z2_ z3_ z4_ z5_ z6_ z7_ y1_0e y1_1e y1_2e y1_3e y1_4e y1_5e y1_6e y1_7e
    go_wp2_with fail
    go_ret
    exact ⟨rfl, e4_⟩

set_option maxHeartbeats 8000000 in
set_option maxRecDepth 100000 in
theorem poolSums_less (w : World) (k n m s : Nat) (hk : k < 256) (hn : n < 256) (hm : n % 65 = m) (hs : k % (m + 1) = s) (h : s < m) :
    Calls Try.prog 7 #[.int .u8 (k : Int), .int .u8 (n : Int)] w (Yes w) := by
  have k1 : (k : Int) ≤ 255 := by omega
  have n1 : (n : Int) ≤ 255 := by omega
  have hm1 : (n : Int) % 65 = (m : Int) := by omega
  have m64 : m ≤ 64 := by omega
  have hsm : s ≤ m := by have := Nat.mod_lt k (show 0 < m + 1 by omega); omega
  obtain ⟨p, hp⟩ : ∃ p, m + 1 = p := ⟨_, rfl⟩
  have hwp : IntKind.i64.wrap ((m : Int) + 1) = (p : Int) := by rw [IntWalk.i64_in _ (by omega)]; omega
  have hs1 : (k : Int) % (p : Int) = (s : Int) := by rw [← hp, ← hs]; exact (Int.natCast_emod k (m + 1)).symm
  have p1 : (1 : Int) ≤ p := by omega
  have p2 : (p : Int) ≤ 65 := by omega
  have m1 : (m : Int) ≤ 64 := by omega
  have s1 : (s : Int) ≤ m := by omega
  have M64 := Lib.hid m64
  have SM := Lib.hid hsm
  clear hk hn hm hs hp m64
  obtain ⟨r, hr⟩ : ∃ r, m - 1 = r := ⟨_, rfl⟩
  obtain ⟨j, hj⟩ : ∃ j, r - s = j := ⟨_, rfl⟩
  have hwr : IntKind.i64.wrap ((m : Int) - 1) = (r : Int) := by rw [IntWalk.i64_in _ (by omega)]; omega
  have r1 : (r : Int) ≤ 63 := by omega
  have s2 : (s : Int) + 1 ≤ m := by omega
  have SR : Hid (s ≤ r) := by show s ≤ r; omega
  have R64 : Hid (r ≤ 64) := by show r ≤ 64; have := M64.out; omega
  have HJ := Lib.hid hj
  have HJ1 : Hid (m - s = j + 1) := by show _ = _; omega
  have HQ : Hid (costTo s (j + 1) = costTo s j + costQ m) := by show _ = _; rw [costTo, show s + j + 1 = m by omega]
  have MB : Hid (m < Bs) := by show m < Bs; rw [Bs_def]; have := M64.out; omega
  have M1 : Hid (1 ≤ m) := by show 1 ≤ m; omega
  have L1 : Hid (LenR (3 * j + 1) (costTo s j)) := costTo_len s (by rw [Bs_def]; have := M64.out; omega)
  have L2 : Hid (LenR (3 * j + 4) (costTo s (j + 1))) := costTo_len s (j := j + 1) (by rw [Bs_def]; have := M64.out; omega)
  have J64 : Hid (j ≤ 64) := by show j ≤ 64; have := M64.out; omega
  clear hr hj h hsm s1
  go_enter Try.func7, Try.ntmps7
  go_wp2_with fail
  refine (awake13_calls _).mono ?_
  rintro e w1 ⟨rfl, x1⟩
  have e1_ : Ext w w1 := Ext.trans (Ext.refl w) x1
  go_wp2_with fail
  refine (plcost_q _ s m SM.out M64.out (j + 1) HJ1.out rfl).mono ?_
  rintro e w2 ⟨sb2, sv2, su2, sm2, sd2, rfl, e2, o2, x2⟩
  have e2_ : Ext w w2 := Ext.trans e1_ x2
  obtain ⟨sp2, sl2, sc2, tp2, tl2, tc2, rfl, rfl⟩ := e2.slice
  go_wp2_with fail
  obtain ⟨v3, hv3⟩ : ∃ W, W = (w2.alloc (.cells #[.bool sb2, .slice sp2 sl2 sc2, .slice tp2 tl2 tc2] 51)) := ⟨_, rfl⟩
  have y3 : Ext w2 v3 := by rw [hv3]; exact ((Ext.refl _).alloc _)
  have b0_0 : Hid (At (w2.heap.size) 0 (.bool sb2) v3) := by rw [hv3]; exact At.ext (At.n0 (by rfl)) (Ext.refl _)
  have b0_1 : Hid (At (w2.heap.size) 1 (.slice sp2 sl2 sc2) v3) := by rw [hv3]; exact At.ext (At.n0 (by rfl)) (Ext.refl _)
  have b0_2 : Hid (At (w2.heap.size) 2 (.slice tp2 tl2 tc2) v3) := by rw [hv3]; exact At.ext (At.n0 (by rfl)) (Ext.refl _)
  have k0 : Hid (Bx 3 (w2.heap.size) v3) := by rw [hv3]; exact Bx.gr (Bx.n0 3 ⟨rfl, by decide⟩ (by decide) noI_s3) (Ext.gr (Ext.refl _))
  have u0 : Hid (w2.heap.size < v3.heap.size) := b0_0.out.2
  have e3_ : Ext w v3 := Ext.trans e2_ y3
  rw [← hv3]
  clear hv3
  refine (plcost_q _ s r SR.out R64.out j HJ.out rfl).mono ?_
  rintro e w4 ⟨sb3, sv3, su3, sm3, sd3, rfl, e3, o3, x4⟩
  have e4_ : Ext w w4 := Ext.trans e3_ x4
  obtain ⟨sp3, sl3, sc3, tp3, tl3, tc3, rfl, rfl⟩ := e3.slice
  go_wp2_with fail
  obtain ⟨v5, hv5⟩ : ∃ W, W = (w4.alloc (.cells #[.bool sb3, .slice sp3 sl3 sc3, .slice tp3 tl3 tc3] 51)) := ⟨_, rfl⟩
  have y5 : Ext w4 v5 := by rw [hv5]; exact ((Ext.refl _).alloc _)
  have b1_0 : Hid (At (w4.heap.size) 0 (.bool sb3) v5) := by rw [hv5]; exact At.ext (At.n0 (by rfl)) (Ext.refl _)
  have b1_1 : Hid (At (w4.heap.size) 1 (.slice sp3 sl3 sc3) v5) := by rw [hv5]; exact At.ext (At.n0 (by rfl)) (Ext.refl _)
  have b1_2 : Hid (At (w4.heap.size) 2 (.slice tp3 tl3 tc3) v5) := by rw [hv5]; exact At.ext (At.n0 (by rfl)) (Ext.refl _)
  have k1 : Hid (Bx 3 (w4.heap.size) v5) := by rw [hv5]; exact Bx.gr (Bx.n0 3 ⟨rfl, by decide⟩ (by decide) noI_s3) (Ext.gr (Ext.refl _))
  have u1 : Hid (w4.heap.size < v5.heap.size) := b1_0.out.2
  have e5_ : Ext w v5 := Ext.trans e4_ y5
  rw [← hv5]
  clear hv5
  refine (bcost_is m MB.out M1.out).mono ?_
  rintro e w6 ⟨sb4, sv4, su4, sm4, sd4, rfl, e4, o4, x6⟩
  have e6_ : Ext w w6 := Ext.trans e5_ x6
  obtain ⟨sp4, sl4, sc4, tp4, tl4, tc4, rfl, rfl⟩ := e4.slice
  go_wp2_with fail
  obtain ⟨v7, hv7⟩ : ∃ W, W = (w6.alloc (.cells #[.bool sb4, .slice sp4 sl4 sc4, .slice tp4 tl4 tc4] 51)) := ⟨_, rfl⟩
  have y7 : Ext w6 v7 := by rw [hv7]; exact ((Ext.refl _).alloc _)
  have b2_0 : Hid (At (w6.heap.size) 0 (.bool sb4) v7) := by rw [hv7]; exact At.ext (At.n0 (by rfl)) (Ext.refl _)
  have b2_1 : Hid (At (w6.heap.size) 1 (.slice sp4 sl4 sc4) v7) := by rw [hv7]; exact At.ext (At.n0 (by rfl)) (Ext.refl _)
  have b2_2 : Hid (At (w6.heap.size) 2 (.slice tp4 tl4 tc4) v7) := by rw [hv7]; exact At.ext (At.n0 (by rfl)) (Ext.refl _)
  have k2 : Hid (Bx 3 (w6.heap.size) v7) := by rw [hv7]; exact Bx.gr (Bx.n0 3 ⟨rfl, by decide⟩ (by decide) noI_s3) (Ext.gr (Ext.refl _))
  have u2 : Hid (w6.heap.size < v7.heap.size) := b2_0.out.2
  have e7_ : Ext w v7 := Ext.trans e6_ y7
  rw [← hv7]
  clear hv7
  have hkeep1 : AllAt' ([(w2.heap.size, 0, .bool sb2), (w2.heap.size, 1, .slice sp2 sl2 sc2), (w2.heap.size, 2, .slice tp2 tl2 tc2), (w4.heap.size, 0, .bool sb3), (w4.heap.size, 1, .slice sp3 sl3 sc3), (w4.heap.size, 2, .slice tp3 tl3 tc3), (w6.heap.size, 0, .bool sb4), (w6.heap.size, 1, .slice sp4 sl4 sc4), (w6.heap.size, 2, .slice tp4 tl4 tc4)] : List (Nat × Nat × Value)) v7 := AllAt'.cons (b0_0.out.ext (x4.trans (y5.trans (x6.trans y7)))) (AllAt'.cons (b0_1.out.ext (x4.trans (y5.trans (x6.trans y7)))) (AllAt'.cons (b0_2.out.ext (x4.trans (y5.trans (x6.trans y7)))) (AllAt'.cons (b1_0.out.ext (x6.trans y7)) (AllAt'.cons (b1_1.out.ext (x6.trans y7)) (AllAt'.cons (b1_2.out.ext (x6.trans y7)) (AllAt'.cons b2_0.out (AllAt'.cons b2_1.out (AllAt'.cons b2_2.out (AllAt'.nil _)))))))))
  have hob1 : ObOk w.heap.size v7 (([(w2.heap.size, 0, .bool sb2), (w2.heap.size, 1, .slice sp2 sl2 sc2), (w2.heap.size, 2, .slice tp2 tl2 tc2), (w4.heap.size, 0, .bool sb3), (w4.heap.size, 1, .slice sp3 sl3 sc3), (w4.heap.size, 2, .slice tp3 tl3 tc3), (w6.heap.size, 0, .bool sb4), (w6.heap.size, 1, .slice sp4 sl4 sc4), (w6.heap.size, 2, .slice tp4 tl4 tc4)] : List (Nat × Nat × Value)).map (·.1)) ([] : List (Nat × List (Nat × Value))) := trivial
  have hne1 : AllNe (([] : List (Nat × List (Nat × Value))).map (·.1)) := trivial
  (try simp only [List.append_eq, List.cons_append, List.nil_append])
  refine wp_region_gen ⟨[52, 53, 54, 55, 56, 57, 58, 59, 60, 61, 62, 63, 64, 65, 66, 67, 68, 4], fun i => false, fun i => ([none, none, none, none, none, none, none, none, none, none, none, none, none, none, none, none, none, none] : List (Option (BoxRef × Nat))).getD i none, fun i => ([Sg.val (.int .i64 0), Sg.val (.bool true), Sg.val (.bool true), Sg.val (.int .i64 0), Sg.val (.bool true), Sg.val (.bool true), Sg.val (.bool true), Sg.val (.int .i64 0), Sg.val (.bool true), Sg.val (.bool true), Sg.val (.bool true), Sg.ratO w.heap.size (costTo s (j + 1)), Sg.ratO w.heap.size (costTo s j), Sg.ratO w.heap.size (costQ m), Sg.ratO w.heap.size ((costTo s j) + (costQ m)), Sg.val (.bool true), Sg.val (.bool true), Sg.val (.bool true)] : List Sg).getD i Sg.any, [(w2.heap.size, 0, .bool sb2), (w2.heap.size, 1, .slice sp2 sl2 sc2), (w2.heap.size, 2, .slice tp2 tl2 tc2), (w4.heap.size, 0, .bool sb3), (w4.heap.size, 1, .slice sp3 sl3 sc3), (w4.heap.size, 2, .slice tp3 tl3 tc3), (w6.heap.size, 0, .bool sb4), (w6.heap.size, 1, .slice sp4 sl4 sc4), (w6.heap.size, 2, .slice tp4 tl4 tc4)], []⟩ w.heap.size (by kernel_rfl) (by kernel_rfl) e7_.size ?hfr hkeep1 hob1 hne1 ?hs ?he
  case hfr =>
    intro i v wk hi hst hv
    exact absurd hi (by simp)
  case hs =>
    refine ⟨?_, ?_, ?_, ?_, ?_, ?_, ?_, ?_, ?_, ?_, ?_, ?_, ?_, ?_, ?_, ?_, ?_, ?_, trivial⟩
    · refine RStep.op rfl rfl (fun ac wk hp K hK => ?_)
      have t8_ : ac.tmps[8]?.getD undef = .int .i64 0 := hp.slot 8 rfl rfl
      have HP := Lib.hid hp
      clear hp
      go_simp
      refine hK.out _ _ ?_ (Ext.refl _) (fun h => absurd h (by simp))
      exact rfl
    · refine RStep.op rfl rfl (fun ac wk hp K hK => ?_)
      have u0e := hp.get 0 (by decide +kernel) rfl
      have t52_ : ac.tmps[52]?.getD undef = .int .i64 0 := slot_is' u0e
      have HP := Lib.hid hp
      clear hp
      go_simp
      refine hK.out _ _ ?_ (Ext.refl _) (fun h => absurd h (by simp))
      exact rfl
    · refine RStep.op rfl rfl (fun ac wk hp K hK => ?_)
      have u1e := hp.get 1 (by decide +kernel) rfl
      have t53_ : ac.tmps[53]?.getD undef = .bool true := slot_is' u1e
      have HP := Lib.hid hp
      clear hp
      go_simp
      refine hK.out _ _ ?_ (Ext.refl _) (fun h => absurd h (by simp))
      exact rfl
    · refine RStep.yes 2 true rfl rfl (by decide +kernel) rfl rfl (fun ac wk hp K hK => ?_)
      have t10_ : ac.tmps[10]?.getD undef = .int .i64 0 := hp.slot 10 rfl rfl
      have HP := Lib.hid hp
      clear hp
      go_simp
      refine hK.out _ _ ?_ (Ext.refl _) (fun h => absurd h (by simp))
      exact rfl
    · refine RStep.yes 2 true rfl rfl (by decide +kernel) rfl rfl (fun ac wk hp K hK => ?_)
      have u3e := hp.get 3 (by decide +kernel) rfl
      have t55_ : ac.tmps[55]?.getD undef = .int .i64 0 := slot_is' u3e
      have HP := Lib.hid hp
      clear hp
      go_simp
      refine hK.out _ _ ?_ (Ext.refl _) (fun h => absurd h (by simp))
      exact rfl
    · refine RStep.op rfl rfl (fun ac wk hp K hK => ?_)
      have u2e := hp.get 2 (by decide +kernel) rfl
      have t54_ : ac.tmps[54]?.getD undef = .bool true := slot_is' u2e
      have u4e := hp.get 4 (by decide +kernel) rfl
      have t56_ : ac.tmps[56]?.getD undef = .bool true := slot_is' u4e
      have HP := Lib.hid hp
      clear hp
      go_simp
      refine hK.out _ _ ?_ (Ext.refl _) (fun h => absurd h (by simp))
      exact rfl
    · refine RStep.op rfl rfl (fun ac wk hp K hK => ?_)
      have u5e := hp.get 5 (by decide +kernel) rfl
      have t57_ : ac.tmps[57]?.getD undef = .bool true := slot_is' u5e
      have HP := Lib.hid hp
      clear hp
      go_simp
      refine hK.out _ _ ?_ (Ext.refl _) (fun h => absurd h (by simp))
      exact rfl
    · refine RStep.yes 6 true rfl rfl (by decide +kernel) rfl rfl (fun ac wk hp K hK => ?_)
      have t12_ : ac.tmps[12]?.getD undef = .int .i64 0 := hp.slot 12 rfl rfl
      have HP := Lib.hid hp
      clear hp
      go_simp
      refine hK.out _ _ ?_ (Ext.refl _) (fun h => absurd h (by simp))
      exact rfl
    · refine RStep.yes 6 true rfl rfl (by decide +kernel) rfl rfl (fun ac wk hp K hK => ?_)
      have u7e := hp.get 7 (by decide +kernel) rfl
      have t59_ : ac.tmps[59]?.getD undef = .int .i64 0 := slot_is' u7e
      have HP := Lib.hid hp
      clear hp
      go_simp
      refine hK.out _ _ ?_ (Ext.refl _) (fun h => absurd h (by simp))
      exact rfl
    · refine RStep.op rfl rfl (fun ac wk hp K hK => ?_)
      have u6e := hp.get 6 (by decide +kernel) rfl
      have t58_ : ac.tmps[58]?.getD undef = .bool true := slot_is' u6e
      have u8e := hp.get 8 (by decide +kernel) rfl
      have t60_ : ac.tmps[60]?.getD undef = .bool true := slot_is' u8e
      have HP := Lib.hid hp
      clear hp
      go_simp
      refine hK.out _ _ ?_ (Ext.refl _) (fun h => absurd h (by simp))
      exact rfl
    · refine RStep.op rfl rfl (fun ac wk hp K hK => ?_)
      have u9e := hp.get 9 (by decide +kernel) rfl
      have t61_ : ac.tmps[61]?.getD undef = .bool true := slot_is' u9e
      have HP := Lib.hid hp
      clear hp
      go_simp
      refine hK.out _ _ ?_ (Ext.refl _) (fun h => absurd h (by simp))
      exact rfl
    · refine RStep.yes 10 true rfl rfl (by decide +kernel) rfl rfl (fun ac wk hp K hK => ?_)
      have t7_ : ac.tmps[7]?.getD undef = .pointer (some ⟨w2.heap.size, 0, none⟩) := hp.slot 7 rfl rfl
      have c0_ := hp.cell 0 rfl
      have c1_ := hp.cell 1 rfl
      have c2_ := hp.cell 2 rfl
      have HP := Lib.hid hp
      clear hp
      go_simp
      refine hK.out _ _ ?_ (Ext.refl _) (fun h => absurd h (by simp))
      exact ⟨_, _, _, _, _, _, _, _, _, rfl, (e2.gr ((y3.gr.trans (x4.gr.trans (y5.gr.trans (x6.gr.trans y7.gr)))).trans HP.out.gr)), ((o2.gr ((y3.gr.trans (x4.gr.trans (y5.gr.trans (x6.gr.trans y7.gr)))).trans HP.out.gr)).mono e1_.size)⟩
    · refine RStep.yes 10 true rfl rfl (by decide +kernel) rfl rfl (fun ac wk hp K hK => ?_)
      have t9_ : ac.tmps[9]?.getD undef = .pointer (some ⟨w4.heap.size, 0, none⟩) := hp.slot 9 rfl rfl
      have c0_ := hp.cell 3 rfl
      have c1_ := hp.cell 4 rfl
      have c2_ := hp.cell 5 rfl
      have HP := Lib.hid hp
      clear hp
      go_simp
      refine hK.out _ _ ?_ (Ext.refl _) (fun h => absurd h (by simp))
      exact ⟨_, _, _, _, _, _, _, _, _, rfl, (e3.gr ((y5.gr.trans (x6.gr.trans y7.gr)).trans HP.out.gr)), ((o3.gr ((y5.gr.trans (x6.gr.trans y7.gr)).trans HP.out.gr)).mono e3_.size)⟩
    · refine RStep.yes 10 true rfl rfl (by decide +kernel) rfl rfl (fun ac wk hp K hK => ?_)
      have t11_ : ac.tmps[11]?.getD undef = .pointer (some ⟨w6.heap.size, 0, none⟩) := hp.slot 11 rfl rfl
      have c0_ := hp.cell 6 rfl
      have c1_ := hp.cell 7 rfl
      have c2_ := hp.cell 8 rfl
      have HP := Lib.hid hp
      clear hp
      go_simp
      refine hK.out _ _ ?_ (Ext.refl _) (fun h => absurd h (by simp))
      exact ⟨_, _, _, _, _, _, _, _, _, rfl, (e4.gr (y7.gr.trans HP.out.gr)), ((o4.gr (y7.gr.trans HP.out.gr)).mono e5_.size)⟩
    · refine RStep.yes 10 true rfl rfl (by decide +kernel) rfl rfl (fun ac wk hp K hK => ?_)
      obtain ⟨u12b, u12p, u12n, u12c, u12q, u12k, u12d, u12m, u12l, u12e, u12i, u12o⟩ := hp.get 12 (by decide +kernel) rfl
      have t64_ : ac.tmps[64]?.getD undef = .agg #[.bool u12b, .slice u12p u12n u12c, .slice u12q u12k u12d] := slot_is' u12e
      obtain ⟨u13b, u13p, u13n, u13c, u13q, u13k, u13d, u13m, u13l, u13e, u13i, u13o⟩ := hp.get 13 (by decide +kernel) rfl
      have t65_ : ac.tmps[65]?.getD undef = .agg #[.bool u13b, .slice u13p u13n u13c, .slice u13q u13k u13d] := slot_is' u13e
      have HP := Lib.hid hp
      clear hp
      go_simp
      refine (radd_is (u12i.inR (k := (3 * j + 1)) L1.out) (u13i.inR (k := 2) (costQ_len MB.out)) (by have := J64.out; omega)).mono ?_
      rintro e wk' ⟨sb5, sv5, su5, sm5, sd5, rfl, e5, o5, ix⟩
      obtain ⟨sp5, sl5, sc5, tp5, tl5, tc5, rfl, rfl⟩ := e5.slice
      refine hK.out _ _ ?_ ix (fun h => absurd h (by simp))
      exact ⟨_, _, _, _, _, _, _, _, _, rfl, e5, (o5.mono (Nat.le_trans e7_.size HP.out.gr.size))⟩
    · refine RStep.yes 10 true rfl rfl (by decide +kernel) rfl rfl (fun ac wk hp K hK => ?_)
      obtain ⟨u11b, u11p, u11n, u11c, u11q, u11k, u11d, u11m, u11l, u11e, u11i, u11o⟩ := hp.get 11 (by decide +kernel) rfl
      have t63_ : ac.tmps[63]?.getD undef = .agg #[.bool u11b, .slice u11p u11n u11c, .slice u11q u11k u11d] := slot_is' u11e
      obtain ⟨u14b, u14p, u14n, u14c, u14q, u14k, u14d, u14m, u14l, u14e, u14i, u14o⟩ := hp.get 14 (by decide +kernel) rfl
      have t66_ : ac.tmps[66]?.getD undef = .agg #[.bool u14b, .slice u14p u14n u14c, .slice u14q u14k u14d] := slot_is' u14e
      have HP := Lib.hid hp
      clear hp
      go_simp
      refine (is_is u11i u14i true (decide_eq_true (show ((costTo s (j + 1)) : Rat) = ((costTo s j) + (costQ m)) from HQ.out))).mono ?_
      rintro e wk' ⟨rfl, ix⟩
      refine hK.out _ _ ?_ ix (fun h => absurd h (by simp))
      exact rfl
    · refine RStep.op rfl rfl (fun ac wk hp K hK => ?_)
      have u10e := hp.get 10 (by decide +kernel) rfl
      have t62_ : ac.tmps[62]?.getD undef = .bool true := slot_is' u10e
      have u15e := hp.get 15 (by decide +kernel) rfl
      have t67_ : ac.tmps[67]?.getD undef = .bool true := slot_is' u15e
      have HP := Lib.hid hp
      clear hp
      go_simp
      refine hK.out _ _ ?_ (Ext.refl _) (fun h => absurd h (by simp))
      exact rfl
    · refine RStep.op rfl rfl (fun ac wk hp K hK => ?_)
      have u16e := hp.get 16 (by decide +kernel) rfl
      have t68_ : ac.tmps[68]?.getD undef = .bool true := slot_is' u16e
      have HP := Lib.hid hp
      clear hp
      go_simp
      refine hK.out _ _ ?_ (Ext.refl _) (fun h => absurd h (by simp))
      exact rfl
  case he =>
    intro ac v8 hM
    have y1_0e := hM.post 0 rfl rfl
    have y1_1e := hM.post 1 rfl rfl
    have y1_2e := hM.post 2 rfl rfl
    have y1_3e := hM.post 3 rfl rfl
    have y1_4e := hM.post 4 rfl rfl
    have y1_5e := hM.post 5 rfl rfl
    have y1_6e := hM.post 6 rfl rfl
    have y1_7e := hM.post 7 rfl rfl
    have y1_8e := hM.post 8 rfl rfl
    have y1_9e := hM.post 9 rfl rfl
    have y1_10e := hM.post 10 rfl rfl
    obtain ⟨y1_11b, y1_11p, y1_11n, y1_11c, y1_11q, y1_11k, y1_11d, y1_11m, y1_11l, y1_11e, y1_11i, y1_11o⟩ := hM.post 11 rfl rfl
    obtain ⟨y1_12b, y1_12p, y1_12n, y1_12c, y1_12q, y1_12k, y1_12d, y1_12m, y1_12l, y1_12e, y1_12i, y1_12o⟩ := hM.post 12 rfl rfl
    obtain ⟨y1_13b, y1_13p, y1_13n, y1_13c, y1_13q, y1_13k, y1_13d, y1_13m, y1_13l, y1_13e, y1_13i, y1_13o⟩ := hM.post 13 rfl rfl
    obtain ⟨y1_14b, y1_14p, y1_14n, y1_14c, y1_14q, y1_14k, y1_14d, y1_14m, y1_14l, y1_14e, y1_14i, y1_14o⟩ := hM.post 14 rfl rfl
    have y1_15e := hM.post 15 rfl rfl
    have y1_16e := hM.post 16 rfl rfl
    have y1_17e := hM.post 17 rfl rfl
    have b0_0 : Hid (At (w2.heap.size) 0 (.bool sb2) v8) := Lib.hid (hM.keep.at 0 rfl)
    have b0_1 : Hid (At (w2.heap.size) 1 (.slice sp2 sl2 sc2) v8) := Lib.hid (hM.keep.at 1 rfl)
    have b0_2 : Hid (At (w2.heap.size) 2 (.slice tp2 tl2 tc2) v8) := Lib.hid (hM.keep.at 2 rfl)
    have b1_0 : Hid (At (w4.heap.size) 0 (.bool sb3) v8) := Lib.hid (hM.keep.at 3 rfl)
    have b1_1 : Hid (At (w4.heap.size) 1 (.slice sp3 sl3 sc3) v8) := Lib.hid (hM.keep.at 4 rfl)
    have b1_2 : Hid (At (w4.heap.size) 2 (.slice tp3 tl3 tc3) v8) := Lib.hid (hM.keep.at 5 rfl)
    have b2_0 : Hid (At (w6.heap.size) 0 (.bool sb4) v8) := Lib.hid (hM.keep.at 6 rfl)
    have b2_1 : Hid (At (w6.heap.size) 1 (.slice sp4 sl4 sc4) v8) := Lib.hid (hM.keep.at 7 rfl)
    have b2_2 : Hid (At (w6.heap.size) 2 (.slice tp4 tl4 tc4) v8) := Lib.hid (hM.keep.at 8 rfl)
    have gv8 : Gr v7 v8 := hM.gr
    have e8_ : Ext w v8 := Ext.below e7_ hM.blw
    have z0_ : sl ac 52 = .int .i64 0 := y1_0e
    have z1_ : sl ac 53 = .bool true := y1_1e
    have z2_ : sl ac 54 = .bool true := y1_2e
    have z3_ : sl ac 55 = .int .i64 0 := y1_3e
    have z4_ : sl ac 56 = .bool true := y1_4e
    have z5_ : sl ac 57 = .bool true := y1_5e
    have z6_ : sl ac 58 = .bool true := y1_6e
    have z7_ : sl ac 59 = .int .i64 0 := y1_7e
    have z8_ : sl ac 60 = .bool true := y1_8e
    have z9_ : sl ac 61 = .bool true := y1_9e
    have z10_ : sl ac 62 = .bool true := y1_10e
    have z11_ : sl ac 63 = .agg #[.bool y1_11b, .slice y1_11p y1_11n y1_11c, .slice y1_11q y1_11k y1_11d] := y1_11e
    have z12_ : sl ac 64 = .agg #[.bool y1_12b, .slice y1_12p y1_12n y1_12c, .slice y1_12q y1_12k y1_12d] := y1_12e
    have z13_ : sl ac 65 = .agg #[.bool y1_13b, .slice y1_13p y1_13n y1_13c, .slice y1_13q y1_13k y1_13d] := y1_13e
    have z14_ : sl ac 66 = .agg #[.bool y1_14b, .slice y1_14p y1_14n y1_14c, .slice y1_14q y1_14k y1_14d] := y1_14e
    have z15_ : sl ac 67 = .bool true := y1_15e
    have z16_ : sl ac 68 = .bool true := y1_16e
    have z17_ : sl ac 4 = .bool true := y1_17e
    rw [hM.ag.lay]
    simp only [lay, List.foldl_cons, List.foldl_nil, List.setIfInBounds_toArray, List.set_cons_zero, List.set_cons_succ, z0_, z1_, z2_, z3_, z4_, z5_, z6_, z7_, z8_, z9_, z10_, z11_, z12_, z13_, z14_, z15_, z16_, z17_]
    clear hM hkeep1 hob1 hne1 z0_ z1_ z2_ z3_ z4_ z5_ z6_ z7_ z8_ z9_ z10_ z11_ z12_ z13_ z14_ z15_ z16_ z17_ y1_0e y1_1e y1_2e y1_3e y1_4e y1_5e y1_6e y1_7e y1_8e y1_9e y1_10e y1_11e y1_12e y1_13e y1_14e y1_15e y1_16e y1_17e
    go_wp2_with fail
    go_ret
    exact ⟨rfl, e8_⟩

theorem poolSums_calls (w : World) (k n : Nat) (hk : k < 256) (hn : n < 256) :
    Calls Try.prog 7 #[.int .u8 (k : Int), .int .u8 (n : Int)] w (Yes w) := by
  have := Nat.mod_lt k (show 0 < n % 65 + 1 by omega)
  rcases Nat.lt_or_ge (k % (n % 65 + 1)) (n % 65) with h | h
  · exact poolSums_less w k n _ _ hk hn rfl rfl h
  · exact poolSums_all w k n _ _ hk hn rfl rfl (by omega)
end Go.Proofs.Ytkfioaoooodmnaa
