/- FreqCost answers true at all weights and strings. -/
import Derived.Test.YtkfioaoooodmnaaDoorPartH
namespace Go.Proofs.YtkfioaoooodmnaaDoor
open Go Go.RowKit

set_option maxHeartbeats 8000000 in
set_option maxRecDepth 100000 in
theorem freqCost_calls {w : World} {v : Value} {W : List Int} (hW : Ints w v W) (s : ByteArray) (hs : s.size ≤ maxLen) :
    Calls Tryd.prog 6 #[v, .string s] w (Yes w) := by
  obtain ⟨pw, cw, rfl⟩ := hW.slice
  have HW := Lib.hid hW
  have HS := Lib.hid hs
  clear hW hs
  by_cases hE : errW W = 0
  case neg =>
    obtain ⟨n, hn⟩ : ∃ n, errW W = n := ⟨_, rfl⟩
    have t1 : ((n : Int) != 0) = true := by rw [bne_iff_ne]; omega
    have N0 : Hid (n ≠ 0) := by show n ≠ 0; omega
    have HE := Lib.hid hn
    clear hn hE
    cases hk : okS s.data.toList with
    | true =>
      have HK := Lib.hid hk
      clear hk
      go_enter Tryd.func6, Tryd.ntmps6
      go_wp2_with fail
      refine (fnew_no HW.out n HE.out N0.out).mono ?_
      rintro e w1 ⟨rfl, x1⟩
      have e1_ : Ext w w1 := Ext.trans (Ext.refl w) x1
      go_wp2_with fail
      refine (cnew_ok s _ HS.out HK.out).mono ?_
      rintro e w2 ⟨cs2, rfl, cl2, cc2_, x2⟩
      have e2_ : Ext w w2 := Ext.trans e1_ x2
      have b0_0 : Hid (At (cs2) 0 (.string s) w2) := cc2_.c0
      have b0_1 : Hid (At (cs2) 1 (.int .i64 ((0 : Nat) : Int)) w2) := cc2_.c1
      have b0_2 : Hid (At (cs2) 2 (.bool false) w2) := cc2_.c2
      have k0 := Lib.hid cc2_.bx
      have l0 := Lib.hid cl2
      have u0 := Lib.hid cc2_.bx.lt
      clear cl2 cc2_
      go_wp2_with fail
      refine (cnew_ok s _ HS.out HK.out).mono ?_
      rintro e w3 ⟨cs3, rfl, cl3, cc3_, x3⟩
      have e3_ : Ext w w3 := Ext.trans e2_ x3
      have b1_0 : Hid (At (cs3) 0 (.string s) w3) := cc3_.c0
      have b1_1 : Hid (At (cs3) 1 (.int .i64 ((0 : Nat) : Int)) w3) := cc3_.c1
      have b1_2 : Hid (At (cs3) 2 (.bool false) w3) := cc3_.c2
      have k1 := Lib.hid cc3_.bx
      have l1 := Lib.hid cl3
      have u1 := Lib.hid cc3_.bx.lt
      clear cl3 cc3_
      go_wp2_with fail
      refine (awake10_calls _).mono ?_
      rintro e w4 ⟨rfl, x4⟩
      have e4_ : Ext w w4 := Ext.trans e3_ x4
      go_wp2_with fail
      go_ret
      exact ⟨rfl, e4_⟩
    | false =>
      have HK := Lib.hid hk
      clear hk
      go_enter Tryd.func6, Tryd.ntmps6
      go_wp2_with fail
      refine (fnew_no HW.out n HE.out N0.out).mono ?_
      rintro e w1 ⟨rfl, x1⟩
      have e1_ : Ext w w1 := Ext.trans (Ext.refl w) x1
      go_wp2_with fail
      refine (cnew_bad s _ HS.out HK.out).mono ?_
      rintro e w2 ⟨rfl, x2⟩
      have e2_ : Ext w w2 := Ext.trans e1_ x2
      go_wp2_with fail
      refine (cnew_bad s _ HS.out HK.out).mono ?_
      rintro e w3 ⟨rfl, x3⟩
      have e3_ : Ext w w3 := Ext.trans e2_ x3
      go_wp2_with fail
      refine (awake10_calls _).mono ?_
      rintro e w4 ⟨rfl, x4⟩
      have e4_ : Ext w w4 := Ext.trans e3_ x4
      go_wp2_with fail
      go_ret
      exact ⟨rfl, e4_⟩
  case pos =>
    obtain ⟨M, hM, m1, m2⟩ := psum_nat hE
    have h7 : (M : Int) ≤ 67108864 := by omega
    have HM := Lib.hid hM
    have M1 := Lib.hid m1
    have MB : Hid (M < Bs) := by show M < Bs; rw [Bs_def]; omega
    have HE := Lib.hid hE
    clear hM m1 m2 hE
    by_cases hk : okS s.data.toList = true
    case neg =>
      have HK : Hid (okS s.data.toList = false) := by show _ = _; simpa using hk
      clear hk
      go_enter Tryd.func6, Tryd.ntmps6
      go_wp2_with fail
      refine (fnew_ok HW.out HE.out).mono ?_
      rintro e w1 ⟨ts1, tp1, tc1, rfl, tl1, tt1, x1⟩
      have e1_ : Ext w w1 := Ext.trans (Ext.refl w) x1
      have b0_0 : Hid (At (ts1) 0 (.slice tp1 (W : List Int).length tc1) w1) := tt1.c
      have k0 := Lib.hid tt1.bx
      have up1 : Hid (OwnZ 2 0 w1 _ (ups (W) (W : List Int).length)) := ⟨tt1.up, by decide⟩
      have l0 := Lib.hid tl1
      have u0 := Lib.hid tt1.bx.lt
      clear tl1 tt1
      go_wp2_with fail
      refine (cnew_bad s _ HS.out HK.out).mono ?_
      rintro e w2 ⟨rfl, x2⟩
      have e2_ : Ext w w2 := Ext.trans e1_ x2
      go_wp2_with fail
      refine (cnew_bad s _ HS.out HK.out).mono ?_
      rintro e w3 ⟨rfl, x3⟩
      have e3_ : Ext w w3 := Ext.trans e2_ x3
      go_wp2_with fail
      refine (awake10_calls _).mono ?_
      rintro e w4 ⟨rfl, x4⟩
      have e4_ : Ext w w4 := Ext.trans e3_ x4
      go_wp2_with fail
      go_ret
      exact ⟨rfl, e4_⟩
    have HK := Lib.hid hk
    clear hk
    obtain ⟨x, y, a, hd⟩ := drawIs s.data.toList M 0
    have hx := hd.lt M1.out
    have x2 : (x : Int) ≤ 67108864 := by omega
    have PX : Hid ((x : Int) < psum W W.length) := by show _ < _; rw [HM.out]; omega
    clear hx
    cases y
    case true =>
      obtain ⟨i, hi⟩ := pick_exists (W := W) (Int.natCast_nonneg x) PX.out
      have HP := Lib.hid hi
      have HD := Lib.hid hd
      clear hi hd
      go_enter Tryd.func6, Tryd.ntmps6
      go_wp2_with fail
      refine (fnew_ok HW.out HE.out).mono ?_
      rintro e w1 ⟨ts1, tp1, tc1, rfl, tl1, tt1, x1⟩
      have e1_ : Ext w w1 := Ext.trans (Ext.refl w) x1
      have b0_0 : Hid (At (ts1) 0 (.slice tp1 (W : List Int).length tc1) w1) := tt1.c
      have k0 := Lib.hid tt1.bx
      have up1 : Hid (OwnZ 2 0 w1 _ (ups (W) (W : List Int).length)) := ⟨tt1.up, by decide⟩
      have l0 := Lib.hid tl1
      have u0 := Lib.hid tt1.bx.lt
      clear tl1 tt1
      go_wp2_with fail
      refine (cnew_ok s _ HS.out HK.out).mono ?_
      rintro e w2 ⟨cs2, rfl, cl2, cc2_, x2⟩
      have e2_ : Ext w w2 := Ext.trans e1_ x2
      have b1_0 : Hid (At (cs2) 0 (.string s) w2) := cc2_.c0
      have b1_1 : Hid (At (cs2) 1 (.int .i64 ((0 : Nat) : Int)) w2) := cc2_.c1
      have b1_2 : Hid (At (cs2) 2 (.bool false) w2) := cc2_.c2
      have k1 := Lib.hid cc2_.bx
      have l1 := Lib.hid cl2
      have u1 := Lib.hid cc2_.bx.lt
      clear cl2 cc2_
      go_wp2_with fail
      refine (cnew_ok s _ HS.out HK.out).mono ?_
      rintro e w3 ⟨cs3, rfl, cl3, cc3_, x3⟩
      have e3_ : Ext w w3 := Ext.trans e2_ x3
      have b2_0 : Hid (At (cs3) 0 (.string s) w3) := cc3_.c0
      have b2_1 : Hid (At (cs3) 1 (.int .i64 ((0 : Nat) : Int)) w3) := cc3_.c1
      have b2_2 : Hid (At (cs3) 2 (.bool false) w3) := cc3_.c2
      have k2 := Lib.hid cc3_.bx
      have l2 := Lib.hid cl3
      have u2 := Lib.hid cc3_.bx.lt
      clear cl3 cc3_
      go_wp2_with fail
      refine (awake10_calls _).mono ?_
      rintro e w4 ⟨rfl, x4⟩
      have e4_ : Ext w w4 := Ext.trans e3_ x4
      go_wp2_with fail
      refine (fsum_ext ⟨(b0_0.out.ext (x2.trans (x3.trans x4))), (k0.out.gr (x2.gr.trans (x3.gr.trans x4.gr))), (up1.out.ext (x2.trans (x3.trans x4))).1⟩ (errW_ok HE.out).1 (errW_ok HE.out).2.1 _ HM.out).mono ?_
      rintro e w5 ⟨rfl, x5⟩
      have e5_ : Ext w w5 := Ext.trans e4_ x5
      go_wp2_with fail
      refine (bdraw_ok (show Cur s (cs3) (0) false _ from ⟨(b2_0.out.ext (x4.trans x5)), (b2_1.out.ext (x4.trans x5)), (b2_2.out.ext (x4.trans x5)), (k2.out.gr (x4.gr.trans x5.gr))⟩) HK.out (Nat.zero_le _) M MB.out M1.out HD.out).mono ?_
      rintro e w6 ⟨rfl, mv6, cc6⟩
      have y6 : Gr w5 w6 := ((show Cur s (cs3) (0) false _ from ⟨(b2_0.out.ext (x4.trans x5)), (b2_1.out.ext (x4.trans x5)), (b2_2.out.ext (x4.trans x5)), (k2.out.gr (x4.gr.trans x5.gr))⟩)).mvgr mv6 cc6
      have t6 : Hid (∀ t o u, t ≠ (cs3) → At t o u w5 → At t o u w6) := fun t o u h k => mv6.at h k
      have e6_ : Ext w w6 := mv6.ext e5_ (Nat.le_trans e2_.size l2.out)
      have b2_0 : Hid (At (cs3) 0 (.string s) w6) := cc6.c0
      have b2_1 : Hid (At (cs3) 1 (.int .i64 ((a : Nat) : Int)) w6) := cc6.c1
      have b2_2 : Hid (At (cs3) 2 (.bool false) w6) := cc6.c2
      have k2 : Hid (Bx 3 (cs3) w6) := cc6.bx
      clear mv6 cc6
      go_wp2_with fail
      refine (fdraw_yes ⟨(t6.out _ _ _ (by (try dsimp only); have h1 := u0.out; have h2 := x2.gr.size; have h3 := l2.out; omega) (b0_0.out.ext (x2.trans (x3.trans (x4.trans x5))))), (k0.out.gr (x2.gr.trans (x3.gr.trans (x4.gr.trans (x5.gr.trans y6))))), (up1.out.gr (x2.gr.trans (x3.gr.trans (x4.gr.trans (x5.gr.trans y6))))).1⟩ HE.out (show Cur s (cs2) (0) false _ from ⟨(t6.out _ _ _ (by (try dsimp only); have h1 := u1.out; have h2 := Nat.le_refl 0; have h3 := l2.out; omega) (b1_0.out.ext (x3.trans (x4.trans x5)))), (t6.out _ _ _ (by (try dsimp only); have h1 := u1.out; have h2 := Nat.le_refl 0; have h3 := l2.out; omega) (b1_1.out.ext (x3.trans (x4.trans x5)))), (t6.out _ _ _ (by (try dsimp only); have h1 := u1.out; have h2 := Nat.le_refl 0; have h3 := l2.out; omega) (b1_2.out.ext (x3.trans (x4.trans x5)))), (k1.out.gr (x3.gr.trans (x4.gr.trans (x5.gr.trans y6))))⟩) (by (try dsimp only); have h1 := u0.out; have h2 := Nat.le_refl 0; have h3 := l1.out; omega) HK.out (Nat.zero_le _) HM.out HD.out HP.out).mono ?_
      rintro e w7 ⟨rfl, mv7, cc7⟩
      have y7 : Gr w6 w7 := ((show Cur s (cs2) (0) false _ from ⟨(t6.out _ _ _ (by (try dsimp only); have h1 := u1.out; have h2 := Nat.le_refl 0; have h3 := l2.out; omega) (b1_0.out.ext (x3.trans (x4.trans x5)))), (t6.out _ _ _ (by (try dsimp only); have h1 := u1.out; have h2 := Nat.le_refl 0; have h3 := l2.out; omega) (b1_1.out.ext (x3.trans (x4.trans x5)))), (t6.out _ _ _ (by (try dsimp only); have h1 := u1.out; have h2 := Nat.le_refl 0; have h3 := l2.out; omega) (b1_2.out.ext (x3.trans (x4.trans x5)))), (k1.out.gr (x3.gr.trans (x4.gr.trans (x5.gr.trans y6))))⟩)).mvgr mv7 cc7
      have t7 : Hid (∀ t o u, t ≠ (cs2) → At t o u w6 → At t o u w7) := fun t o u h k => mv7.at h k
      have e7_ : Ext w w7 := mv7.ext e6_ (Nat.le_trans e1_.size l1.out)
      have b1_0 : Hid (At (cs2) 0 (.string s) w7) := cc7.c0
      have b1_1 : Hid (At (cs2) 1 (.int .i64 ((a : Nat) : Int)) w7) := cc7.c1
      have b1_2 : Hid (At (cs2) 2 (.bool false) w7) := cc7.c2
      have k1 : Hid (Bx 3 (cs2) w7) := cc7.bx
      clear mv7 cc7
      go_wp2_with fail
      refine (fsum_ext ⟨(t7.out _ _ _ (by (try dsimp only); have h1 := u0.out; have h2 := Nat.le_refl 0; have h3 := l1.out; omega) (t6.out _ _ _ (by (try dsimp only); have h1 := u0.out; have h2 := x2.gr.size; have h3 := l2.out; omega) (b0_0.out.ext (x2.trans (x3.trans (x4.trans x5)))))), (k0.out.gr (x2.gr.trans (x3.gr.trans (x4.gr.trans (x5.gr.trans (y6.trans y7)))))), (up1.out.gr (x2.gr.trans (x3.gr.trans (x4.gr.trans (x5.gr.trans (y6.trans y7)))))).1⟩ (errW_ok HE.out).1 (errW_ok HE.out).2.1 _ HM.out).mono ?_
      rintro e w8 ⟨rfl, x8⟩
      have e8_ : Ext w w8 := Ext.trans e7_ x8
      go_wp2_with fail
      refine (bcost_is M MB.out M1.out).mono ?_
      rintro e w9 ⟨sb9, sv9, su9, sm9, sd9, rfl, e9, o9, x9⟩
      have e9_ : Ext w w9 := Ext.trans e8_ x9
      obtain ⟨sp9, sl9, sc9, tp9, tl9, tc9, rfl, rfl⟩ := e9.slice
      go_wp2_with fail
      obtain ⟨v10, hv10⟩ : ∃ W, W = (w9.alloc (.cells #[.bool sb9, .slice sp9 sl9 sc9, .slice tp9 tl9 tc9] 33)) := ⟨_, rfl⟩
      have y10 : Ext w9 v10 := by rw [hv10]; exact ((Ext.refl _).alloc _)
      have b3_0 : Hid (At (w9.heap.size) 0 (.bool sb9) v10) := by rw [hv10]; exact At.ext (At.n0 (by rfl)) (Ext.refl _)
      have b3_1 : Hid (At (w9.heap.size) 1 (.slice sp9 sl9 sc9) v10) := by rw [hv10]; exact At.ext (At.n0 (by rfl)) (Ext.refl _)
      have b3_2 : Hid (At (w9.heap.size) 2 (.slice tp9 tl9 tc9) v10) := by rw [hv10]; exact At.ext (At.n0 (by rfl)) (Ext.refl _)
      have k3 : Hid (Bx 3 (w9.heap.size) v10) := by rw [hv10]; exact Bx.gr (Bx.n0 3 ⟨rfl, by decide⟩ (by decide) noI_s3) (Ext.gr (Ext.refl _))
      have u3 : Hid (w9.heap.size < v10.heap.size) := b3_0.out.2
      have e10_ : Ext w v10 := Ext.trans e9_ y10
      rw [← hv10]
      clear hv10
      have hkeep1 : AllAt' ([(ts1, 0, .slice tp1 (W : List Int).length tc1), (cs2, 0, .string s), (cs2, 1, .int .i64 ((a : Nat) : Int)), (cs2, 2, .bool false), (cs3, 0, .string s), (cs3, 1, .int .i64 ((a : Nat) : Int)), (cs3, 2, .bool false), (w9.heap.size, 0, .bool sb9), (w9.heap.size, 1, .slice sp9 sl9 sc9), (w9.heap.size, 2, .slice tp9 tl9 tc9)] : List (Nat × Nat × Value)) v10 := AllAt'.cons ((t7.out _ _ _ (by (try dsimp only); have h1 := u0.out; have h2 := Nat.le_refl 0; have h3 := l1.out; omega) (t6.out _ _ _ (by (try dsimp only); have h1 := u0.out; have h2 := x2.gr.size; have h3 := l2.out; omega) (b0_0.out.ext (x2.trans (x3.trans (x4.trans x5)))))).ext (x8.trans (x9.trans y10))) (AllAt'.cons (b1_0.out.ext (x8.trans (x9.trans y10))) (AllAt'.cons (b1_1.out.ext (x8.trans (x9.trans y10))) (AllAt'.cons (b1_2.out.ext (x8.trans (x9.trans y10))) (AllAt'.cons ((t7.out _ _ _ (by (try dsimp only); have h1 := u1.out; have h2 := Nat.le_refl 0; have h3 := l2.out; omega) b2_0.out).ext (x8.trans (x9.trans y10))) (AllAt'.cons ((t7.out _ _ _ (by (try dsimp only); have h1 := u1.out; have h2 := Nat.le_refl 0; have h3 := l2.out; omega) b2_1.out).ext (x8.trans (x9.trans y10))) (AllAt'.cons ((t7.out _ _ _ (by (try dsimp only); have h1 := u1.out; have h2 := Nat.le_refl 0; have h3 := l2.out; omega) b2_2.out).ext (x8.trans (x9.trans y10))) (AllAt'.cons b3_0.out (AllAt'.cons b3_1.out (AllAt'.cons b3_2.out (AllAt'.nil _))))))))))
      have hob1 : ObOk w.heap.size v10 (([(ts1, 0, .slice tp1 (W : List Int).length tc1), (cs2, 0, .string s), (cs2, 1, .int .i64 ((a : Nat) : Int)), (cs2, 2, .bool false), (cs3, 0, .string s), (cs3, 1, .int .i64 ((a : Nat) : Int)), (cs3, 2, .bool false), (w9.heap.size, 0, .bool sb9), (w9.heap.size, 1, .slice sp9 sl9 sc9), (w9.heap.size, 2, .slice tp9 tl9 tc9)] : List (Nat × Nat × Value)).map (·.1)) ([] : List (Nat × List (Nat × Value))) := trivial
      have hne1 : AllNe (([] : List (Nat × List (Nat × Value))).map (·.1)) := trivial
      (try simp only [List.append_eq, List.cons_append, List.nil_append])
      refine wp_region_gen ⟨[68, 69, 70, 71, 72, 73, 74, 75, 76, 77, 78, 79, 80, 81, 82, 83, 84, 85, 86, 87, 88, 89, 90, 91, 92, 93, 94, 95], fun i => false, fun i => ([none, none, none, none, none, none, none, none, none, none, none, none, none, none, none, none, none, none, none, none, none, none, none, none, none, none, none, none] : List (Option (BoxRef × Nat))).getD i none, fun i => ([Sg.val (.int .i64 0), Sg.val (.bool false), Sg.val (.bool false), Sg.val (.pointer (some ⟨ts1, 0, none⟩)), Sg.ratO w.heap.size (costQ M), Sg.ratO w.heap.size (costQ M), Sg.val (.bool true), Sg.val (.bool false), Sg.val (.bool false), Sg.val (.bool false), Sg.val (.bool true), Sg.val (.bool true), Sg.val (.bool false), Sg.val (.bool false), Sg.val (.bool false), Sg.val (.pointer (some ⟨cs2, 0, none⟩)), Sg.val (.int .i64 ((a : Nat) : Int)), Sg.val (.pointer (some ⟨cs3, 0, none⟩)), Sg.val (.int .i64 ((a : Nat) : Int)), Sg.val (.bool false), Sg.val (.bool false), Sg.val (.bool false), Sg.val (.pointer (some ⟨cs2, 0, none⟩)), Sg.val (.bool false), Sg.val (.pointer (some ⟨cs3, 0, none⟩)), Sg.val (.bool false), Sg.val (.bool false), Sg.val (.bool false)] : List Sg).getD i Sg.any, [(ts1, 0, .slice tp1 (W : List Int).length tc1), (cs2, 0, .string s), (cs2, 1, .int .i64 ((a : Nat) : Int)), (cs2, 2, .bool false), (cs3, 0, .string s), (cs3, 1, .int .i64 ((a : Nat) : Int)), (cs3, 2, .bool false), (w9.heap.size, 0, .bool sb9), (w9.heap.size, 1, .slice sp9 sl9 sc9), (w9.heap.size, 2, .slice tp9 tl9 tc9)], []⟩ w.heap.size (by kernel_rfl) (by kernel_rfl) e10_.size ?hfr hkeep1 hob1 hne1 ?hs ?he
      case hfr =>
        intro i v wk hi hst hv
        exact absurd hi (by simp)
      case hs =>
        refine ⟨?_, ?_, ?_, ?_, ?_, ?_, ?_, ?_, ?_, ?_, ?_, ?_, ?_, ?_, ?_, ?_, ?_, ?_, ?_, ?_, ?_, ?_, ?_, ?_, ?_, ?_, ?_, ?_, trivial⟩
        · refine RStep.op rfl rfl (fun ac wk hp K hK => ?_)
          have t16_ : ac.tmps[16]?.getD undef = .int .i64 0 := hp.slot 16 rfl rfl
          have HP := Lib.hid hp
          clear hp
          go_simp
          refine hK.out _ _ ?_ (Ext.refl _) (fun h => absurd h (by simp))
          exact rfl
        · refine RStep.op rfl rfl (fun ac wk hp K hK => ?_)
          have u0e := hp.get 0 (by decide +kernel) rfl
          have t68_ : ac.tmps[68]?.getD undef = .int .i64 0 := slot_is' u0e
          have HP := Lib.hid hp
          clear hp
          go_simp
          refine hK.out _ _ ?_ (Ext.refl _) (fun h => absurd h (by simp))
          exact rfl
        · refine RStep.op rfl rfl (fun ac wk hp K hK => ?_)
          have u1e := hp.get 1 (by decide +kernel) rfl
          have t69_ : ac.tmps[69]?.getD undef = .bool false := slot_is' u1e
          have HP := Lib.hid hp
          clear hp
          go_simp
          refine hK.out _ _ ?_ (Ext.refl _) (fun h => absurd h (by simp))
          exact rfl
        · refine RStep.yes 2 false rfl rfl (by decide +kernel) rfl rfl (fun ac wk hp K hK => ?_)
          have t5_ : ac.tmps[5]?.getD undef = .pointer (some ⟨ts1, 0, none⟩) := hp.slot 5 rfl rfl
          have HP := Lib.hid hp
          clear hp
          go_simp
          refine hK.out _ _ ?_ (Ext.refl _) (fun h => absurd h (by simp))
          exact rfl
        · refine RStep.yes 2 false rfl rfl (by decide +kernel) rfl rfl (fun ac wk hp K hK => ?_)
          have u3e := hp.get 3 (by decide +kernel) rfl
          have t71_ : ac.tmps[71]?.getD undef = .pointer (some ⟨ts1, 0, none⟩) := slot_is' u3e
          have HP := Lib.hid hp
          clear hp
          go_simp
          refine (fcost_is ⟨(HP.out.keep.at 0 rfl), (k0.out.gr ((x2.gr.trans (x3.gr.trans (x4.gr.trans (x5.gr.trans (y6.trans (y7.trans (x8.gr.trans (x9.gr.trans y10.gr)))))))).trans HP.out.gr)), (up1.out.gr ((x2.gr.trans (x3.gr.trans (x4.gr.trans (x5.gr.trans (y6.trans (y7.trans (x8.gr.trans (x9.gr.trans y10.gr)))))))).trans HP.out.gr)).1⟩ HE.out M HM.out).mono ?_
          rintro e wk' ⟨sb10, sv10, su10, sm10, sd10, rfl, e10, o10, ix⟩
          obtain ⟨sp10, sl10, sc10, tp10, tl10, tc10, rfl, rfl⟩ := e10.slice
          refine hK.out _ _ ?_ ix (fun h => absurd h (by simp))
          exact ⟨_, _, _, _, _, _, _, _, _, rfl, e10, (o10.mono (Nat.le_trans e10_.size HP.out.gr.size))⟩
        · refine RStep.yes 2 false rfl rfl (by decide +kernel) rfl rfl (fun ac wk hp K hK => ?_)
          have t15_ : ac.tmps[15]?.getD undef = .pointer (some ⟨w9.heap.size, 0, none⟩) := hp.slot 15 rfl rfl
          have c0_ := hp.cell 7 rfl
          have c1_ := hp.cell 8 rfl
          have c2_ := hp.cell 9 rfl
          have HP := Lib.hid hp
          clear hp
          go_simp
          refine hK.out _ _ ?_ (Ext.refl _) (fun h => absurd h (by simp))
          exact ⟨_, _, _, _, _, _, _, _, _, rfl, (e9.gr (y10.gr.trans HP.out.gr)), ((o9.gr (y10.gr.trans HP.out.gr)).mono e8_.size)⟩
        · refine RStep.yes 2 false rfl rfl (by decide +kernel) rfl rfl (fun ac wk hp K hK => ?_)
          obtain ⟨u4b, u4p, u4n, u4c, u4q, u4k, u4d, u4m, u4l, u4e, u4i, u4o⟩ := hp.get 4 (by decide +kernel) rfl
          have t72_ : ac.tmps[72]?.getD undef = .agg #[.bool u4b, .slice u4p u4n u4c, .slice u4q u4k u4d] := slot_is' u4e
          obtain ⟨u5b, u5p, u5n, u5c, u5q, u5k, u5d, u5m, u5l, u5e, u5i, u5o⟩ := hp.get 5 (by decide +kernel) rfl
          have t73_ : ac.tmps[73]?.getD undef = .agg #[.bool u5b, .slice u5p u5n u5c, .slice u5q u5k u5d] := slot_is' u5e
          have HP := Lib.hid hp
          clear hp
          go_simp
          refine (is_is u4i u5i true (decide_eq_true (show ((costQ M) : Rat) = (costQ M) from rfl))).mono ?_
          rintro e wk' ⟨rfl, ix⟩
          refine hK.out _ _ ?_ ix (fun h => absurd h (by simp))
          exact rfl
        · refine RStep.yes 2 false rfl rfl (by decide +kernel) rfl rfl (fun ac wk hp K hK => ?_)
          have u6e := hp.get 6 (by decide +kernel) rfl
          have t74_ : ac.tmps[74]?.getD undef = .bool true := slot_is' u6e
          have HP := Lib.hid hp
          clear hp
          go_simp
          refine hK.out _ _ ?_ (Ext.refl _) (fun h => absurd h (by simp))
          exact rfl
        · refine RStep.op rfl rfl (fun ac wk hp K hK => ?_)
          have u2e := hp.get 2 (by decide +kernel) rfl
          have t70_ : ac.tmps[70]?.getD undef = .bool false := slot_is' u2e
          have u7e := hp.get 7 (by decide +kernel) rfl
          have t75_ : ac.tmps[75]?.getD undef = .bool false := slot_is' u7e
          have HP := Lib.hid hp
          clear hp
          go_simp
          refine hK.out _ _ ?_ (Ext.refl _) (fun h => absurd h (by simp))
          exact rfl
        · refine RStep.op rfl rfl (fun ac wk hp K hK => ?_)
          have u8e := hp.get 8 (by decide +kernel) rfl
          have t76_ : ac.tmps[76]?.getD undef = .bool false := slot_is' u8e
          have HP := Lib.hid hp
          clear hp
          go_simp
          refine hK.out _ _ ?_ (Ext.refl _) (fun h => absurd h (by simp))
          exact rfl
        · refine RStep.yes 9 false rfl rfl (by decide +kernel) rfl rfl (fun ac wk hp K hK => ?_)
          have t12_ : ac.tmps[12]?.getD undef = .bool true := hp.slot 12 rfl rfl
          have HP := Lib.hid hp
          clear hp
          go_simp
          refine hK.out _ _ ?_ (Ext.refl _) (fun h => absurd h (by simp))
          exact rfl
        · refine RStep.yes 9 false rfl rfl (by decide +kernel) rfl rfl (fun ac wk hp K hK => ?_)
          have t14_ : ac.tmps[14]?.getD undef = .bool true := hp.slot 14 rfl rfl
          have HP := Lib.hid hp
          clear hp
          go_simp
          refine hK.out _ _ ?_ (Ext.refl _) (fun h => absurd h (by simp))
          exact rfl
        · refine RStep.yes 9 false rfl rfl (by decide +kernel) rfl rfl (fun ac wk hp K hK => ?_)
          have u10e := hp.get 10 (by decide +kernel) rfl
          have t78_ : ac.tmps[78]?.getD undef = .bool true := slot_is' u10e
          have u11e := hp.get 11 (by decide +kernel) rfl
          have t79_ : ac.tmps[79]?.getD undef = .bool true := slot_is' u11e
          have HP := Lib.hid hp
          clear hp
          go_simp
          refine hK.out _ _ ?_ (Ext.refl _) (fun h => absurd h (by simp))
          exact rfl
        · refine RStep.op rfl rfl (fun ac wk hp K hK => ?_)
          have u9e := hp.get 9 (by decide +kernel) rfl
          have t77_ : ac.tmps[77]?.getD undef = .bool false := slot_is' u9e
          have u12e := hp.get 12 (by decide +kernel) rfl
          have t80_ : ac.tmps[80]?.getD undef = .bool false := slot_is' u12e
          have HP := Lib.hid hp
          clear hp
          go_simp
          refine hK.out _ _ ?_ (Ext.refl _) (fun h => absurd h (by simp))
          exact rfl
        · refine RStep.op rfl rfl (fun ac wk hp K hK => ?_)
          have u13e := hp.get 13 (by decide +kernel) rfl
          have t81_ : ac.tmps[81]?.getD undef = .bool false := slot_is' u13e
          have HP := Lib.hid hp
          clear hp
          go_simp
          refine hK.out _ _ ?_ (Ext.refl _) (fun h => absurd h (by simp))
          exact rfl
        · refine RStep.yes 14 false rfl rfl (by decide +kernel) rfl rfl (fun ac wk hp K hK => ?_)
          have t7_ : ac.tmps[7]?.getD undef = .pointer (some ⟨cs2, 0, none⟩) := hp.slot 7 rfl rfl
          have HP := Lib.hid hp
          clear hp
          go_simp
          refine hK.out _ _ ?_ (Ext.refl _) (fun h => absurd h (by simp))
          exact rfl
        · refine RStep.yes 14 false rfl rfl (by decide +kernel) rfl rfl (fun ac wk hp K hK => ?_)
          have u15e := hp.get 15 (by decide +kernel) rfl
          have t83_ : ac.tmps[83]?.getD undef = .pointer (some ⟨cs2, 0, none⟩) := slot_is' u15e
          have HP := Lib.hid hp
          clear hp
          go_simp
          refine (cat_calls (show Cur s (cs2) (a) false _ from ⟨(HP.out.keep.at 1 rfl), (HP.out.keep.at 2 rfl), (HP.out.keep.at 3 rfl), (k1.out.gr ((x8.gr.trans (x9.gr.trans y10.gr)).trans HP.out.gr))⟩)).mono ?_
          rintro e wk' ⟨rfl, ix⟩
          refine hK.out _ _ ?_ ix (fun h => absurd h (by simp))
          exact rfl
        · refine RStep.yes 14 false rfl rfl (by decide +kernel) rfl rfl (fun ac wk hp K hK => ?_)
          have t9_ : ac.tmps[9]?.getD undef = .pointer (some ⟨cs3, 0, none⟩) := hp.slot 9 rfl rfl
          have HP := Lib.hid hp
          clear hp
          go_simp
          refine hK.out _ _ ?_ (Ext.refl _) (fun h => absurd h (by simp))
          exact rfl
        · refine RStep.yes 14 false rfl rfl (by decide +kernel) rfl rfl (fun ac wk hp K hK => ?_)
          have u17e := hp.get 17 (by decide +kernel) rfl
          have t85_ : ac.tmps[85]?.getD undef = .pointer (some ⟨cs3, 0, none⟩) := slot_is' u17e
          have HP := Lib.hid hp
          clear hp
          go_simp
          refine (cat_calls (show Cur s (cs3) (a) false _ from ⟨(HP.out.keep.at 4 rfl), (HP.out.keep.at 5 rfl), (HP.out.keep.at 6 rfl), (k2.out.gr ((y7.trans (x8.gr.trans (x9.gr.trans y10.gr))).trans HP.out.gr))⟩)).mono ?_
          rintro e wk' ⟨rfl, ix⟩
          refine hK.out _ _ ?_ ix (fun h => absurd h (by simp))
          exact rfl
        · refine RStep.yes 14 false rfl rfl (by decide +kernel) rfl rfl (fun ac wk hp K hK => ?_)
          have u16e := hp.get 16 (by decide +kernel) rfl
          have t84_ : ac.tmps[84]?.getD undef = .int .i64 ((a : Nat) : Int) := slot_is' u16e
          have u18e := hp.get 18 (by decide +kernel) rfl
          have t86_ : ac.tmps[86]?.getD undef = .int .i64 ((a : Nat) : Int) := slot_is' u18e
          have HP := Lib.hid hp
          clear hp
          go_simp
          refine hK.out _ _ ?_ (Ext.refl _) (fun h => absurd h (by simp))
          exact rfl
        · refine RStep.op rfl rfl (fun ac wk hp K hK => ?_)
          have u14e := hp.get 14 (by decide +kernel) rfl
          have t82_ : ac.tmps[82]?.getD undef = .bool false := slot_is' u14e
          have u19e := hp.get 19 (by decide +kernel) rfl
          have t87_ : ac.tmps[87]?.getD undef = .bool false := slot_is' u19e
          have HP := Lib.hid hp
          clear hp
          go_simp
          refine hK.out _ _ ?_ (Ext.refl _) (fun h => absurd h (by simp))
          exact rfl
        · refine RStep.op rfl rfl (fun ac wk hp K hK => ?_)
          have u20e := hp.get 20 (by decide +kernel) rfl
          have t88_ : ac.tmps[88]?.getD undef = .bool false := slot_is' u20e
          have HP := Lib.hid hp
          clear hp
          go_simp
          refine hK.out _ _ ?_ (Ext.refl _) (fun h => absurd h (by simp))
          exact rfl
        · refine RStep.yes 21 false rfl rfl (by decide +kernel) rfl rfl (fun ac wk hp K hK => ?_)
          have t7_ : ac.tmps[7]?.getD undef = .pointer (some ⟨cs2, 0, none⟩) := hp.slot 7 rfl rfl
          have HP := Lib.hid hp
          clear hp
          go_simp
          refine hK.out _ _ ?_ (Ext.refl _) (fun h => absurd h (by simp))
          exact rfl
        · refine RStep.yes 21 false rfl rfl (by decide +kernel) rfl rfl (fun ac wk hp K hK => ?_)
          have u22e := hp.get 22 (by decide +kernel) rfl
          have t90_ : ac.tmps[90]?.getD undef = .pointer (some ⟨cs2, 0, none⟩) := slot_is' u22e
          have HP := Lib.hid hp
          clear hp
          go_simp
          refine (cover_calls (show Cur s (cs2) (a) false _ from ⟨(HP.out.keep.at 1 rfl), (HP.out.keep.at 2 rfl), (HP.out.keep.at 3 rfl), (k1.out.gr ((x8.gr.trans (x9.gr.trans y10.gr)).trans HP.out.gr))⟩)).mono ?_
          rintro e wk' ⟨rfl, ix⟩
          refine hK.out _ _ ?_ ix (fun h => absurd h (by simp))
          exact rfl
        · refine RStep.yes 21 false rfl rfl (by decide +kernel) rfl rfl (fun ac wk hp K hK => ?_)
          have t9_ : ac.tmps[9]?.getD undef = .pointer (some ⟨cs3, 0, none⟩) := hp.slot 9 rfl rfl
          have HP := Lib.hid hp
          clear hp
          go_simp
          refine hK.out _ _ ?_ (Ext.refl _) (fun h => absurd h (by simp))
          exact rfl
        · refine RStep.yes 21 false rfl rfl (by decide +kernel) rfl rfl (fun ac wk hp K hK => ?_)
          have u24e := hp.get 24 (by decide +kernel) rfl
          have t92_ : ac.tmps[92]?.getD undef = .pointer (some ⟨cs3, 0, none⟩) := slot_is' u24e
          have HP := Lib.hid hp
          clear hp
          go_simp
          refine (cover_calls (show Cur s (cs3) (a) false _ from ⟨(HP.out.keep.at 4 rfl), (HP.out.keep.at 5 rfl), (HP.out.keep.at 6 rfl), (k2.out.gr ((y7.trans (x8.gr.trans (x9.gr.trans y10.gr))).trans HP.out.gr))⟩)).mono ?_
          rintro e wk' ⟨rfl, ix⟩
          refine hK.out _ _ ?_ ix (fun h => absurd h (by simp))
          exact rfl
        · refine RStep.yes 21 false rfl rfl (by decide +kernel) rfl rfl (fun ac wk hp K hK => ?_)
          have u23e := hp.get 23 (by decide +kernel) rfl
          have t91_ : ac.tmps[91]?.getD undef = .bool false := slot_is' u23e
          have u25e := hp.get 25 (by decide +kernel) rfl
          have t93_ : ac.tmps[93]?.getD undef = .bool false := slot_is' u25e
          have HP := Lib.hid hp
          clear hp
          go_simp
          refine hK.out _ _ ?_ (Ext.refl _) (fun h => absurd h (by simp))
          exact rfl
        · refine RStep.op rfl rfl (fun ac wk hp K hK => ?_)
          have u21e := hp.get 21 (by decide +kernel) rfl
          have t89_ : ac.tmps[89]?.getD undef = .bool false := slot_is' u21e
          have u26e := hp.get 26 (by decide +kernel) rfl
          have t94_ : ac.tmps[94]?.getD undef = .bool false := slot_is' u26e
          have HP := Lib.hid hp
          clear hp
          go_simp
          refine hK.out _ _ ?_ (Ext.refl _) (fun h => absurd h (by simp))
          exact rfl
      case he =>
        intro ac v11 hM
        have y1_0e := hM.post 0 rfl rfl
        have y1_1e := hM.post 1 rfl rfl
        have y1_2e := hM.post 2 rfl rfl
        have y1_3e := hM.post 3 rfl rfl
        obtain ⟨y1_4b, y1_4p, y1_4n, y1_4c, y1_4q, y1_4k, y1_4d, y1_4m, y1_4l, y1_4e, y1_4i, y1_4o⟩ := hM.post 4 rfl rfl
        obtain ⟨y1_5b, y1_5p, y1_5n, y1_5c, y1_5q, y1_5k, y1_5d, y1_5m, y1_5l, y1_5e, y1_5i, y1_5o⟩ := hM.post 5 rfl rfl
        have y1_6e := hM.post 6 rfl rfl
        have y1_7e := hM.post 7 rfl rfl
        have y1_8e := hM.post 8 rfl rfl
        have y1_9e := hM.post 9 rfl rfl
        have y1_10e := hM.post 10 rfl rfl
        have y1_11e := hM.post 11 rfl rfl
        have y1_12e := hM.post 12 rfl rfl
        have y1_13e := hM.post 13 rfl rfl
        have y1_14e := hM.post 14 rfl rfl
        have y1_15e := hM.post 15 rfl rfl
        have y1_16e := hM.post 16 rfl rfl
        have y1_17e := hM.post 17 rfl rfl
        have y1_18e := hM.post 18 rfl rfl
        have y1_19e := hM.post 19 rfl rfl
        have y1_20e := hM.post 20 rfl rfl
        have y1_21e := hM.post 21 rfl rfl
        have y1_22e := hM.post 22 rfl rfl
        have y1_23e := hM.post 23 rfl rfl
        have y1_24e := hM.post 24 rfl rfl
        have y1_25e := hM.post 25 rfl rfl
        have y1_26e := hM.post 26 rfl rfl
        have y1_27e := hM.post 27 rfl rfl
        have b0_0 : Hid (At (ts1) 0 (.slice tp1 (W : List Int).length tc1) v11) := Lib.hid (hM.keep.at 0 rfl)
        have b1_0 : Hid (At (cs2) 0 (.string s) v11) := Lib.hid (hM.keep.at 1 rfl)
        have b1_1 : Hid (At (cs2) 1 (.int .i64 ((a : Nat) : Int)) v11) := Lib.hid (hM.keep.at 2 rfl)
        have b1_2 : Hid (At (cs2) 2 (.bool false) v11) := Lib.hid (hM.keep.at 3 rfl)
        have b2_0 : Hid (At (cs3) 0 (.string s) v11) := Lib.hid (hM.keep.at 4 rfl)
        have b2_1 : Hid (At (cs3) 1 (.int .i64 ((a : Nat) : Int)) v11) := Lib.hid (hM.keep.at 5 rfl)
        have b2_2 : Hid (At (cs3) 2 (.bool false) v11) := Lib.hid (hM.keep.at 6 rfl)
        have b3_0 : Hid (At (w9.heap.size) 0 (.bool sb9) v11) := Lib.hid (hM.keep.at 7 rfl)
        have b3_1 : Hid (At (w9.heap.size) 1 (.slice sp9 sl9 sc9) v11) := Lib.hid (hM.keep.at 8 rfl)
        have b3_2 : Hid (At (w9.heap.size) 2 (.slice tp9 tl9 tc9) v11) := Lib.hid (hM.keep.at 9 rfl)
        have gv11 : Gr v10 v11 := hM.gr
        have e11_ : Ext w v11 := Ext.below e10_ hM.blw
        have z0_ : sl ac 68 = .int .i64 0 := y1_0e
        have z1_ : sl ac 69 = .bool false := y1_1e
        have z2_ : sl ac 70 = .bool false := y1_2e
        have z3_ : sl ac 71 = .pointer (some ⟨ts1, 0, none⟩) := y1_3e
        have z4_ : sl ac 72 = .agg #[.bool y1_4b, .slice y1_4p y1_4n y1_4c, .slice y1_4q y1_4k y1_4d] := y1_4e
        have z5_ : sl ac 73 = .agg #[.bool y1_5b, .slice y1_5p y1_5n y1_5c, .slice y1_5q y1_5k y1_5d] := y1_5e
        have z6_ : sl ac 74 = .bool true := y1_6e
        have z7_ : sl ac 75 = .bool false := y1_7e
        have z8_ : sl ac 76 = .bool false := y1_8e
        have z9_ : sl ac 77 = .bool false := y1_9e
        have z10_ : sl ac 78 = .bool true := y1_10e
        have z11_ : sl ac 79 = .bool true := y1_11e
        have z12_ : sl ac 80 = .bool false := y1_12e
        have z13_ : sl ac 81 = .bool false := y1_13e
        have z14_ : sl ac 82 = .bool false := y1_14e
        have z15_ : sl ac 83 = .pointer (some ⟨cs2, 0, none⟩) := y1_15e
        have z16_ : sl ac 84 = .int .i64 ((a : Nat) : Int) := y1_16e
        have z17_ : sl ac 85 = .pointer (some ⟨cs3, 0, none⟩) := y1_17e
        have z18_ : sl ac 86 = .int .i64 ((a : Nat) : Int) := y1_18e
        have z19_ : sl ac 87 = .bool false := y1_19e
        have z20_ : sl ac 88 = .bool false := y1_20e
        have z21_ : sl ac 89 = .bool false := y1_21e
        have z22_ : sl ac 90 = .pointer (some ⟨cs2, 0, none⟩) := y1_22e
        have z23_ : sl ac 91 = .bool false := y1_23e
        have z24_ : sl ac 92 = .pointer (some ⟨cs3, 0, none⟩) := y1_24e
        have z25_ : sl ac 93 = .bool false := y1_25e
        have z26_ : sl ac 94 = .bool false := y1_26e
        have z27_ : sl ac 95 = .bool false := y1_27e
        rw [hM.ag.lay]
        simp only [lay, List.foldl_cons, List.foldl_nil, List.setIfInBounds_toArray, List.set_cons_zero, List.set_cons_succ, z0_, z1_, z2_, z3_, z4_, z5_, z6_, z7_, z8_, z9_, z10_, z11_, z12_, z13_, z14_, z15_, z16_, z17_, z18_, z19_, z20_, z21_, z22_, z23_, z24_, z25_, z26_, z27_]
        clear hM hkeep1 hob1 hne1 z0_ z1_ z2_ z3_ z4_ z5_ z6_ z7_ z8_ z9_ z10_ z11_ z12_ z13_ z14_ z15_ z16_ z17_ z18_ z19_ z20_ z21_ z22_ z23_ z24_ z25_ z26_ z27_ y1_0e y1_1e y1_2e y1_3e y1_4e y1_5e y1_6e y1_7e y1_8e y1_9e y1_10e y1_11e y1_12e y1_13e y1_14e y1_15e y1_16e y1_17e y1_18e y1_19e y1_20e y1_21e y1_22e y1_23e y1_24e y1_25e y1_26e y1_27e
        go_wp2_with fail
        refine (picked_yes ⟨b0_0.out, (k0.out.gr (x2.gr.trans (x3.gr.trans (x4.gr.trans (x5.gr.trans (y6.trans (y7.trans (x8.gr.trans (x9.gr.trans (y10.gr.trans gv11)))))))))), (up1.out.gr (x2.gr.trans (x3.gr.trans (x4.gr.trans (x5.gr.trans (y6.trans (y7.trans (x8.gr.trans (x9.gr.trans (y10.gr.trans gv11)))))))))).1⟩ HE.out _ i HP.out _ rfl).mono ?_
        rintro e w12 ⟨rfl, x12⟩
        have e12_ : Ext w w12 := Ext.trans e11_ x12
        go_wp2_with fail
        go_ret
        exact ⟨rfl, e12_⟩
    case false =>
      have HX : Hid (x = 0) := hd.zero
      have HD := Lib.hid hd
      clear hd PX
      go_enter Tryd.func6, Tryd.ntmps6
      go_wp2_with fail
      refine (fnew_ok HW.out HE.out).mono ?_
      rintro e w1 ⟨ts1, tp1, tc1, rfl, tl1, tt1, x1⟩
      have e1_ : Ext w w1 := Ext.trans (Ext.refl w) x1
      have b0_0 : Hid (At (ts1) 0 (.slice tp1 (W : List Int).length tc1) w1) := tt1.c
      have k0 := Lib.hid tt1.bx
      have up1 : Hid (OwnZ 2 0 w1 _ (ups (W) (W : List Int).length)) := ⟨tt1.up, by decide⟩
      have l0 := Lib.hid tl1
      have u0 := Lib.hid tt1.bx.lt
      clear tl1 tt1
      go_wp2_with fail
      refine (cnew_ok s _ HS.out HK.out).mono ?_
      rintro e w2 ⟨cs2, rfl, cl2, cc2_, x2⟩
      have e2_ : Ext w w2 := Ext.trans e1_ x2
      have b1_0 : Hid (At (cs2) 0 (.string s) w2) := cc2_.c0
      have b1_1 : Hid (At (cs2) 1 (.int .i64 ((0 : Nat) : Int)) w2) := cc2_.c1
      have b1_2 : Hid (At (cs2) 2 (.bool false) w2) := cc2_.c2
      have k1 := Lib.hid cc2_.bx
      have l1 := Lib.hid cl2
      have u1 := Lib.hid cc2_.bx.lt
      clear cl2 cc2_
      go_wp2_with fail
      refine (cnew_ok s _ HS.out HK.out).mono ?_
      rintro e w3 ⟨cs3, rfl, cl3, cc3_, x3⟩
      have e3_ : Ext w w3 := Ext.trans e2_ x3
      have b2_0 : Hid (At (cs3) 0 (.string s) w3) := cc3_.c0
      have b2_1 : Hid (At (cs3) 1 (.int .i64 ((0 : Nat) : Int)) w3) := cc3_.c1
      have b2_2 : Hid (At (cs3) 2 (.bool false) w3) := cc3_.c2
      have k2 := Lib.hid cc3_.bx
      have l2 := Lib.hid cl3
      have u2 := Lib.hid cc3_.bx.lt
      clear cl3 cc3_
      go_wp2_with fail
      refine (awake10_calls _).mono ?_
      rintro e w4 ⟨rfl, x4⟩
      have e4_ : Ext w w4 := Ext.trans e3_ x4
      go_wp2_with fail
      refine (fsum_ext ⟨(b0_0.out.ext (x2.trans (x3.trans x4))), (k0.out.gr (x2.gr.trans (x3.gr.trans x4.gr))), (up1.out.ext (x2.trans (x3.trans x4))).1⟩ (errW_ok HE.out).1 (errW_ok HE.out).2.1 _ HM.out).mono ?_
      rintro e w5 ⟨rfl, x5⟩
      have e5_ : Ext w w5 := Ext.trans e4_ x5
      go_wp2_with fail
      refine (bdraw_ok (show Cur s (cs3) (0) false _ from ⟨(b2_0.out.ext (x4.trans x5)), (b2_1.out.ext (x4.trans x5)), (b2_2.out.ext (x4.trans x5)), (k2.out.gr (x4.gr.trans x5.gr))⟩) HK.out (Nat.zero_le _) M MB.out M1.out HD.out).mono ?_
      rintro e w6 ⟨rfl, mv6, cc6⟩
      have y6 : Gr w5 w6 := ((show Cur s (cs3) (0) false _ from ⟨(b2_0.out.ext (x4.trans x5)), (b2_1.out.ext (x4.trans x5)), (b2_2.out.ext (x4.trans x5)), (k2.out.gr (x4.gr.trans x5.gr))⟩)).mvgr mv6 cc6
      have t6 : Hid (∀ t o u, t ≠ (cs3) → At t o u w5 → At t o u w6) := fun t o u h k => mv6.at h k
      have e6_ : Ext w w6 := mv6.ext e5_ (Nat.le_trans e2_.size l2.out)
      have b2_0 : Hid (At (cs3) 0 (.string s) w6) := cc6.c0
      have b2_1 : Hid (At (cs3) 1 (.int .i64 ((a : Nat) : Int)) w6) := cc6.c1
      have b2_2 : Hid (At (cs3) 2 (.bool true) w6) := cc6.c2
      have k2 : Hid (Bx 3 (cs3) w6) := cc6.bx
      clear mv6 cc6
      go_wp2_with fail
      refine (fdraw_no ⟨(t6.out _ _ _ (by (try dsimp only); have h1 := u0.out; have h2 := x2.gr.size; have h3 := l2.out; omega) (b0_0.out.ext (x2.trans (x3.trans (x4.trans x5))))), (k0.out.gr (x2.gr.trans (x3.gr.trans (x4.gr.trans (x5.gr.trans y6))))), (up1.out.gr (x2.gr.trans (x3.gr.trans (x4.gr.trans (x5.gr.trans y6))))).1⟩ HE.out (show Cur s (cs2) (0) false _ from ⟨(t6.out _ _ _ (by (try dsimp only); have h1 := u1.out; have h2 := Nat.le_refl 0; have h3 := l2.out; omega) (b1_0.out.ext (x3.trans (x4.trans x5)))), (t6.out _ _ _ (by (try dsimp only); have h1 := u1.out; have h2 := Nat.le_refl 0; have h3 := l2.out; omega) (b1_1.out.ext (x3.trans (x4.trans x5)))), (t6.out _ _ _ (by (try dsimp only); have h1 := u1.out; have h2 := Nat.le_refl 0; have h3 := l2.out; omega) (b1_2.out.ext (x3.trans (x4.trans x5)))), (k1.out.gr (x3.gr.trans (x4.gr.trans (x5.gr.trans y6))))⟩) HK.out (Nat.zero_le _) HM.out HD.out).mono ?_
      rintro e w7 ⟨rfl, mv7, cc7⟩
      have y7 : Gr w6 w7 := ((show Cur s (cs2) (0) false _ from ⟨(t6.out _ _ _ (by (try dsimp only); have h1 := u1.out; have h2 := Nat.le_refl 0; have h3 := l2.out; omega) (b1_0.out.ext (x3.trans (x4.trans x5)))), (t6.out _ _ _ (by (try dsimp only); have h1 := u1.out; have h2 := Nat.le_refl 0; have h3 := l2.out; omega) (b1_1.out.ext (x3.trans (x4.trans x5)))), (t6.out _ _ _ (by (try dsimp only); have h1 := u1.out; have h2 := Nat.le_refl 0; have h3 := l2.out; omega) (b1_2.out.ext (x3.trans (x4.trans x5)))), (k1.out.gr (x3.gr.trans (x4.gr.trans (x5.gr.trans y6))))⟩)).mvgr mv7 cc7
      have t7 : Hid (∀ t o u, t ≠ (cs2) → At t o u w6 → At t o u w7) := fun t o u h k => mv7.at h k
      have e7_ : Ext w w7 := mv7.ext e6_ (Nat.le_trans e1_.size l1.out)
      have b1_0 : Hid (At (cs2) 0 (.string s) w7) := cc7.c0
      have b1_1 : Hid (At (cs2) 1 (.int .i64 ((a : Nat) : Int)) w7) := cc7.c1
      have b1_2 : Hid (At (cs2) 2 (.bool true) w7) := cc7.c2
      have k1 : Hid (Bx 3 (cs2) w7) := cc7.bx
      clear mv7 cc7
      go_wp2_with fail
      refine (fsum_ext ⟨(t7.out _ _ _ (by (try dsimp only); have h1 := u0.out; have h2 := Nat.le_refl 0; have h3 := l1.out; omega) (t6.out _ _ _ (by (try dsimp only); have h1 := u0.out; have h2 := x2.gr.size; have h3 := l2.out; omega) (b0_0.out.ext (x2.trans (x3.trans (x4.trans x5)))))), (k0.out.gr (x2.gr.trans (x3.gr.trans (x4.gr.trans (x5.gr.trans (y6.trans y7)))))), (up1.out.gr (x2.gr.trans (x3.gr.trans (x4.gr.trans (x5.gr.trans (y6.trans y7)))))).1⟩ (errW_ok HE.out).1 (errW_ok HE.out).2.1 _ HM.out).mono ?_
      rintro e w8 ⟨rfl, x8⟩
      have e8_ : Ext w w8 := Ext.trans e7_ x8
      go_wp2_with fail
      refine (bcost_is M MB.out M1.out).mono ?_
      rintro e w9 ⟨sb9, sv9, su9, sm9, sd9, rfl, e9, o9, x9⟩
      have e9_ : Ext w w9 := Ext.trans e8_ x9
      obtain ⟨sp9, sl9, sc9, tp9, tl9, tc9, rfl, rfl⟩ := e9.slice
      go_wp2_with fail
      obtain ⟨v10, hv10⟩ : ∃ W, W = (w9.alloc (.cells #[.bool sb9, .slice sp9 sl9 sc9, .slice tp9 tl9 tc9] 33)) := ⟨_, rfl⟩
      have y10 : Ext w9 v10 := by rw [hv10]; exact ((Ext.refl _).alloc _)
      have b3_0 : Hid (At (w9.heap.size) 0 (.bool sb9) v10) := by rw [hv10]; exact At.ext (At.n0 (by rfl)) (Ext.refl _)
      have b3_1 : Hid (At (w9.heap.size) 1 (.slice sp9 sl9 sc9) v10) := by rw [hv10]; exact At.ext (At.n0 (by rfl)) (Ext.refl _)
      have b3_2 : Hid (At (w9.heap.size) 2 (.slice tp9 tl9 tc9) v10) := by rw [hv10]; exact At.ext (At.n0 (by rfl)) (Ext.refl _)
      have k3 : Hid (Bx 3 (w9.heap.size) v10) := by rw [hv10]; exact Bx.gr (Bx.n0 3 ⟨rfl, by decide⟩ (by decide) noI_s3) (Ext.gr (Ext.refl _))
      have u3 : Hid (w9.heap.size < v10.heap.size) := b3_0.out.2
      have e10_ : Ext w v10 := Ext.trans e9_ y10
      rw [← hv10]
      clear hv10
      have hkeep1 : AllAt' ([(ts1, 0, .slice tp1 (W : List Int).length tc1), (cs2, 0, .string s), (cs2, 1, .int .i64 ((a : Nat) : Int)), (cs2, 2, .bool true), (cs3, 0, .string s), (cs3, 1, .int .i64 ((a : Nat) : Int)), (cs3, 2, .bool true), (w9.heap.size, 0, .bool sb9), (w9.heap.size, 1, .slice sp9 sl9 sc9), (w9.heap.size, 2, .slice tp9 tl9 tc9)] : List (Nat × Nat × Value)) v10 := AllAt'.cons ((t7.out _ _ _ (by (try dsimp only); have h1 := u0.out; have h2 := Nat.le_refl 0; have h3 := l1.out; omega) (t6.out _ _ _ (by (try dsimp only); have h1 := u0.out; have h2 := x2.gr.size; have h3 := l2.out; omega) (b0_0.out.ext (x2.trans (x3.trans (x4.trans x5)))))).ext (x8.trans (x9.trans y10))) (AllAt'.cons (b1_0.out.ext (x8.trans (x9.trans y10))) (AllAt'.cons (b1_1.out.ext (x8.trans (x9.trans y10))) (AllAt'.cons (b1_2.out.ext (x8.trans (x9.trans y10))) (AllAt'.cons ((t7.out _ _ _ (by (try dsimp only); have h1 := u1.out; have h2 := Nat.le_refl 0; have h3 := l2.out; omega) b2_0.out).ext (x8.trans (x9.trans y10))) (AllAt'.cons ((t7.out _ _ _ (by (try dsimp only); have h1 := u1.out; have h2 := Nat.le_refl 0; have h3 := l2.out; omega) b2_1.out).ext (x8.trans (x9.trans y10))) (AllAt'.cons ((t7.out _ _ _ (by (try dsimp only); have h1 := u1.out; have h2 := Nat.le_refl 0; have h3 := l2.out; omega) b2_2.out).ext (x8.trans (x9.trans y10))) (AllAt'.cons b3_0.out (AllAt'.cons b3_1.out (AllAt'.cons b3_2.out (AllAt'.nil _))))))))))
      have hob1 : ObOk w.heap.size v10 (([(ts1, 0, .slice tp1 (W : List Int).length tc1), (cs2, 0, .string s), (cs2, 1, .int .i64 ((a : Nat) : Int)), (cs2, 2, .bool true), (cs3, 0, .string s), (cs3, 1, .int .i64 ((a : Nat) : Int)), (cs3, 2, .bool true), (w9.heap.size, 0, .bool sb9), (w9.heap.size, 1, .slice sp9 sl9 sc9), (w9.heap.size, 2, .slice tp9 tl9 tc9)] : List (Nat × Nat × Value)).map (·.1)) ([] : List (Nat × List (Nat × Value))) := trivial
      have hne1 : AllNe (([] : List (Nat × List (Nat × Value))).map (·.1)) := trivial
      (try simp only [List.append_eq, List.cons_append, List.nil_append])
      refine wp_region_gen ⟨[68, 69, 70, 71, 72, 73, 74, 75, 76, 77, 78, 79, 80, 81, 82, 83, 84, 85, 86, 87, 88, 89, 90, 91, 92, 93, 94, 95], fun i => false, fun i => ([none, none, none, none, none, none, none, none, none, none, none, none, none, none, none, none, none, none, none, none, none, none, none, none, none, none, none, none] : List (Option (BoxRef × Nat))).getD i none, fun i => ([Sg.val (.int .i64 0), Sg.val (.bool false), Sg.val (.bool false), Sg.val (.pointer (some ⟨ts1, 0, none⟩)), Sg.ratO w.heap.size (costQ M), Sg.ratO w.heap.size (costQ M), Sg.val (.bool true), Sg.val (.bool false), Sg.val (.bool false), Sg.val (.bool false), Sg.val (.bool false), Sg.val (.bool false), Sg.val (.bool false), Sg.val (.bool false), Sg.val (.bool false), Sg.val (.pointer (some ⟨cs2, 0, none⟩)), Sg.val (.int .i64 ((a : Nat) : Int)), Sg.val (.pointer (some ⟨cs3, 0, none⟩)), Sg.val (.int .i64 ((a : Nat) : Int)), Sg.val (.bool false), Sg.val (.bool false), Sg.val (.bool false), Sg.val (.pointer (some ⟨cs2, 0, none⟩)), Sg.val (.bool true), Sg.val (.pointer (some ⟨cs3, 0, none⟩)), Sg.val (.bool true), Sg.val (.bool false), Sg.val (.bool false)] : List Sg).getD i Sg.any, [(ts1, 0, .slice tp1 (W : List Int).length tc1), (cs2, 0, .string s), (cs2, 1, .int .i64 ((a : Nat) : Int)), (cs2, 2, .bool true), (cs3, 0, .string s), (cs3, 1, .int .i64 ((a : Nat) : Int)), (cs3, 2, .bool true), (w9.heap.size, 0, .bool sb9), (w9.heap.size, 1, .slice sp9 sl9 sc9), (w9.heap.size, 2, .slice tp9 tl9 tc9)], []⟩ w.heap.size (by kernel_rfl) (by kernel_rfl) e10_.size ?hfr hkeep1 hob1 hne1 ?hs ?he
      case hfr =>
        intro i v wk hi hst hv
        exact absurd hi (by simp)
      case hs =>
        refine ⟨?_, ?_, ?_, ?_, ?_, ?_, ?_, ?_, ?_, ?_, ?_, ?_, ?_, ?_, ?_, ?_, ?_, ?_, ?_, ?_, ?_, ?_, ?_, ?_, ?_, ?_, ?_, ?_, trivial⟩
        · refine RStep.op rfl rfl (fun ac wk hp K hK => ?_)
          have t16_ : ac.tmps[16]?.getD undef = .int .i64 0 := hp.slot 16 rfl rfl
          have HP := Lib.hid hp
          clear hp
          go_simp
          refine hK.out _ _ ?_ (Ext.refl _) (fun h => absurd h (by simp))
          exact rfl
        · refine RStep.op rfl rfl (fun ac wk hp K hK => ?_)
          have u0e := hp.get 0 (by decide +kernel) rfl
          have t68_ : ac.tmps[68]?.getD undef = .int .i64 0 := slot_is' u0e
          have HP := Lib.hid hp
          clear hp
          go_simp
          refine hK.out _ _ ?_ (Ext.refl _) (fun h => absurd h (by simp))
          exact rfl
        · refine RStep.op rfl rfl (fun ac wk hp K hK => ?_)
          have u1e := hp.get 1 (by decide +kernel) rfl
          have t69_ : ac.tmps[69]?.getD undef = .bool false := slot_is' u1e
          have HP := Lib.hid hp
          clear hp
          go_simp
          refine hK.out _ _ ?_ (Ext.refl _) (fun h => absurd h (by simp))
          exact rfl
        · refine RStep.yes 2 false rfl rfl (by decide +kernel) rfl rfl (fun ac wk hp K hK => ?_)
          have t5_ : ac.tmps[5]?.getD undef = .pointer (some ⟨ts1, 0, none⟩) := hp.slot 5 rfl rfl
          have HP := Lib.hid hp
          clear hp
          go_simp
          refine hK.out _ _ ?_ (Ext.refl _) (fun h => absurd h (by simp))
          exact rfl
        · refine RStep.yes 2 false rfl rfl (by decide +kernel) rfl rfl (fun ac wk hp K hK => ?_)
          have u3e := hp.get 3 (by decide +kernel) rfl
          have t71_ : ac.tmps[71]?.getD undef = .pointer (some ⟨ts1, 0, none⟩) := slot_is' u3e
          have HP := Lib.hid hp
          clear hp
          go_simp
          refine (fcost_is ⟨(HP.out.keep.at 0 rfl), (k0.out.gr ((x2.gr.trans (x3.gr.trans (x4.gr.trans (x5.gr.trans (y6.trans (y7.trans (x8.gr.trans (x9.gr.trans y10.gr)))))))).trans HP.out.gr)), (up1.out.gr ((x2.gr.trans (x3.gr.trans (x4.gr.trans (x5.gr.trans (y6.trans (y7.trans (x8.gr.trans (x9.gr.trans y10.gr)))))))).trans HP.out.gr)).1⟩ HE.out M HM.out).mono ?_
          rintro e wk' ⟨sb10, sv10, su10, sm10, sd10, rfl, e10, o10, ix⟩
          obtain ⟨sp10, sl10, sc10, tp10, tl10, tc10, rfl, rfl⟩ := e10.slice
          refine hK.out _ _ ?_ ix (fun h => absurd h (by simp))
          exact ⟨_, _, _, _, _, _, _, _, _, rfl, e10, (o10.mono (Nat.le_trans e10_.size HP.out.gr.size))⟩
        · refine RStep.yes 2 false rfl rfl (by decide +kernel) rfl rfl (fun ac wk hp K hK => ?_)
          have t15_ : ac.tmps[15]?.getD undef = .pointer (some ⟨w9.heap.size, 0, none⟩) := hp.slot 15 rfl rfl
          have c0_ := hp.cell 7 rfl
          have c1_ := hp.cell 8 rfl
          have c2_ := hp.cell 9 rfl
          have HP := Lib.hid hp
          clear hp
          go_simp
          refine hK.out _ _ ?_ (Ext.refl _) (fun h => absurd h (by simp))
          exact ⟨_, _, _, _, _, _, _, _, _, rfl, (e9.gr (y10.gr.trans HP.out.gr)), ((o9.gr (y10.gr.trans HP.out.gr)).mono e8_.size)⟩
        · refine RStep.yes 2 false rfl rfl (by decide +kernel) rfl rfl (fun ac wk hp K hK => ?_)
          obtain ⟨u4b, u4p, u4n, u4c, u4q, u4k, u4d, u4m, u4l, u4e, u4i, u4o⟩ := hp.get 4 (by decide +kernel) rfl
          have t72_ : ac.tmps[72]?.getD undef = .agg #[.bool u4b, .slice u4p u4n u4c, .slice u4q u4k u4d] := slot_is' u4e
          obtain ⟨u5b, u5p, u5n, u5c, u5q, u5k, u5d, u5m, u5l, u5e, u5i, u5o⟩ := hp.get 5 (by decide +kernel) rfl
          have t73_ : ac.tmps[73]?.getD undef = .agg #[.bool u5b, .slice u5p u5n u5c, .slice u5q u5k u5d] := slot_is' u5e
          have HP := Lib.hid hp
          clear hp
          go_simp
          refine (is_is u4i u5i true (decide_eq_true (show ((costQ M) : Rat) = (costQ M) from rfl))).mono ?_
          rintro e wk' ⟨rfl, ix⟩
          refine hK.out _ _ ?_ ix (fun h => absurd h (by simp))
          exact rfl
        · refine RStep.yes 2 false rfl rfl (by decide +kernel) rfl rfl (fun ac wk hp K hK => ?_)
          have u6e := hp.get 6 (by decide +kernel) rfl
          have t74_ : ac.tmps[74]?.getD undef = .bool true := slot_is' u6e
          have HP := Lib.hid hp
          clear hp
          go_simp
          refine hK.out _ _ ?_ (Ext.refl _) (fun h => absurd h (by simp))
          exact rfl
        · refine RStep.op rfl rfl (fun ac wk hp K hK => ?_)
          have u2e := hp.get 2 (by decide +kernel) rfl
          have t70_ : ac.tmps[70]?.getD undef = .bool false := slot_is' u2e
          have u7e := hp.get 7 (by decide +kernel) rfl
          have t75_ : ac.tmps[75]?.getD undef = .bool false := slot_is' u7e
          have HP := Lib.hid hp
          clear hp
          go_simp
          refine hK.out _ _ ?_ (Ext.refl _) (fun h => absurd h (by simp))
          exact rfl
        · refine RStep.op rfl rfl (fun ac wk hp K hK => ?_)
          have u8e := hp.get 8 (by decide +kernel) rfl
          have t76_ : ac.tmps[76]?.getD undef = .bool false := slot_is' u8e
          have HP := Lib.hid hp
          clear hp
          go_simp
          refine hK.out _ _ ?_ (Ext.refl _) (fun h => absurd h (by simp))
          exact rfl
        · refine RStep.yes 9 false rfl rfl (by decide +kernel) rfl rfl (fun ac wk hp K hK => ?_)
          have t12_ : ac.tmps[12]?.getD undef = .bool false := hp.slot 12 rfl rfl
          have HP := Lib.hid hp
          clear hp
          go_simp
          refine hK.out _ _ ?_ (Ext.refl _) (fun h => absurd h (by simp))
          exact rfl
        · refine RStep.yes 9 false rfl rfl (by decide +kernel) rfl rfl (fun ac wk hp K hK => ?_)
          have t14_ : ac.tmps[14]?.getD undef = .bool false := hp.slot 14 rfl rfl
          have HP := Lib.hid hp
          clear hp
          go_simp
          refine hK.out _ _ ?_ (Ext.refl _) (fun h => absurd h (by simp))
          exact rfl
        · refine RStep.yes 9 false rfl rfl (by decide +kernel) rfl rfl (fun ac wk hp K hK => ?_)
          have u10e := hp.get 10 (by decide +kernel) rfl
          have t78_ : ac.tmps[78]?.getD undef = .bool false := slot_is' u10e
          have u11e := hp.get 11 (by decide +kernel) rfl
          have t79_ : ac.tmps[79]?.getD undef = .bool false := slot_is' u11e
          have HP := Lib.hid hp
          clear hp
          go_simp
          refine hK.out _ _ ?_ (Ext.refl _) (fun h => absurd h (by simp))
          exact rfl
        · refine RStep.op rfl rfl (fun ac wk hp K hK => ?_)
          have u9e := hp.get 9 (by decide +kernel) rfl
          have t77_ : ac.tmps[77]?.getD undef = .bool false := slot_is' u9e
          have u12e := hp.get 12 (by decide +kernel) rfl
          have t80_ : ac.tmps[80]?.getD undef = .bool false := slot_is' u12e
          have HP := Lib.hid hp
          clear hp
          go_simp
          refine hK.out _ _ ?_ (Ext.refl _) (fun h => absurd h (by simp))
          exact rfl
        · refine RStep.op rfl rfl (fun ac wk hp K hK => ?_)
          have u13e := hp.get 13 (by decide +kernel) rfl
          have t81_ : ac.tmps[81]?.getD undef = .bool false := slot_is' u13e
          have HP := Lib.hid hp
          clear hp
          go_simp
          refine hK.out _ _ ?_ (Ext.refl _) (fun h => absurd h (by simp))
          exact rfl
        · refine RStep.yes 14 false rfl rfl (by decide +kernel) rfl rfl (fun ac wk hp K hK => ?_)
          have t7_ : ac.tmps[7]?.getD undef = .pointer (some ⟨cs2, 0, none⟩) := hp.slot 7 rfl rfl
          have HP := Lib.hid hp
          clear hp
          go_simp
          refine hK.out _ _ ?_ (Ext.refl _) (fun h => absurd h (by simp))
          exact rfl
        · refine RStep.yes 14 false rfl rfl (by decide +kernel) rfl rfl (fun ac wk hp K hK => ?_)
          have u15e := hp.get 15 (by decide +kernel) rfl
          have t83_ : ac.tmps[83]?.getD undef = .pointer (some ⟨cs2, 0, none⟩) := slot_is' u15e
          have HP := Lib.hid hp
          clear hp
          go_simp
          refine (cat_calls (show Cur s (cs2) (a) true _ from ⟨(HP.out.keep.at 1 rfl), (HP.out.keep.at 2 rfl), (HP.out.keep.at 3 rfl), (k1.out.gr ((x8.gr.trans (x9.gr.trans y10.gr)).trans HP.out.gr))⟩)).mono ?_
          rintro e wk' ⟨rfl, ix⟩
          refine hK.out _ _ ?_ ix (fun h => absurd h (by simp))
          exact rfl
        · refine RStep.yes 14 false rfl rfl (by decide +kernel) rfl rfl (fun ac wk hp K hK => ?_)
          have t9_ : ac.tmps[9]?.getD undef = .pointer (some ⟨cs3, 0, none⟩) := hp.slot 9 rfl rfl
          have HP := Lib.hid hp
          clear hp
          go_simp
          refine hK.out _ _ ?_ (Ext.refl _) (fun h => absurd h (by simp))
          exact rfl
        · refine RStep.yes 14 false rfl rfl (by decide +kernel) rfl rfl (fun ac wk hp K hK => ?_)
          have u17e := hp.get 17 (by decide +kernel) rfl
          have t85_ : ac.tmps[85]?.getD undef = .pointer (some ⟨cs3, 0, none⟩) := slot_is' u17e
          have HP := Lib.hid hp
          clear hp
          go_simp
          refine (cat_calls (show Cur s (cs3) (a) true _ from ⟨(HP.out.keep.at 4 rfl), (HP.out.keep.at 5 rfl), (HP.out.keep.at 6 rfl), (k2.out.gr ((y7.trans (x8.gr.trans (x9.gr.trans y10.gr))).trans HP.out.gr))⟩)).mono ?_
          rintro e wk' ⟨rfl, ix⟩
          refine hK.out _ _ ?_ ix (fun h => absurd h (by simp))
          exact rfl
        · refine RStep.yes 14 false rfl rfl (by decide +kernel) rfl rfl (fun ac wk hp K hK => ?_)
          have u16e := hp.get 16 (by decide +kernel) rfl
          have t84_ : ac.tmps[84]?.getD undef = .int .i64 ((a : Nat) : Int) := slot_is' u16e
          have u18e := hp.get 18 (by decide +kernel) rfl
          have t86_ : ac.tmps[86]?.getD undef = .int .i64 ((a : Nat) : Int) := slot_is' u18e
          have HP := Lib.hid hp
          clear hp
          go_simp
          refine hK.out _ _ ?_ (Ext.refl _) (fun h => absurd h (by simp))
          exact rfl
        · refine RStep.op rfl rfl (fun ac wk hp K hK => ?_)
          have u14e := hp.get 14 (by decide +kernel) rfl
          have t82_ : ac.tmps[82]?.getD undef = .bool false := slot_is' u14e
          have u19e := hp.get 19 (by decide +kernel) rfl
          have t87_ : ac.tmps[87]?.getD undef = .bool false := slot_is' u19e
          have HP := Lib.hid hp
          clear hp
          go_simp
          refine hK.out _ _ ?_ (Ext.refl _) (fun h => absurd h (by simp))
          exact rfl
        · refine RStep.op rfl rfl (fun ac wk hp K hK => ?_)
          have u20e := hp.get 20 (by decide +kernel) rfl
          have t88_ : ac.tmps[88]?.getD undef = .bool false := slot_is' u20e
          have HP := Lib.hid hp
          clear hp
          go_simp
          refine hK.out _ _ ?_ (Ext.refl _) (fun h => absurd h (by simp))
          exact rfl
        · refine RStep.yes 21 false rfl rfl (by decide +kernel) rfl rfl (fun ac wk hp K hK => ?_)
          have t7_ : ac.tmps[7]?.getD undef = .pointer (some ⟨cs2, 0, none⟩) := hp.slot 7 rfl rfl
          have HP := Lib.hid hp
          clear hp
          go_simp
          refine hK.out _ _ ?_ (Ext.refl _) (fun h => absurd h (by simp))
          exact rfl
        · refine RStep.yes 21 false rfl rfl (by decide +kernel) rfl rfl (fun ac wk hp K hK => ?_)
          have u22e := hp.get 22 (by decide +kernel) rfl
          have t90_ : ac.tmps[90]?.getD undef = .pointer (some ⟨cs2, 0, none⟩) := slot_is' u22e
          have HP := Lib.hid hp
          clear hp
          go_simp
          refine (cover_calls (show Cur s (cs2) (a) true _ from ⟨(HP.out.keep.at 1 rfl), (HP.out.keep.at 2 rfl), (HP.out.keep.at 3 rfl), (k1.out.gr ((x8.gr.trans (x9.gr.trans y10.gr)).trans HP.out.gr))⟩)).mono ?_
          rintro e wk' ⟨rfl, ix⟩
          refine hK.out _ _ ?_ ix (fun h => absurd h (by simp))
          exact rfl
        · refine RStep.yes 21 false rfl rfl (by decide +kernel) rfl rfl (fun ac wk hp K hK => ?_)
          have t9_ : ac.tmps[9]?.getD undef = .pointer (some ⟨cs3, 0, none⟩) := hp.slot 9 rfl rfl
          have HP := Lib.hid hp
          clear hp
          go_simp
          refine hK.out _ _ ?_ (Ext.refl _) (fun h => absurd h (by simp))
          exact rfl
        · refine RStep.yes 21 false rfl rfl (by decide +kernel) rfl rfl (fun ac wk hp K hK => ?_)
          have u24e := hp.get 24 (by decide +kernel) rfl
          have t92_ : ac.tmps[92]?.getD undef = .pointer (some ⟨cs3, 0, none⟩) := slot_is' u24e
          have HP := Lib.hid hp
          clear hp
          go_simp
          refine (cover_calls (show Cur s (cs3) (a) true _ from ⟨(HP.out.keep.at 4 rfl), (HP.out.keep.at 5 rfl), (HP.out.keep.at 6 rfl), (k2.out.gr ((y7.trans (x8.gr.trans (x9.gr.trans y10.gr))).trans HP.out.gr))⟩)).mono ?_
          rintro e wk' ⟨rfl, ix⟩
          refine hK.out _ _ ?_ ix (fun h => absurd h (by simp))
          exact rfl
        · refine RStep.yes 21 false rfl rfl (by decide +kernel) rfl rfl (fun ac wk hp K hK => ?_)
          have u23e := hp.get 23 (by decide +kernel) rfl
          have t91_ : ac.tmps[91]?.getD undef = .bool true := slot_is' u23e
          have u25e := hp.get 25 (by decide +kernel) rfl
          have t93_ : ac.tmps[93]?.getD undef = .bool true := slot_is' u25e
          have HP := Lib.hid hp
          clear hp
          go_simp
          refine hK.out _ _ ?_ (Ext.refl _) (fun h => absurd h (by simp))
          exact rfl
        · refine RStep.op rfl rfl (fun ac wk hp K hK => ?_)
          have u21e := hp.get 21 (by decide +kernel) rfl
          have t89_ : ac.tmps[89]?.getD undef = .bool false := slot_is' u21e
          have u26e := hp.get 26 (by decide +kernel) rfl
          have t94_ : ac.tmps[94]?.getD undef = .bool false := slot_is' u26e
          have HP := Lib.hid hp
          clear hp
          go_simp
          refine hK.out _ _ ?_ (Ext.refl _) (fun h => absurd h (by simp))
          exact rfl
      case he =>
        intro ac v11 hM
        have y1_0e := hM.post 0 rfl rfl
        have y1_1e := hM.post 1 rfl rfl
        have y1_2e := hM.post 2 rfl rfl
        have y1_3e := hM.post 3 rfl rfl
        obtain ⟨y1_4b, y1_4p, y1_4n, y1_4c, y1_4q, y1_4k, y1_4d, y1_4m, y1_4l, y1_4e, y1_4i, y1_4o⟩ := hM.post 4 rfl rfl
        obtain ⟨y1_5b, y1_5p, y1_5n, y1_5c, y1_5q, y1_5k, y1_5d, y1_5m, y1_5l, y1_5e, y1_5i, y1_5o⟩ := hM.post 5 rfl rfl
        have y1_6e := hM.post 6 rfl rfl
        have y1_7e := hM.post 7 rfl rfl
        have y1_8e := hM.post 8 rfl rfl
        have y1_9e := hM.post 9 rfl rfl
        have y1_10e := hM.post 10 rfl rfl
        have y1_11e := hM.post 11 rfl rfl
        have y1_12e := hM.post 12 rfl rfl
        have y1_13e := hM.post 13 rfl rfl
        have y1_14e := hM.post 14 rfl rfl
        have y1_15e := hM.post 15 rfl rfl
        have y1_16e := hM.post 16 rfl rfl
        have y1_17e := hM.post 17 rfl rfl
        have y1_18e := hM.post 18 rfl rfl
        have y1_19e := hM.post 19 rfl rfl
        have y1_20e := hM.post 20 rfl rfl
        have y1_21e := hM.post 21 rfl rfl
        have y1_22e := hM.post 22 rfl rfl
        have y1_23e := hM.post 23 rfl rfl
        have y1_24e := hM.post 24 rfl rfl
        have y1_25e := hM.post 25 rfl rfl
        have y1_26e := hM.post 26 rfl rfl
        have y1_27e := hM.post 27 rfl rfl
        have b0_0 : Hid (At (ts1) 0 (.slice tp1 (W : List Int).length tc1) v11) := Lib.hid (hM.keep.at 0 rfl)
        have b1_0 : Hid (At (cs2) 0 (.string s) v11) := Lib.hid (hM.keep.at 1 rfl)
        have b1_1 : Hid (At (cs2) 1 (.int .i64 ((a : Nat) : Int)) v11) := Lib.hid (hM.keep.at 2 rfl)
        have b1_2 : Hid (At (cs2) 2 (.bool true) v11) := Lib.hid (hM.keep.at 3 rfl)
        have b2_0 : Hid (At (cs3) 0 (.string s) v11) := Lib.hid (hM.keep.at 4 rfl)
        have b2_1 : Hid (At (cs3) 1 (.int .i64 ((a : Nat) : Int)) v11) := Lib.hid (hM.keep.at 5 rfl)
        have b2_2 : Hid (At (cs3) 2 (.bool true) v11) := Lib.hid (hM.keep.at 6 rfl)
        have b3_0 : Hid (At (w9.heap.size) 0 (.bool sb9) v11) := Lib.hid (hM.keep.at 7 rfl)
        have b3_1 : Hid (At (w9.heap.size) 1 (.slice sp9 sl9 sc9) v11) := Lib.hid (hM.keep.at 8 rfl)
        have b3_2 : Hid (At (w9.heap.size) 2 (.slice tp9 tl9 tc9) v11) := Lib.hid (hM.keep.at 9 rfl)
        have gv11 : Gr v10 v11 := hM.gr
        have e11_ : Ext w v11 := Ext.below e10_ hM.blw
        have z0_ : sl ac 68 = .int .i64 0 := y1_0e
        have z1_ : sl ac 69 = .bool false := y1_1e
        have z2_ : sl ac 70 = .bool false := y1_2e
        have z3_ : sl ac 71 = .pointer (some ⟨ts1, 0, none⟩) := y1_3e
        have z4_ : sl ac 72 = .agg #[.bool y1_4b, .slice y1_4p y1_4n y1_4c, .slice y1_4q y1_4k y1_4d] := y1_4e
        have z5_ : sl ac 73 = .agg #[.bool y1_5b, .slice y1_5p y1_5n y1_5c, .slice y1_5q y1_5k y1_5d] := y1_5e
        have z6_ : sl ac 74 = .bool true := y1_6e
        have z7_ : sl ac 75 = .bool false := y1_7e
        have z8_ : sl ac 76 = .bool false := y1_8e
        have z9_ : sl ac 77 = .bool false := y1_9e
        have z10_ : sl ac 78 = .bool false := y1_10e
        have z11_ : sl ac 79 = .bool false := y1_11e
        have z12_ : sl ac 80 = .bool false := y1_12e
        have z13_ : sl ac 81 = .bool false := y1_13e
        have z14_ : sl ac 82 = .bool false := y1_14e
        have z15_ : sl ac 83 = .pointer (some ⟨cs2, 0, none⟩) := y1_15e
        have z16_ : sl ac 84 = .int .i64 ((a : Nat) : Int) := y1_16e
        have z17_ : sl ac 85 = .pointer (some ⟨cs3, 0, none⟩) := y1_17e
        have z18_ : sl ac 86 = .int .i64 ((a : Nat) : Int) := y1_18e
        have z19_ : sl ac 87 = .bool false := y1_19e
        have z20_ : sl ac 88 = .bool false := y1_20e
        have z21_ : sl ac 89 = .bool false := y1_21e
        have z22_ : sl ac 90 = .pointer (some ⟨cs2, 0, none⟩) := y1_22e
        have z23_ : sl ac 91 = .bool true := y1_23e
        have z24_ : sl ac 92 = .pointer (some ⟨cs3, 0, none⟩) := y1_24e
        have z25_ : sl ac 93 = .bool true := y1_25e
        have z26_ : sl ac 94 = .bool false := y1_26e
        have z27_ : sl ac 95 = .bool false := y1_27e
        rw [hM.ag.lay]
        simp only [lay, List.foldl_cons, List.foldl_nil, List.setIfInBounds_toArray, List.set_cons_zero, List.set_cons_succ, z0_, z1_, z2_, z3_, z4_, z5_, z6_, z7_, z8_, z9_, z10_, z11_, z12_, z13_, z14_, z15_, z16_, z17_, z18_, z19_, z20_, z21_, z22_, z23_, z24_, z25_, z26_, z27_]
        clear hM hkeep1 hob1 hne1 z0_ z1_ z2_ z3_ z4_ z5_ z6_ z7_ z8_ z9_ z10_ z11_ z12_ z13_ z14_ z15_ z16_ z17_ z18_ z19_ z20_ z21_ z22_ z23_ z24_ z25_ z26_ z27_ y1_0e y1_1e y1_2e y1_3e y1_4e y1_5e y1_6e y1_7e y1_8e y1_9e y1_10e y1_11e y1_12e y1_13e y1_14e y1_15e y1_16e y1_17e y1_18e y1_19e y1_20e y1_21e y1_22e y1_23e y1_24e y1_25e y1_26e y1_27e
        go_wp2_with fail
        go_ret
        exact ⟨rfl, e11_⟩

end Go.Proofs.YtkfioaoooodmnaaDoor
