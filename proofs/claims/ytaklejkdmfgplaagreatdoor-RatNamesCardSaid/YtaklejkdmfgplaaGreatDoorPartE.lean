/- Facts and contracts, joined: Rat4, Rat5, Cut, Pow. -/
import Derived.Test.YtaklejkdmfgplaaGreatDoorPartD
import Derived.Test.YtaklejkdmfgplaaGreatDoorPartA
import Derived.Test.YtaklejkdmfgplaaGreatDoorPartC
import Derived.Lib.Bytealg
import Derived.Lib.IndexLaws
import Derived.Laws.Externs

/- The contracts of package rat: differences, quotients, halves. -/
namespace Go.Proofs.YtaklejkdmfgplaaGreatDoor
open Go Go.RowKit

theorem quo_sg {a b : Rat} {s t : Bool} (h1 : decide (a.num < 0) = s) (h2 : decide (b.num < 0) = t) (hb : b ≠ 0) : mkRat (sgI (s != t) (a.num.natAbs * b.den)) (a.den * b.num.natAbs) = a / b := by
  rw [← quo_mk]
  congr 1
  have hn : b.num ≠ 0 := fun h => hb (Rat.num_eq_zero.1 h)
  have e : ∀ x : Int, (0 ≤ x ∧ (x.natAbs : Int) = x) ∨ (x < 0 ∧ (x.natAbs : Int) = -x) := fun x => by omega
  subst h1 h2
  rcases e a.num with ⟨a1, a2⟩ | ⟨a1, a2⟩ <;> rcases Int.lt_or_gt_of_ne hn with c1 | c1
  · rw [Int.sign_eq_neg_one_of_neg c1]; simp [sgI, Int.not_lt.2 a1, c1, a2, Int.mul_neg_one]
  · rw [Int.sign_eq_one_of_pos c1]; simp [sgI, Int.not_lt.2 a1, Int.not_lt.2 (Int.le_of_lt c1), a2]
  · rw [Int.sign_eq_neg_one_of_neg c1]; simp [sgI, a1, c1, a2, Int.mul_neg_one, Int.neg_mul]
  · rw [Int.sign_eq_one_of_pos c1]; simp [sgI, a1, Int.not_lt.2 (Int.le_of_lt c1), a2, Int.neg_mul]

set_option maxHeartbeats 4000000 in
set_option maxRecDepth 100000 in
theorem rquo_is {w : World} {ba bb : Bool} {va ua vb ub : Value} {k l : Nat} {a b : Rat} (ha : InR w ba va ua k a) (hb : InR w bb vb ub l b) (hk : k + l ≤ 30000) (h0 : b ≠ 0) :
    Calls Tryz.prog 66 #[.agg #[.bool ba, va, ua], .agg #[.bool bb, vb, ub]] w (RetR0 w (a / b)) := by
  obtain ⟨pa, qa, ra, pa', qa', ra', rfl, rfl⟩ := ha.slice
  obtain ⟨pb, qb, rb, pb', qb', rb', rfl, rfl⟩ := hb.slice
  have HK := Lib.hid hk
  have LA := Lib.hid ha.len
  have LB := Lib.hid hb.len
  clear hk
  have HB : Hid (b ≠ 0) := h0
  have HND : Hid (a.den * b.num.natAbs ≠ 0) := Nat.mul_ne_zero a.den_nz (fun h => h0 (Rat.num_eq_zero.1 (Int.natAbs_eq_zero.1 h)))
  clear h0
  go_enter Tryz.func66, Tryz.ntmps66
  go_wp2_with fail
  obtain ⟨v1, hv1⟩ : ∃ W, W = (((w.alloc (.cells #[.bool ba, .slice pa qa ra, .slice pa' qa' ra'] 36)).alloc (.cells #[.bool bb, .slice pb qb rb, .slice pb' qb' rb'] 36)).alloc (.cells #[.bool false, .slice none 0 0, .slice none 0 0] 36)) := ⟨_, rfl⟩
  have y1 : Ext w v1 := by rw [hv1]; exact ((((Ext.refl _).alloc _).alloc _).alloc _)
  have b0_0 : Hid (At (w.heap.size) 0 (.bool ba) v1) := by rw [hv1]; exact At.ext (At.n0 (by rfl)) (((Ext.refl _).alloc _).alloc _)
  have b0_1 : Hid (At (w.heap.size) 1 (.slice pa qa ra) v1) := by rw [hv1]; exact At.ext (At.n0 (by rfl)) (((Ext.refl _).alloc _).alloc _)
  have b0_2 : Hid (At (w.heap.size) 2 (.slice pa' qa' ra') v1) := by rw [hv1]; exact At.ext (At.n0 (by rfl)) (((Ext.refl _).alloc _).alloc _)
  have k0 : Hid (Bx 3 (w.heap.size) v1) := by rw [hv1]; exact Bx.gr (Bx.n0 3 ⟨rfl, by decide⟩ (by decide) noI_s3) (Ext.gr (((Ext.refl _).alloc _).alloc _))
  have u0 : Hid (w.heap.size < v1.heap.size) := b0_0.out.2
  have b1_0 : Hid (At (w.heap.size + 1) 0 (.bool bb) v1) := by rw [hv1]; exact At.ext (At.n1 (by rfl)) ((Ext.refl _).alloc _)
  have b1_1 : Hid (At (w.heap.size + 1) 1 (.slice pb qb rb) v1) := by rw [hv1]; exact At.ext (At.n1 (by rfl)) ((Ext.refl _).alloc _)
  have b1_2 : Hid (At (w.heap.size + 1) 2 (.slice pb' qb' rb') v1) := by rw [hv1]; exact At.ext (At.n1 (by rfl)) ((Ext.refl _).alloc _)
  have k1 : Hid (Bx 3 (w.heap.size + 1) v1) := by rw [hv1]; exact Bx.gr (Bx.n1 3 ⟨rfl, by decide⟩ (by decide) noI_s3) (Ext.gr ((Ext.refl _).alloc _))
  have u1 : Hid (w.heap.size + 1 < v1.heap.size) := b1_0.out.2
  have b2_0 : Hid (At (w.heap.size + 1 + 1) 0 (.bool false) v1) := by rw [hv1]; exact At.ext (At.n2 (by rfl)) (Ext.refl _)
  have b2_1 : Hid (At (w.heap.size + 1 + 1) 1 (.slice none 0 0) v1) := by rw [hv1]; exact At.ext (At.n2 (by rfl)) (Ext.refl _)
  have b2_2 : Hid (At (w.heap.size + 1 + 1) 2 (.slice none 0 0) v1) := by rw [hv1]; exact At.ext (At.n2 (by rfl)) (Ext.refl _)
  have k2 : Hid (Bx 3 (w.heap.size + 1 + 1) v1) := by rw [hv1]; exact Bx.gr (Bx.n2 3 ⟨rfl, by decide⟩ (by decide) noI_s3) (Ext.gr (Ext.refl _))
  have u2 : Hid (w.heap.size + 1 + 1 < v1.heap.size) := b2_0.out.2
  have e1_ : Ext w v1 := y1
  rw [← hv1]
  clear hv1
  have hkeep1 : AllAt' ([(w.heap.size + 1 + 1, 0, .bool false), (w.heap.size + 1 + 1, 1, .slice none 0 0), (w.heap.size + 1 + 1, 2, .slice none 0 0)] : List (Nat × Nat × Value)) v1 := AllAt'.cons b2_0.out (AllAt'.cons b2_1.out (AllAt'.cons b2_2.out (AllAt'.nil _)))
  have hob1 : ObOk w.heap.size v1 (([(w.heap.size + 1 + 1, 0, .bool false), (w.heap.size + 1 + 1, 1, .slice none 0 0), (w.heap.size + 1 + 1, 2, .slice none 0 0)] : List (Nat × Nat × Value)).map (·.1)) ([(w.heap.size, [(0, .bool ba), (1, .slice pa qa ra), (2, .slice pa' qa' ra')]), (w.heap.size + 1, [(0, .bool bb), (1, .slice pb qb rb), (2, .slice pb' qb' rb')])] : List (Nat × List (Nat × Value))) := ⟨⟨(by omega), b0_0.out.2, ⟨b0_0.out, ⟨b0_1.out, ⟨b0_2.out, trivial⟩⟩⟩, ⟨(by (try dsimp only); omega), ⟨(by (try dsimp only); omega), ⟨(by (try dsimp only); omega), trivial⟩⟩⟩⟩, ⟨⟨(by omega), b1_0.out.2, ⟨b1_0.out, ⟨b1_1.out, ⟨b1_2.out, trivial⟩⟩⟩, ⟨(by (try dsimp only); omega), ⟨(by (try dsimp only); omega), ⟨(by (try dsimp only); omega), trivial⟩⟩⟩⟩, trivial⟩⟩
  have hne1 : AllNe (([(w.heap.size, [(0, .bool ba), (1, .slice pa qa ra), (2, .slice pa' qa' ra')]), (w.heap.size + 1, [(0, .bool bb), (1, .slice pb qb rb), (2, .slice pb' qb' rb')])] : List (Nat × List (Nat × Value))).map (·.1)) := ⟨⟨(by (try dsimp only); omega), trivial⟩, ⟨trivial, trivial⟩⟩
  (try simp only [List.append_eq, List.cons_append, List.nil_append])
  refine wp_region_gen ⟨[6, 7, 8, 9], fun i => false, fun i => ([none, none, none, none, some (.old 0, 1), some (.old 1, 3)] : List (Option (BoxRef × Nat))).getD i none, fun i => ([Sg.val (.agg #[.bool ba, .slice pa qa ra, .slice pa' qa' ra']), Sg.ratO w.heap.size a, Sg.val (.agg #[.bool bb, .slice pb qb rb, .slice pb' qb' rb']), Sg.ratO w.heap.size b, Sg.any, Sg.any] : List Sg).getD i Sg.any, [(w.heap.size + 1 + 1, 0, .bool false), (w.heap.size + 1 + 1, 1, .slice none 0 0), (w.heap.size + 1 + 1, 2, .slice none 0 0)], [(w.heap.size, [(0, .bool ba), (1, .slice pa qa ra), (2, .slice pa' qa' ra')]), (w.heap.size + 1, [(0, .bool bb), (1, .slice pb qb rb), (2, .slice pb' qb' rb')])]⟩ w.heap.size (by kernel_rfl) (by kernel_rfl) e1_.size ?hfr hkeep1 hob1 hne1 ?hs ?he
  case hfr =>
    intro i v wk hi hst hv
    exact absurd hi (by simp)
  case hs =>
    refine ⟨?_, ?_, ?_, ?_, ?_, ?_, trivial⟩
    · refine RStep.op rfl rfl (fun ac wk hp K hK => ?_)
      have t2_ : ac.tmps[2]?.getD undef = .pointer (some ⟨w.heap.size, 0, none⟩) := hp.slot 2 rfl rfl
      have c0_ := hp.ocell 4 0 (by decide) rfl (by decide +kernel) rfl
      have c1_ := hp.ocell 4 1 (by decide) rfl (by decide +kernel) rfl
      have c2_ := hp.ocell 4 2 (by decide) rfl (by decide +kernel) rfl
      have HP := Lib.hid hp
      clear hp
      go_simp
      refine hK.out _ _ ?_ (Ext.refl _) (fun h => absurd h (by simp))
      exact rfl
    · refine RStep.op rfl rfl (fun ac wk hp K hK => ?_)
      have u0e := hp.get 0 (by decide +kernel) rfl
      have t6_ : ac.tmps[6]?.getD undef = .agg #[.bool ba, .slice pa qa ra, .slice pa' qa' ra'] := slot_is' u0e
      have HP := Lib.hid hp
      clear hp
      go_simp
      refine (rcount_is (ha.gr (y1.gr.trans HP.out.gr)) (by have h1 := HK.out; omega)).mono ?_
      rintro e wk' ⟨sb1, sv1, su1, sm1, sd1, rfl, e1, o1, ix⟩
      obtain ⟨sp1, sl1, sc1, tp1, tl1, tc1, rfl, rfl⟩ := e1.slice
      refine hK.out _ _ ?_ ix (fun h => absurd h (by simp))
      exact ⟨_, _, _, _, _, _, _, _, _, rfl, e1, (o1.mono (Nat.le_trans e1_.size HP.out.gr.size))⟩
    · refine RStep.op rfl rfl (fun ac wk hp K hK => ?_)
      have t3_ : ac.tmps[3]?.getD undef = .pointer (some ⟨w.heap.size + 1, 0, none⟩) := hp.slot 3 rfl rfl
      have c0_ := hp.ocell 5 0 (by decide) rfl (by decide +kernel) rfl
      have c1_ := hp.ocell 5 1 (by decide) rfl (by decide +kernel) rfl
      have c2_ := hp.ocell 5 2 (by decide) rfl (by decide +kernel) rfl
      have HP := Lib.hid hp
      clear hp
      go_simp
      refine hK.out _ _ ?_ (Ext.refl _) (fun h => absurd h (by simp))
      exact rfl
    · refine RStep.op rfl rfl (fun ac wk hp K hK => ?_)
      have u2e := hp.get 2 (by decide +kernel) rfl
      have t8_ : ac.tmps[8]?.getD undef = .agg #[.bool bb, .slice pb qb rb, .slice pb' qb' rb'] := slot_is' u2e
      have HP := Lib.hid hp
      clear hp
      go_simp
      refine (rcount_is (hb.gr (y1.gr.trans HP.out.gr)) (by have h1 := HK.out; omega)).mono ?_
      rintro e wk' ⟨sb2, sv2, su2, sm2, sd2, rfl, e2, o2, ix⟩
      obtain ⟨sp2, sl2, sc2, tp2, tl2, tc2, rfl, rfl⟩ := e2.slice
      refine hK.out _ _ ?_ ix (fun h => absurd h (by simp))
      exact ⟨_, _, _, _, _, _, _, _, _, rfl, e2, (o2.mono (Nat.le_trans e1_.size HP.out.gr.size))⟩
    · refine RStep.so 0 1 (w.heap.size) rfl rfl rfl (fun ac wk hp => ?_)
      have t2_ : ac.tmps[2]?.getD undef = .pointer (some ⟨w.heap.size, 0, none⟩) := hp.slot 2 rfl rfl
      obtain ⟨u1b, u1p, u1n, u1c, u1q, u1k, u1d, u1m, u1l, u1e, u1i, u1o⟩ := hp.get 1 (by decide +kernel) rfl
      have t7_ : ac.tmps[7]?.getD undef = .agg #[.bool u1b, .slice u1p u1n u1c, .slice u1q u1k u1d] := slot_is' u1e
      obtain ⟨d0, hd0, -⟩ := Bx.cell (k0.out.gr hp.gr) (o := 0) (by decide)
      have fz0 := Bx.free (k0.out.gr hp.gr) 0
      obtain ⟨d1, hd1, -⟩ := Bx.cell (k0.out.gr hp.gr) (o := 1) (by decide)
      have fz1 := Bx.free (k0.out.gr hp.gr) 1
      obtain ⟨d2, hd2, -⟩ := Bx.cell (k0.out.gr hp.gr) (o := 2) (by decide)
      have fz2 := Bx.free (k0.out.gr hp.gr) 2
      refine ⟨3, [.bool u1b, .slice u1p u1n u1c, .slice u1q u1k u1d], (k0.out.gr hp.gr), by rw [u1e]; rfl, rfl, noI_s3, fun K hK => ?_⟩
      have HK := Lib.hid hK
      clear hK hp
      go_simp
      exact HK.out
    · refine RStep.so 1 3 (w.heap.size + 1) rfl rfl rfl (fun ac wk hp => ?_)
      have t3_ : ac.tmps[3]?.getD undef = .pointer (some ⟨w.heap.size + 1, 0, none⟩) := hp.slot 3 rfl rfl
      obtain ⟨u3b, u3p, u3n, u3c, u3q, u3k, u3d, u3m, u3l, u3e, u3i, u3o⟩ := hp.get 3 (by decide +kernel) rfl
      have t9_ : ac.tmps[9]?.getD undef = .agg #[.bool u3b, .slice u3p u3n u3c, .slice u3q u3k u3d] := slot_is' u3e
      obtain ⟨d0, hd0, -⟩ := Bx.cell (k1.out.gr hp.gr) (o := 0) (by decide)
      have fz0 := Bx.free (k1.out.gr hp.gr) 0
      obtain ⟨d1, hd1, -⟩ := Bx.cell (k1.out.gr hp.gr) (o := 1) (by decide)
      have fz1 := Bx.free (k1.out.gr hp.gr) 1
      obtain ⟨d2, hd2, -⟩ := Bx.cell (k1.out.gr hp.gr) (o := 2) (by decide)
      have fz2 := Bx.free (k1.out.gr hp.gr) 2
      refine ⟨3, [.bool u3b, .slice u3p u3n u3c, .slice u3q u3k u3d], (k1.out.gr hp.gr), by rw [u3e]; rfl, rfl, noI_s3, fun K hK => ?_⟩
      have HK := Lib.hid hK
      clear hK hp
      go_simp
      exact HK.out
  case he =>
    intro ac v2 hM
    have y1_0e := hM.post 0 rfl rfl
    obtain ⟨y1_1b, y1_1p, y1_1n, y1_1c, y1_1q, y1_1k, y1_1d, y1_1m, y1_1l, y1_1e, y1_1i, y1_1o⟩ := hM.post 1 rfl rfl
    have y1_2e := hM.post 2 rfl rfl
    obtain ⟨y1_3b, y1_3p, y1_3n, y1_3c, y1_3q, y1_3k, y1_3d, y1_3m, y1_3l, y1_3e, y1_3i, y1_3o⟩ := hM.post 3 rfl rfl
    have b0_0 : Hid (At (w.heap.size) 0 (.bool y1_1b) v2) := Lib.hid (hM.boxOld 4 0 1 rfl rfl rfl (cs := [.bool y1_1b, .slice y1_1p y1_1n y1_1c, .slice y1_1q y1_1k y1_1d]) (by rw [y1_1e]; rfl) 0 _ rfl)
    have b0_1 : Hid (At (w.heap.size) 1 (.slice y1_1p y1_1n y1_1c) v2) := Lib.hid (hM.boxOld 4 0 1 rfl rfl rfl (cs := [.bool y1_1b, .slice y1_1p y1_1n y1_1c, .slice y1_1q y1_1k y1_1d]) (by rw [y1_1e]; rfl) 1 _ rfl)
    have b0_2 : Hid (At (w.heap.size) 2 (.slice y1_1q y1_1k y1_1d) v2) := Lib.hid (hM.boxOld 4 0 1 rfl rfl rfl (cs := [.bool y1_1b, .slice y1_1p y1_1n y1_1c, .slice y1_1q y1_1k y1_1d]) (by rw [y1_1e]; rfl) 2 _ rfl)
    have b1_0 : Hid (At (w.heap.size + 1) 0 (.bool y1_3b) v2) := Lib.hid (hM.boxOld 5 1 3 rfl rfl rfl (cs := [.bool y1_3b, .slice y1_3p y1_3n y1_3c, .slice y1_3q y1_3k y1_3d]) (by rw [y1_3e]; rfl) 0 _ rfl)
    have b1_1 : Hid (At (w.heap.size + 1) 1 (.slice y1_3p y1_3n y1_3c) v2) := Lib.hid (hM.boxOld 5 1 3 rfl rfl rfl (cs := [.bool y1_3b, .slice y1_3p y1_3n y1_3c, .slice y1_3q y1_3k y1_3d]) (by rw [y1_3e]; rfl) 1 _ rfl)
    have b1_2 : Hid (At (w.heap.size + 1) 2 (.slice y1_3q y1_3k y1_3d) v2) := Lib.hid (hM.boxOld 5 1 3 rfl rfl rfl (cs := [.bool y1_3b, .slice y1_3p y1_3n y1_3c, .slice y1_3q y1_3k y1_3d]) (by rw [y1_3e]; rfl) 2 _ rfl)
    have b2_0 : Hid (At (w.heap.size + 1 + 1) 0 (.bool false) v2) := Lib.hid (hM.keep.at 0 rfl)
    have b2_1 : Hid (At (w.heap.size + 1 + 1) 1 (.slice none 0 0) v2) := Lib.hid (hM.keep.at 1 rfl)
    have b2_2 : Hid (At (w.heap.size + 1 + 1) 2 (.slice none 0 0) v2) := Lib.hid (hM.keep.at 2 rfl)
    have gv2 : Gr v1 v2 := hM.gr
    have e2_ : Ext w v2 := Ext.below e1_ hM.blw
    have z0_ : sl ac 6 = .agg #[.bool ba, .slice pa qa ra, .slice pa' qa' ra'] := y1_0e
    have z1_ : sl ac 7 = .agg #[.bool y1_1b, .slice y1_1p y1_1n y1_1c, .slice y1_1q y1_1k y1_1d] := y1_1e
    have z2_ : sl ac 8 = .agg #[.bool bb, .slice pb qb rb, .slice pb' qb' rb'] := y1_2e
    have z3_ : sl ac 9 = .agg #[.bool y1_3b, .slice y1_3p y1_3n y1_3c, .slice y1_3q y1_3k y1_3d] := y1_3e
    rw [hM.ag.lay]
    simp only [lay, List.foldl_cons, List.foldl_nil, List.setIfInBounds_toArray, List.set_cons_zero, List.set_cons_succ, z0_, z1_, z2_, z3_]
    clear hM hkeep1 hob1 hne1 z0_ z1_ z2_ z3_ y1_0e y1_1e y1_2e y1_3e
    go_wp2_with fail
    have hkeep2 : AllAt' ([(w.heap.size, 0, .bool y1_1b), (w.heap.size, 1, .slice y1_1p y1_1n y1_1c), (w.heap.size, 2, .slice y1_1q y1_1k y1_1d), (w.heap.size + 1, 0, .bool y1_3b), (w.heap.size + 1, 1, .slice y1_3p y1_3n y1_3c), (w.heap.size + 1, 2, .slice y1_3q y1_3k y1_3d)] : List (Nat × Nat × Value)) v2 := AllAt'.cons b0_0.out (AllAt'.cons b0_1.out (AllAt'.cons b0_2.out (AllAt'.cons b1_0.out (AllAt'.cons b1_1.out (AllAt'.cons b1_2.out (AllAt'.nil _))))))
    have hob2 : ObOk w.heap.size v2 (([(w.heap.size, 0, .bool y1_1b), (w.heap.size, 1, .slice y1_1p y1_1n y1_1c), (w.heap.size, 2, .slice y1_1q y1_1k y1_1d), (w.heap.size + 1, 0, .bool y1_3b), (w.heap.size + 1, 1, .slice y1_3p y1_3n y1_3c), (w.heap.size + 1, 2, .slice y1_3q y1_3k y1_3d)] : List (Nat × Nat × Value)).map (·.1)) ([(w.heap.size + 1 + 1, [(0, .bool false), (1, .slice none 0 0), (2, .slice none 0 0)])] : List (Nat × List (Nat × Value))) := ⟨⟨(by omega), b2_0.out.2, ⟨b2_0.out, ⟨b2_1.out, ⟨b2_2.out, trivial⟩⟩⟩, ⟨(by (try dsimp only); omega), ⟨(by (try dsimp only); omega), ⟨(by (try dsimp only); omega), ⟨(by (try dsimp only); omega), ⟨(by (try dsimp only); omega), ⟨(by (try dsimp only); omega), trivial⟩⟩⟩⟩⟩⟩⟩, trivial⟩
    have hne2 : AllNe (([(w.heap.size + 1 + 1, [(0, .bool false), (1, .slice none 0 0), (2, .slice none 0 0)])] : List (Nat × List (Nat × Value))).map (·.1)) := ⟨trivial, trivial⟩
    (try simp only [List.append_eq, List.cons_append, List.nil_append])
    refine wp_region_gen ⟨[10, 11, 12, 13, 14, 15, 16, 17, 18, 19, 20, 21, 22, 23, 24, 25, 26, 27, 28, 29, 30, 31, 32, 5], fun i => false, fun i => ([none, none, none, none, none, none, none, none, none, none, none, none, none, none, none, none, none, none, none, none, none, none, none, some (.old 0, 21), none] : List (Option (BoxRef × Nat))).getD i none, fun i => ([Sg.val (.pointer (some ⟨w.heap.size, 0, none⟩)), Sg.val (.pointer (some ⟨w.heap.size, 0, none⟩)), Sg.val (.bool y1_1b), Sg.val (.pointer (some ⟨w.heap.size + 1, 0, none⟩)), Sg.val (.pointer (some ⟨w.heap.size + 1, 0, none⟩)), Sg.val (.bool y1_3b), Sg.val (.bool (y1_1b != y1_3b)), Sg.val (.pointer (some ⟨w.heap.size, 0, none⟩)), Sg.val (.pointer (some ⟨w.heap.size, 1, none⟩)), Sg.val (.slice y1_1p y1_1n y1_1c), Sg.val (.pointer (some ⟨w.heap.size + 1, 2, none⟩)), Sg.val (.slice y1_3q y1_3k y1_3d), Sg.natO w.heap.size ((a).num.natAbs * (b).den), Sg.intO w.heap.size (sgI (y1_1b != y1_3b) ((a).num.natAbs * (b).den)), Sg.val (.pointer (some ⟨w.heap.size, 2, none⟩)), Sg.val (.slice y1_1q y1_1k y1_1d), Sg.val (.pointer (some ⟨w.heap.size + 1, 0, none⟩)), Sg.val (.pointer (some ⟨w.heap.size + 1, 1, none⟩)), Sg.val (.slice y1_3p y1_3n y1_3c), Sg.natO w.heap.size ((a).den * (b).num.natAbs), Sg.two (Sg.ratO w.heap.size (a / b)) (Sg.val (.int .i64 0)), Sg.ratO w.heap.size (a / b), Sg.val (.int .i64 0), Sg.any, Sg.val (.int .i64 0)] : List Sg).getD i Sg.any, [(w.heap.size, 0, .bool y1_1b), (w.heap.size, 1, .slice y1_1p y1_1n y1_1c), (w.heap.size, 2, .slice y1_1q y1_1k y1_1d), (w.heap.size + 1, 0, .bool y1_3b), (w.heap.size + 1, 1, .slice y1_3p y1_3n y1_3c), (w.heap.size + 1, 2, .slice y1_3q y1_3k y1_3d)], [(w.heap.size + 1 + 1, [(0, .bool false), (1, .slice none 0 0), (2, .slice none 0 0)])]⟩ w.heap.size (by kernel_rfl) (by kernel_rfl) e2_.size ?hfr hkeep2 hob2 hne2 ?hs ?he
    case hfr =>
      intro i v wk hi hst hv
      exact absurd hi (by simp)
    case hs =>
      refine ⟨?_, ?_, ?_, ?_, ?_, ?_, ?_, ?_, ?_, ?_, ?_, ?_, ?_, ?_, ?_, ?_, ?_, ?_, ?_, ?_, ?_, ?_, ?_, ?_, ?_, trivial⟩
      · refine RStep.op rfl rfl (fun ac wk hp K hK => ?_)
        have t2_ : ac.tmps[2]?.getD undef = .pointer (some ⟨w.heap.size, 0, none⟩) := hp.slot 2 rfl rfl
        have HP := Lib.hid hp
        clear hp
        go_simp
        refine hK.out _ _ ?_ (Ext.refl _) (fun h => absurd h (by simp))
        exact rfl
      · refine RStep.op rfl rfl (fun ac wk hp K hK => ?_)
        have u0e := hp.get 0 (by decide +kernel) rfl
        have t10_ : ac.tmps[10]?.getD undef = .pointer (some ⟨w.heap.size, 0, none⟩) := slot_is' u0e
        have HP := Lib.hid hp
        clear hp
        go_simp
        refine hK.out _ _ ?_ (Ext.refl _) (fun h => absurd h (by simp))
        exact rfl
      · refine RStep.op rfl rfl (fun ac wk hp K hK => ?_)
        have u1e := hp.get 1 (by decide +kernel) rfl
        have t11_ : ac.tmps[11]?.getD undef = .pointer (some ⟨w.heap.size, 0, none⟩) := slot_is' u1e
        have c0_ := hp.cell 0 rfl
        have HP := Lib.hid hp
        clear hp
        go_simp
        refine hK.out _ _ ?_ (Ext.refl _) (fun h => absurd h (by simp))
        exact rfl
      · refine RStep.op rfl rfl (fun ac wk hp K hK => ?_)
        have t3_ : ac.tmps[3]?.getD undef = .pointer (some ⟨w.heap.size + 1, 0, none⟩) := hp.slot 3 rfl rfl
        have HP := Lib.hid hp
        clear hp
        go_simp
        refine hK.out _ _ ?_ (Ext.refl _) (fun h => absurd h (by simp))
        exact rfl
      · refine RStep.op rfl rfl (fun ac wk hp K hK => ?_)
        have u3e := hp.get 3 (by decide +kernel) rfl
        have t13_ : ac.tmps[13]?.getD undef = .pointer (some ⟨w.heap.size + 1, 0, none⟩) := slot_is' u3e
        have HP := Lib.hid hp
        clear hp
        go_simp
        refine hK.out _ _ ?_ (Ext.refl _) (fun h => absurd h (by simp))
        exact rfl
      · refine RStep.op rfl rfl (fun ac wk hp K hK => ?_)
        have u4e := hp.get 4 (by decide +kernel) rfl
        have t14_ : ac.tmps[14]?.getD undef = .pointer (some ⟨w.heap.size + 1, 0, none⟩) := slot_is' u4e
        have c0_ := hp.cell 3 rfl
        have HP := Lib.hid hp
        clear hp
        go_simp
        refine hK.out _ _ ?_ (Ext.refl _) (fun h => absurd h (by simp))
        exact rfl
      · refine RStep.op rfl rfl (fun ac wk hp K hK => ?_)
        have u2e := hp.get 2 (by decide +kernel) rfl
        have t12_ : ac.tmps[12]?.getD undef = .bool y1_1b := slot_is' u2e
        have u5e := hp.get 5 (by decide +kernel) rfl
        have t15_ : ac.tmps[15]?.getD undef = .bool y1_3b := slot_is' u5e
        have HP := Lib.hid hp
        clear hp
        go_simp
        refine hK.out _ _ ?_ (Ext.refl _) (fun h => absurd h (by simp))
        exact rfl
      · refine RStep.op rfl rfl (fun ac wk hp K hK => ?_)
        have t2_ : ac.tmps[2]?.getD undef = .pointer (some ⟨w.heap.size, 0, none⟩) := hp.slot 2 rfl rfl
        have HP := Lib.hid hp
        clear hp
        go_simp
        refine hK.out _ _ ?_ (Ext.refl _) (fun h => absurd h (by simp))
        exact rfl
      · refine RStep.op rfl rfl (fun ac wk hp K hK => ?_)
        have u7e := hp.get 7 (by decide +kernel) rfl
        have t17_ : ac.tmps[17]?.getD undef = .pointer (some ⟨w.heap.size, 0, none⟩) := slot_is' u7e
        have HP := Lib.hid hp
        clear hp
        go_simp
        refine hK.out _ _ ?_ (Ext.refl _) (fun h => absurd h (by simp))
        exact rfl
      · refine RStep.op rfl rfl (fun ac wk hp K hK => ?_)
        have u8e := hp.get 8 (by decide +kernel) rfl
        have t18_ : ac.tmps[18]?.getD undef = .pointer (some ⟨w.heap.size, 1, none⟩) := slot_is' u8e
        have c0_ := hp.cell 1 rfl
        have HP := Lib.hid hp
        clear hp
        go_simp
        refine hK.out _ _ ?_ (Ext.refl _) (fun h => absurd h (by simp))
        exact rfl
      · refine RStep.op rfl rfl (fun ac wk hp K hK => ?_)
        have t3_ : ac.tmps[3]?.getD undef = .pointer (some ⟨w.heap.size + 1, 0, none⟩) := hp.slot 3 rfl rfl
        have HP := Lib.hid hp
        clear hp
        go_simp
        refine hK.out _ _ ?_ (Ext.refl _) (fun h => absurd h (by simp))
        exact rfl
      · refine RStep.op rfl rfl (fun ac wk hp K hK => ?_)
        have u10e := hp.get 10 (by decide +kernel) rfl
        have t20_ : ac.tmps[20]?.getD undef = .pointer (some ⟨w.heap.size + 1, 2, none⟩) := slot_is' u10e
        have c0_ := hp.cell 5 rfl
        have HP := Lib.hid hp
        clear hp
        go_simp
        refine hK.out _ _ ?_ (Ext.refl _) (fun h => absurd h (by simp))
        exact rfl
      · refine RStep.op rfl rfl (fun ac wk hp K hK => ?_)
        have u9e := hp.get 9 (by decide +kernel) rfl
        have t19_ : ac.tmps[19]?.getD undef = .slice y1_1p y1_1n y1_1c := slot_is' u9e
        have u11e := hp.get 11 (by decide +kernel) rfl
        have t21_ : ac.tmps[21]?.getD undef = .slice y1_3q y1_3k y1_3d := slot_is' u11e
        have HP := Lib.hid hp
        clear hp
        go_simp
        refine (nmul_n (Limbs.inN (k := k) (y1_1i.gr HP.out.gr).mag LA.out.1) (Limbs.inN (k := l) (y1_3i.gr HP.out.gr).den LB.out.2) (by have h1 := HK.out; omega)).mono ?_
        rintro e wk' ⟨sv3, rfl, o3, ix⟩
        obtain ⟨sp3, sl3, sc3, rfl⟩ := o3.slice'
        refine hK.out _ _ ?_ ix (fun h => absurd h (by simp))
        exact ⟨_, _, _, rfl, (o3.mono (Nat.le_trans e2_.size HP.out.gr.size))⟩
      · refine RStep.op rfl rfl (fun ac wk hp K hK => ?_)
        have u6e := hp.get 6 (by decide +kernel) rfl
        have t16_ : ac.tmps[16]?.getD undef = .bool (y1_1b != y1_3b) := slot_is' u6e
        obtain ⟨u12p, u12n, u12c, u12e, u12o⟩ := hp.get 12 (by decide +kernel) rfl
        have t22_ : ac.tmps[22]?.getD undef = .slice u12p u12n u12c := slot_is' u12e
        have HP := Lib.hid hp
        clear hp
        go_simp
        refine (wmake_is (Limbs.inN (k := (k + l)) u12o.limbs (lt_mul LA.out.1 LB.out.2)) (y1_1b != y1_3b) (by have h1 := HK.out; omega) rfl).mono ?_
        rintro e wk' ⟨sb4, sv4, sm4, rfl, e4, o4, ix⟩
        obtain ⟨sp4, sl4, sc4, rfl⟩ := e4.slice
        refine hK.out _ _ ?_ ix (fun h => absurd h (by simp))
        exact ⟨_, _, _, _, _, rfl, e4, (o4.mono (Nat.le_trans e2_.size HP.out.gr.size))⟩
      · refine RStep.op rfl rfl (fun ac wk hp K hK => ?_)
        have t2_ : ac.tmps[2]?.getD undef = .pointer (some ⟨w.heap.size, 0, none⟩) := hp.slot 2 rfl rfl
        have HP := Lib.hid hp
        clear hp
        go_simp
        refine hK.out _ _ ?_ (Ext.refl _) (fun h => absurd h (by simp))
        exact rfl
      · refine RStep.op rfl rfl (fun ac wk hp K hK => ?_)
        have u14e := hp.get 14 (by decide +kernel) rfl
        have t24_ : ac.tmps[24]?.getD undef = .pointer (some ⟨w.heap.size, 2, none⟩) := slot_is' u14e
        have c0_ := hp.cell 2 rfl
        have HP := Lib.hid hp
        clear hp
        go_simp
        refine hK.out _ _ ?_ (Ext.refl _) (fun h => absurd h (by simp))
        exact rfl
      · refine RStep.op rfl rfl (fun ac wk hp K hK => ?_)
        have t3_ : ac.tmps[3]?.getD undef = .pointer (some ⟨w.heap.size + 1, 0, none⟩) := hp.slot 3 rfl rfl
        have HP := Lib.hid hp
        clear hp
        go_simp
        refine hK.out _ _ ?_ (Ext.refl _) (fun h => absurd h (by simp))
        exact rfl
      · refine RStep.op rfl rfl (fun ac wk hp K hK => ?_)
        have u16e := hp.get 16 (by decide +kernel) rfl
        have t26_ : ac.tmps[26]?.getD undef = .pointer (some ⟨w.heap.size + 1, 0, none⟩) := slot_is' u16e
        have HP := Lib.hid hp
        clear hp
        go_simp
        refine hK.out _ _ ?_ (Ext.refl _) (fun h => absurd h (by simp))
        exact rfl
      · refine RStep.op rfl rfl (fun ac wk hp K hK => ?_)
        have u17e := hp.get 17 (by decide +kernel) rfl
        have t27_ : ac.tmps[27]?.getD undef = .pointer (some ⟨w.heap.size + 1, 1, none⟩) := slot_is' u17e
        have c0_ := hp.cell 4 rfl
        have HP := Lib.hid hp
        clear hp
        go_simp
        refine hK.out _ _ ?_ (Ext.refl _) (fun h => absurd h (by simp))
        exact rfl
      · refine RStep.op rfl rfl (fun ac wk hp K hK => ?_)
        have u15e := hp.get 15 (by decide +kernel) rfl
        have t25_ : ac.tmps[25]?.getD undef = .slice y1_1q y1_1k y1_1d := slot_is' u15e
        have u18e := hp.get 18 (by decide +kernel) rfl
        have t28_ : ac.tmps[28]?.getD undef = .slice y1_3p y1_3n y1_3c := slot_is' u18e
        have HP := Lib.hid hp
        clear hp
        go_simp
        refine (nmul_n (Limbs.inN (k := k) (y1_1i.gr HP.out.gr).den LA.out.2) (Limbs.inN (k := l) (y1_3i.gr HP.out.gr).mag LB.out.1) (by have h1 := HK.out; omega)).mono ?_
        rintro e wk' ⟨sv5, rfl, o5, ix⟩
        obtain ⟨sp5, sl5, sc5, rfl⟩ := o5.slice'
        refine hK.out _ _ ?_ ix (fun h => absurd h (by simp))
        exact ⟨_, _, _, rfl, (o5.mono (Nat.le_trans e2_.size HP.out.gr.size))⟩
      · refine RStep.op rfl rfl (fun ac wk hp K hK => ?_)
        obtain ⟨u13b, u13p, u13n, u13c, u13m, u13e, u13i, u13o⟩ := hp.get 13 (by decide +kernel) rfl
        have t23_ : ac.tmps[23]?.getD undef = .agg #[.bool u13b, .slice u13p u13n u13c] := slot_is' u13e
        obtain ⟨u19p, u19n, u19c, u19e, u19o⟩ := hp.get 19 (by decide +kernel) rfl
        have t29_ : ac.tmps[29]?.getD undef = .slice u19p u19n u19c := slot_is' u19e
        have HP := Lib.hid hp
        clear hp
        go_simp
        refine (rmake_is (u13i.inI (k := (k + l)) (LenI.sg (lt_mul LA.out.1 LB.out.2))) (Limbs.inN (k := (k + l)) u19o.limbs (lt_mul LA.out.2 LB.out.1)) HND.out (by have h1 := HK.out; omega) (by have h1 := HK.out; omega) (quo_sg y1_1i.1 y1_3i.1 HB.out)).mono ?_
        rintro e wk' ⟨sb6, sv6, su6, sm6, sd6, rfl, e6, o6, ix⟩
        obtain ⟨sp6, sl6, sc6, tp6, tl6, tc6, rfl, rfl⟩ := e6.slice
        refine hK.out _ _ ?_ ix (fun h => absurd h (by simp))
        exact ⟨_, _, rfl, ⟨_, _, _, _, _, _, _, _, _, rfl, e6, (o6.mono (Nat.le_trans e2_.size HP.out.gr.size))⟩, rfl⟩
      · refine RStep.op rfl rfl (fun ac wk hp K hK => ?_)
        obtain ⟨_, _, u20e, ⟨u20xb, u20xp, u20xn, u20xc, u20xq, u20xk, u20xd, u20xm, u20xl, rfl, u20xi, u20xo⟩, rfl⟩ := hp.get 20 (by decide +kernel) rfl
        have t30_ : ac.tmps[30]?.getD undef = .tuple #[.agg #[.bool u20xb, .slice u20xp u20xn u20xc, .slice u20xq u20xk u20xd], .int .i64 0] := slot_is' u20e
        have HP := Lib.hid hp
        clear hp
        go_simp
        refine hK.out _ _ ?_ (Ext.refl _) (fun h => absurd h (by simp))
        exact ⟨_, _, _, _, _, _, _, _, _, rfl, u20xi, u20xo⟩
      · refine RStep.op rfl rfl (fun ac wk hp K hK => ?_)
        obtain ⟨_, _, u20e, ⟨u20xb, u20xp, u20xn, u20xc, u20xq, u20xk, u20xd, u20xm, u20xl, rfl, u20xi, u20xo⟩, rfl⟩ := hp.get 20 (by decide +kernel) rfl
        have t30_ : ac.tmps[30]?.getD undef = .tuple #[.agg #[.bool u20xb, .slice u20xp u20xn u20xc, .slice u20xq u20xk u20xd], .int .i64 0] := slot_is' u20e
        have HP := Lib.hid hp
        clear hp
        go_simp
        refine hK.out _ _ ?_ (Ext.refl _) (fun h => absurd h (by simp))
        exact rfl
      · refine RStep.so 0 21 (w.heap.size + 1 + 1) rfl rfl rfl (fun ac wk hp => ?_)
        have t4_ : ac.tmps[4]?.getD undef = .pointer (some ⟨w.heap.size + 1 + 1, 0, none⟩) := hp.slot 4 rfl rfl
        obtain ⟨u21b, u21p, u21n, u21c, u21q, u21k, u21d, u21m, u21l, u21e, u21i, u21o⟩ := hp.get 21 (by decide +kernel) rfl
        have t31_ : ac.tmps[31]?.getD undef = .agg #[.bool u21b, .slice u21p u21n u21c, .slice u21q u21k u21d] := slot_is' u21e
        obtain ⟨d0, hd0, -⟩ := Bx.cell (k2.out.gr (gv2.trans hp.gr)) (o := 0) (by decide)
        have fz0 := Bx.free (k2.out.gr (gv2.trans hp.gr)) 0
        obtain ⟨d1, hd1, -⟩ := Bx.cell (k2.out.gr (gv2.trans hp.gr)) (o := 1) (by decide)
        have fz1 := Bx.free (k2.out.gr (gv2.trans hp.gr)) 1
        obtain ⟨d2, hd2, -⟩ := Bx.cell (k2.out.gr (gv2.trans hp.gr)) (o := 2) (by decide)
        have fz2 := Bx.free (k2.out.gr (gv2.trans hp.gr)) 2
        refine ⟨3, [.bool u21b, .slice u21p u21n u21c, .slice u21q u21k u21d], (k2.out.gr (gv2.trans hp.gr)), by rw [u21e]; rfl, rfl, noI_s3, fun K hK => ?_⟩
        have HK := Lib.hid hK
        clear hK hp
        go_simp
        exact HK.out
      · refine RStep.op rfl rfl (fun ac wk hp K hK => ?_)
        have u22e := hp.get 22 (by decide +kernel) rfl
        have t32_ : ac.tmps[32]?.getD undef = .int .i64 0 := slot_is' u22e
        have HP := Lib.hid hp
        clear hp
        go_simp
        refine hK.out _ _ ?_ (Ext.refl _) (fun h => absurd h (by simp))
        exact rfl
    case he =>
      intro ac v3 hM
      have y2_0e := hM.post 0 rfl rfl
      have y2_1e := hM.post 1 rfl rfl
      have y2_2e := hM.post 2 rfl rfl
      have y2_3e := hM.post 3 rfl rfl
      have y2_4e := hM.post 4 rfl rfl
      have y2_5e := hM.post 5 rfl rfl
      have y2_6e := hM.post 6 rfl rfl
      have y2_7e := hM.post 7 rfl rfl
      have y2_8e := hM.post 8 rfl rfl
      have y2_9e := hM.post 9 rfl rfl
      have y2_10e := hM.post 10 rfl rfl
      have y2_11e := hM.post 11 rfl rfl
      obtain ⟨y2_12p, y2_12n, y2_12c, y2_12e, y2_12o⟩ := hM.post 12 rfl rfl
      obtain ⟨y2_13b, y2_13p, y2_13n, y2_13c, y2_13m, y2_13e, y2_13i, y2_13o⟩ := hM.post 13 rfl rfl
      have y2_14e := hM.post 14 rfl rfl
      have y2_15e := hM.post 15 rfl rfl
      have y2_16e := hM.post 16 rfl rfl
      have y2_17e := hM.post 17 rfl rfl
      have y2_18e := hM.post 18 rfl rfl
      obtain ⟨y2_19p, y2_19n, y2_19c, y2_19e, y2_19o⟩ := hM.post 19 rfl rfl
      obtain ⟨_, _, y2_20e, ⟨y2_20xb, y2_20xp, y2_20xn, y2_20xc, y2_20xq, y2_20xk, y2_20xd, y2_20xm, y2_20xl, rfl, y2_20xi, y2_20xo⟩, rfl⟩ := hM.post 20 rfl rfl
      obtain ⟨y2_21b, y2_21p, y2_21n, y2_21c, y2_21q, y2_21k, y2_21d, y2_21m, y2_21l, y2_21e, y2_21i, y2_21o⟩ := hM.post 21 rfl rfl
      have y2_22e := hM.post 22 rfl rfl
      have y2_24e := hM.post 24 rfl rfl
      have b2_0 : Hid (At (w.heap.size + 1 + 1) 0 (.bool y2_21b) v3) := Lib.hid (hM.boxOld 23 0 21 rfl rfl rfl (cs := [.bool y2_21b, .slice y2_21p y2_21n y2_21c, .slice y2_21q y2_21k y2_21d]) (by rw [y2_21e]; rfl) 0 _ rfl)
      have b2_1 : Hid (At (w.heap.size + 1 + 1) 1 (.slice y2_21p y2_21n y2_21c) v3) := Lib.hid (hM.boxOld 23 0 21 rfl rfl rfl (cs := [.bool y2_21b, .slice y2_21p y2_21n y2_21c, .slice y2_21q y2_21k y2_21d]) (by rw [y2_21e]; rfl) 1 _ rfl)
      have b2_2 : Hid (At (w.heap.size + 1 + 1) 2 (.slice y2_21q y2_21k y2_21d) v3) := Lib.hid (hM.boxOld 23 0 21 rfl rfl rfl (cs := [.bool y2_21b, .slice y2_21p y2_21n y2_21c, .slice y2_21q y2_21k y2_21d]) (by rw [y2_21e]; rfl) 2 _ rfl)
      have b0_0 : Hid (At (w.heap.size) 0 (.bool y1_1b) v3) := Lib.hid (hM.keep.at 0 rfl)
      have b0_1 : Hid (At (w.heap.size) 1 (.slice y1_1p y1_1n y1_1c) v3) := Lib.hid (hM.keep.at 1 rfl)
      have b0_2 : Hid (At (w.heap.size) 2 (.slice y1_1q y1_1k y1_1d) v3) := Lib.hid (hM.keep.at 2 rfl)
      have b1_0 : Hid (At (w.heap.size + 1) 0 (.bool y1_3b) v3) := Lib.hid (hM.keep.at 3 rfl)
      have b1_1 : Hid (At (w.heap.size + 1) 1 (.slice y1_3p y1_3n y1_3c) v3) := Lib.hid (hM.keep.at 4 rfl)
      have b1_2 : Hid (At (w.heap.size + 1) 2 (.slice y1_3q y1_3k y1_3d) v3) := Lib.hid (hM.keep.at 5 rfl)
      have gv3 : Gr v2 v3 := hM.gr
      have e3_ : Ext w v3 := Ext.below e2_ hM.blw
      have z0_ : sl ac 10 = .pointer (some ⟨w.heap.size, 0, none⟩) := y2_0e
      have z1_ : sl ac 11 = .pointer (some ⟨w.heap.size, 0, none⟩) := y2_1e
      have z2_ : sl ac 12 = .bool y1_1b := y2_2e
      have z3_ : sl ac 13 = .pointer (some ⟨w.heap.size + 1, 0, none⟩) := y2_3e
      have z4_ : sl ac 14 = .pointer (some ⟨w.heap.size + 1, 0, none⟩) := y2_4e
      have z5_ : sl ac 15 = .bool y1_3b := y2_5e
      have z6_ : sl ac 16 = .bool (y1_1b != y1_3b) := y2_6e
      have z7_ : sl ac 17 = .pointer (some ⟨w.heap.size, 0, none⟩) := y2_7e
      have z8_ : sl ac 18 = .pointer (some ⟨w.heap.size, 1, none⟩) := y2_8e
      have z9_ : sl ac 19 = .slice y1_1p y1_1n y1_1c := y2_9e
      have z10_ : sl ac 20 = .pointer (some ⟨w.heap.size + 1, 2, none⟩) := y2_10e
      have z11_ : sl ac 21 = .slice y1_3q y1_3k y1_3d := y2_11e
      have z12_ : sl ac 22 = .slice y2_12p y2_12n y2_12c := y2_12e
      have z13_ : sl ac 23 = .agg #[.bool y2_13b, .slice y2_13p y2_13n y2_13c] := y2_13e
      have z14_ : sl ac 24 = .pointer (some ⟨w.heap.size, 2, none⟩) := y2_14e
      have z15_ : sl ac 25 = .slice y1_1q y1_1k y1_1d := y2_15e
      have z16_ : sl ac 26 = .pointer (some ⟨w.heap.size + 1, 0, none⟩) := y2_16e
      have z17_ : sl ac 27 = .pointer (some ⟨w.heap.size + 1, 1, none⟩) := y2_17e
      have z18_ : sl ac 28 = .slice y1_3p y1_3n y1_3c := y2_18e
      have z19_ : sl ac 29 = .slice y2_19p y2_19n y2_19c := y2_19e
      have z20_ : sl ac 30 = .tuple #[.agg #[.bool y2_20xb, .slice y2_20xp y2_20xn y2_20xc, .slice y2_20xq y2_20xk y2_20xd], .int .i64 0] := y2_20e
      have z21_ : sl ac 31 = .agg #[.bool y2_21b, .slice y2_21p y2_21n y2_21c, .slice y2_21q y2_21k y2_21d] := y2_21e
      have z22_ : sl ac 32 = .int .i64 0 := y2_22e
      have z24_ : sl ac 5 = .int .i64 0 := y2_24e
      rw [hM.ag.lay]
      simp only [lay, List.foldl_cons, List.foldl_nil, List.setIfInBounds_toArray, List.set_cons_zero, List.set_cons_succ, z0_, z1_, z2_, z3_, z4_, z5_, z6_, z7_, z8_, z9_, z10_, z11_, z12_, z13_, z14_, z15_, z16_, z17_, z18_, z19_, z20_, z21_, z22_, z24_]
      clear hM hkeep2 hob2 hne2 z0_ z1_ z2_ z3_ z4_ z5_ z6_ z7_ z8_ z9_ z10_ z11_ z12_ z13_ z14_ z15_ z16_ z17_ z18_ z19_ z20_ z21_ z22_ z24_ y2_0e y2_1e y2_2e y2_3e y2_4e y2_5e y2_6e y2_7e y2_8e y2_9e y2_10e y2_11e y2_12e y2_13e y2_14e y2_15e y2_16e y2_17e y2_18e y2_19e y2_20e y2_21e y2_22e y2_24e
      go_wp2_with fail
      have c0 := b2_0.out.1
      have c1 := b2_1.out.1
      have c2 := b2_2.out.1
      refine bodyPost_ret (v := .tuple #[.agg #[.bool y2_21b, .slice y2_21p y2_21n y2_21c, .slice y2_21q y2_21k y2_21d], .int .i64 0]) (by simp [results, Tryz.results66, go_sem, c0, c1, c2]) rfl ?_
      exact ⟨_, _, _, _, _, rfl, y2_21i, (y2_21o), e3_⟩

set_option maxHeartbeats 4000000 in
set_option maxRecDepth 100000 in
theorem rquo_zero {w : World} {ba bb : Bool} {va ua vb ub : Value} {k l : Nat} {a b : Rat} (ha : InR w ba va ua k a) (hb : InR w bb vb ub l b) (hk : k + l ≤ 30000) (h0 : b = 0) :
    Calls Tryz.prog 66 #[.agg #[.bool ba, va, ua], .agg #[.bool bb, vb, ub]] w (RetRE w 7) := by
  obtain ⟨pa, qa, ra, pa', qa', ra', rfl, rfl⟩ := ha.slice
  obtain ⟨pb, qb, rb, pb', qb', rb', rfl, rfl⟩ := hb.slice
  have HK := Lib.hid hk
  have LA := Lib.hid ha.len
  have LB := Lib.hid hb.len
  clear hk
  have HND : Hid (a.den * b.num.natAbs = 0) := by show _ = _; rw [h0]; rfl
  clear h0
  go_enter Tryz.func66, Tryz.ntmps66
  go_wp2_with fail
  obtain ⟨v1, hv1⟩ : ∃ W, W = (((w.alloc (.cells #[.bool ba, .slice pa qa ra, .slice pa' qa' ra'] 36)).alloc (.cells #[.bool bb, .slice pb qb rb, .slice pb' qb' rb'] 36)).alloc (.cells #[.bool false, .slice none 0 0, .slice none 0 0] 36)) := ⟨_, rfl⟩
  have y1 : Ext w v1 := by rw [hv1]; exact ((((Ext.refl _).alloc _).alloc _).alloc _)
  have b0_0 : Hid (At (w.heap.size) 0 (.bool ba) v1) := by rw [hv1]; exact At.ext (At.n0 (by rfl)) (((Ext.refl _).alloc _).alloc _)
  have b0_1 : Hid (At (w.heap.size) 1 (.slice pa qa ra) v1) := by rw [hv1]; exact At.ext (At.n0 (by rfl)) (((Ext.refl _).alloc _).alloc _)
  have b0_2 : Hid (At (w.heap.size) 2 (.slice pa' qa' ra') v1) := by rw [hv1]; exact At.ext (At.n0 (by rfl)) (((Ext.refl _).alloc _).alloc _)
  have k0 : Hid (Bx 3 (w.heap.size) v1) := by rw [hv1]; exact Bx.gr (Bx.n0 3 ⟨rfl, by decide⟩ (by decide) noI_s3) (Ext.gr (((Ext.refl _).alloc _).alloc _))
  have u0 : Hid (w.heap.size < v1.heap.size) := b0_0.out.2
  have b1_0 : Hid (At (w.heap.size + 1) 0 (.bool bb) v1) := by rw [hv1]; exact At.ext (At.n1 (by rfl)) ((Ext.refl _).alloc _)
  have b1_1 : Hid (At (w.heap.size + 1) 1 (.slice pb qb rb) v1) := by rw [hv1]; exact At.ext (At.n1 (by rfl)) ((Ext.refl _).alloc _)
  have b1_2 : Hid (At (w.heap.size + 1) 2 (.slice pb' qb' rb') v1) := by rw [hv1]; exact At.ext (At.n1 (by rfl)) ((Ext.refl _).alloc _)
  have k1 : Hid (Bx 3 (w.heap.size + 1) v1) := by rw [hv1]; exact Bx.gr (Bx.n1 3 ⟨rfl, by decide⟩ (by decide) noI_s3) (Ext.gr ((Ext.refl _).alloc _))
  have u1 : Hid (w.heap.size + 1 < v1.heap.size) := b1_0.out.2
  have b2_0 : Hid (At (w.heap.size + 1 + 1) 0 (.bool false) v1) := by rw [hv1]; exact At.ext (At.n2 (by rfl)) (Ext.refl _)
  have b2_1 : Hid (At (w.heap.size + 1 + 1) 1 (.slice none 0 0) v1) := by rw [hv1]; exact At.ext (At.n2 (by rfl)) (Ext.refl _)
  have b2_2 : Hid (At (w.heap.size + 1 + 1) 2 (.slice none 0 0) v1) := by rw [hv1]; exact At.ext (At.n2 (by rfl)) (Ext.refl _)
  have k2 : Hid (Bx 3 (w.heap.size + 1 + 1) v1) := by rw [hv1]; exact Bx.gr (Bx.n2 3 ⟨rfl, by decide⟩ (by decide) noI_s3) (Ext.gr (Ext.refl _))
  have u2 : Hid (w.heap.size + 1 + 1 < v1.heap.size) := b2_0.out.2
  have e1_ : Ext w v1 := y1
  rw [← hv1]
  clear hv1
  have hkeep1 : AllAt' ([(w.heap.size + 1 + 1, 0, .bool false), (w.heap.size + 1 + 1, 1, .slice none 0 0), (w.heap.size + 1 + 1, 2, .slice none 0 0)] : List (Nat × Nat × Value)) v1 := AllAt'.cons b2_0.out (AllAt'.cons b2_1.out (AllAt'.cons b2_2.out (AllAt'.nil _)))
  have hob1 : ObOk w.heap.size v1 (([(w.heap.size + 1 + 1, 0, .bool false), (w.heap.size + 1 + 1, 1, .slice none 0 0), (w.heap.size + 1 + 1, 2, .slice none 0 0)] : List (Nat × Nat × Value)).map (·.1)) ([(w.heap.size, [(0, .bool ba), (1, .slice pa qa ra), (2, .slice pa' qa' ra')]), (w.heap.size + 1, [(0, .bool bb), (1, .slice pb qb rb), (2, .slice pb' qb' rb')])] : List (Nat × List (Nat × Value))) := ⟨⟨(by omega), b0_0.out.2, ⟨b0_0.out, ⟨b0_1.out, ⟨b0_2.out, trivial⟩⟩⟩, ⟨(by (try dsimp only); omega), ⟨(by (try dsimp only); omega), ⟨(by (try dsimp only); omega), trivial⟩⟩⟩⟩, ⟨⟨(by omega), b1_0.out.2, ⟨b1_0.out, ⟨b1_1.out, ⟨b1_2.out, trivial⟩⟩⟩, ⟨(by (try dsimp only); omega), ⟨(by (try dsimp only); omega), ⟨(by (try dsimp only); omega), trivial⟩⟩⟩⟩, trivial⟩⟩
  have hne1 : AllNe (([(w.heap.size, [(0, .bool ba), (1, .slice pa qa ra), (2, .slice pa' qa' ra')]), (w.heap.size + 1, [(0, .bool bb), (1, .slice pb qb rb), (2, .slice pb' qb' rb')])] : List (Nat × List (Nat × Value))).map (·.1)) := ⟨⟨(by (try dsimp only); omega), trivial⟩, ⟨trivial, trivial⟩⟩
  (try simp only [List.append_eq, List.cons_append, List.nil_append])
  refine wp_region_gen ⟨[6, 7, 8, 9], fun i => false, fun i => ([none, none, none, none, some (.old 0, 1), some (.old 1, 3)] : List (Option (BoxRef × Nat))).getD i none, fun i => ([Sg.val (.agg #[.bool ba, .slice pa qa ra, .slice pa' qa' ra']), Sg.ratO w.heap.size a, Sg.val (.agg #[.bool bb, .slice pb qb rb, .slice pb' qb' rb']), Sg.ratO w.heap.size b, Sg.any, Sg.any] : List Sg).getD i Sg.any, [(w.heap.size + 1 + 1, 0, .bool false), (w.heap.size + 1 + 1, 1, .slice none 0 0), (w.heap.size + 1 + 1, 2, .slice none 0 0)], [(w.heap.size, [(0, .bool ba), (1, .slice pa qa ra), (2, .slice pa' qa' ra')]), (w.heap.size + 1, [(0, .bool bb), (1, .slice pb qb rb), (2, .slice pb' qb' rb')])]⟩ w.heap.size (by kernel_rfl) (by kernel_rfl) e1_.size ?hfr hkeep1 hob1 hne1 ?hs ?he
  case hfr =>
    intro i v wk hi hst hv
    exact absurd hi (by simp)
  case hs =>
    refine ⟨?_, ?_, ?_, ?_, ?_, ?_, trivial⟩
    · refine RStep.op rfl rfl (fun ac wk hp K hK => ?_)
      have t2_ : ac.tmps[2]?.getD undef = .pointer (some ⟨w.heap.size, 0, none⟩) := hp.slot 2 rfl rfl
      have c0_ := hp.ocell 4 0 (by decide) rfl (by decide +kernel) rfl
      have c1_ := hp.ocell 4 1 (by decide) rfl (by decide +kernel) rfl
      have c2_ := hp.ocell 4 2 (by decide) rfl (by decide +kernel) rfl
      have HP := Lib.hid hp
      clear hp
      go_simp
      refine hK.out _ _ ?_ (Ext.refl _) (fun h => absurd h (by simp))
      exact rfl
    · refine RStep.op rfl rfl (fun ac wk hp K hK => ?_)
      have u0e := hp.get 0 (by decide +kernel) rfl
      have t6_ : ac.tmps[6]?.getD undef = .agg #[.bool ba, .slice pa qa ra, .slice pa' qa' ra'] := slot_is' u0e
      have HP := Lib.hid hp
      clear hp
      go_simp
      refine (rcount_is (ha.gr (y1.gr.trans HP.out.gr)) (by have h1 := HK.out; omega)).mono ?_
      rintro e wk' ⟨sb1, sv1, su1, sm1, sd1, rfl, e1, o1, ix⟩
      obtain ⟨sp1, sl1, sc1, tp1, tl1, tc1, rfl, rfl⟩ := e1.slice
      refine hK.out _ _ ?_ ix (fun h => absurd h (by simp))
      exact ⟨_, _, _, _, _, _, _, _, _, rfl, e1, (o1.mono (Nat.le_trans e1_.size HP.out.gr.size))⟩
    · refine RStep.op rfl rfl (fun ac wk hp K hK => ?_)
      have t3_ : ac.tmps[3]?.getD undef = .pointer (some ⟨w.heap.size + 1, 0, none⟩) := hp.slot 3 rfl rfl
      have c0_ := hp.ocell 5 0 (by decide) rfl (by decide +kernel) rfl
      have c1_ := hp.ocell 5 1 (by decide) rfl (by decide +kernel) rfl
      have c2_ := hp.ocell 5 2 (by decide) rfl (by decide +kernel) rfl
      have HP := Lib.hid hp
      clear hp
      go_simp
      refine hK.out _ _ ?_ (Ext.refl _) (fun h => absurd h (by simp))
      exact rfl
    · refine RStep.op rfl rfl (fun ac wk hp K hK => ?_)
      have u2e := hp.get 2 (by decide +kernel) rfl
      have t8_ : ac.tmps[8]?.getD undef = .agg #[.bool bb, .slice pb qb rb, .slice pb' qb' rb'] := slot_is' u2e
      have HP := Lib.hid hp
      clear hp
      go_simp
      refine (rcount_is (hb.gr (y1.gr.trans HP.out.gr)) (by have h1 := HK.out; omega)).mono ?_
      rintro e wk' ⟨sb2, sv2, su2, sm2, sd2, rfl, e2, o2, ix⟩
      obtain ⟨sp2, sl2, sc2, tp2, tl2, tc2, rfl, rfl⟩ := e2.slice
      refine hK.out _ _ ?_ ix (fun h => absurd h (by simp))
      exact ⟨_, _, _, _, _, _, _, _, _, rfl, e2, (o2.mono (Nat.le_trans e1_.size HP.out.gr.size))⟩
    · refine RStep.so 0 1 (w.heap.size) rfl rfl rfl (fun ac wk hp => ?_)
      have t2_ : ac.tmps[2]?.getD undef = .pointer (some ⟨w.heap.size, 0, none⟩) := hp.slot 2 rfl rfl
      obtain ⟨u1b, u1p, u1n, u1c, u1q, u1k, u1d, u1m, u1l, u1e, u1i, u1o⟩ := hp.get 1 (by decide +kernel) rfl
      have t7_ : ac.tmps[7]?.getD undef = .agg #[.bool u1b, .slice u1p u1n u1c, .slice u1q u1k u1d] := slot_is' u1e
      obtain ⟨d0, hd0, -⟩ := Bx.cell (k0.out.gr hp.gr) (o := 0) (by decide)
      have fz0 := Bx.free (k0.out.gr hp.gr) 0
      obtain ⟨d1, hd1, -⟩ := Bx.cell (k0.out.gr hp.gr) (o := 1) (by decide)
      have fz1 := Bx.free (k0.out.gr hp.gr) 1
      obtain ⟨d2, hd2, -⟩ := Bx.cell (k0.out.gr hp.gr) (o := 2) (by decide)
      have fz2 := Bx.free (k0.out.gr hp.gr) 2
      refine ⟨3, [.bool u1b, .slice u1p u1n u1c, .slice u1q u1k u1d], (k0.out.gr hp.gr), by rw [u1e]; rfl, rfl, noI_s3, fun K hK => ?_⟩
      have HK := Lib.hid hK
      clear hK hp
      go_simp
      exact HK.out
    · refine RStep.so 1 3 (w.heap.size + 1) rfl rfl rfl (fun ac wk hp => ?_)
      have t3_ : ac.tmps[3]?.getD undef = .pointer (some ⟨w.heap.size + 1, 0, none⟩) := hp.slot 3 rfl rfl
      obtain ⟨u3b, u3p, u3n, u3c, u3q, u3k, u3d, u3m, u3l, u3e, u3i, u3o⟩ := hp.get 3 (by decide +kernel) rfl
      have t9_ : ac.tmps[9]?.getD undef = .agg #[.bool u3b, .slice u3p u3n u3c, .slice u3q u3k u3d] := slot_is' u3e
      obtain ⟨d0, hd0, -⟩ := Bx.cell (k1.out.gr hp.gr) (o := 0) (by decide)
      have fz0 := Bx.free (k1.out.gr hp.gr) 0
      obtain ⟨d1, hd1, -⟩ := Bx.cell (k1.out.gr hp.gr) (o := 1) (by decide)
      have fz1 := Bx.free (k1.out.gr hp.gr) 1
      obtain ⟨d2, hd2, -⟩ := Bx.cell (k1.out.gr hp.gr) (o := 2) (by decide)
      have fz2 := Bx.free (k1.out.gr hp.gr) 2
      refine ⟨3, [.bool u3b, .slice u3p u3n u3c, .slice u3q u3k u3d], (k1.out.gr hp.gr), by rw [u3e]; rfl, rfl, noI_s3, fun K hK => ?_⟩
      have HK := Lib.hid hK
      clear hK hp
      go_simp
      exact HK.out
  case he =>
    intro ac v2 hM
    have y1_0e := hM.post 0 rfl rfl
    obtain ⟨y1_1b, y1_1p, y1_1n, y1_1c, y1_1q, y1_1k, y1_1d, y1_1m, y1_1l, y1_1e, y1_1i, y1_1o⟩ := hM.post 1 rfl rfl
    have y1_2e := hM.post 2 rfl rfl
    obtain ⟨y1_3b, y1_3p, y1_3n, y1_3c, y1_3q, y1_3k, y1_3d, y1_3m, y1_3l, y1_3e, y1_3i, y1_3o⟩ := hM.post 3 rfl rfl
    have b0_0 : Hid (At (w.heap.size) 0 (.bool y1_1b) v2) := Lib.hid (hM.boxOld 4 0 1 rfl rfl rfl (cs := [.bool y1_1b, .slice y1_1p y1_1n y1_1c, .slice y1_1q y1_1k y1_1d]) (by rw [y1_1e]; rfl) 0 _ rfl)
    have b0_1 : Hid (At (w.heap.size) 1 (.slice y1_1p y1_1n y1_1c) v2) := Lib.hid (hM.boxOld 4 0 1 rfl rfl rfl (cs := [.bool y1_1b, .slice y1_1p y1_1n y1_1c, .slice y1_1q y1_1k y1_1d]) (by rw [y1_1e]; rfl) 1 _ rfl)
    have b0_2 : Hid (At (w.heap.size) 2 (.slice y1_1q y1_1k y1_1d) v2) := Lib.hid (hM.boxOld 4 0 1 rfl rfl rfl (cs := [.bool y1_1b, .slice y1_1p y1_1n y1_1c, .slice y1_1q y1_1k y1_1d]) (by rw [y1_1e]; rfl) 2 _ rfl)
    have b1_0 : Hid (At (w.heap.size + 1) 0 (.bool y1_3b) v2) := Lib.hid (hM.boxOld 5 1 3 rfl rfl rfl (cs := [.bool y1_3b, .slice y1_3p y1_3n y1_3c, .slice y1_3q y1_3k y1_3d]) (by rw [y1_3e]; rfl) 0 _ rfl)
    have b1_1 : Hid (At (w.heap.size + 1) 1 (.slice y1_3p y1_3n y1_3c) v2) := Lib.hid (hM.boxOld 5 1 3 rfl rfl rfl (cs := [.bool y1_3b, .slice y1_3p y1_3n y1_3c, .slice y1_3q y1_3k y1_3d]) (by rw [y1_3e]; rfl) 1 _ rfl)
    have b1_2 : Hid (At (w.heap.size + 1) 2 (.slice y1_3q y1_3k y1_3d) v2) := Lib.hid (hM.boxOld 5 1 3 rfl rfl rfl (cs := [.bool y1_3b, .slice y1_3p y1_3n y1_3c, .slice y1_3q y1_3k y1_3d]) (by rw [y1_3e]; rfl) 2 _ rfl)
    have b2_0 : Hid (At (w.heap.size + 1 + 1) 0 (.bool false) v2) := Lib.hid (hM.keep.at 0 rfl)
    have b2_1 : Hid (At (w.heap.size + 1 + 1) 1 (.slice none 0 0) v2) := Lib.hid (hM.keep.at 1 rfl)
    have b2_2 : Hid (At (w.heap.size + 1 + 1) 2 (.slice none 0 0) v2) := Lib.hid (hM.keep.at 2 rfl)
    have gv2 : Gr v1 v2 := hM.gr
    have e2_ : Ext w v2 := Ext.below e1_ hM.blw
    have z0_ : sl ac 6 = .agg #[.bool ba, .slice pa qa ra, .slice pa' qa' ra'] := y1_0e
    have z1_ : sl ac 7 = .agg #[.bool y1_1b, .slice y1_1p y1_1n y1_1c, .slice y1_1q y1_1k y1_1d] := y1_1e
    have z2_ : sl ac 8 = .agg #[.bool bb, .slice pb qb rb, .slice pb' qb' rb'] := y1_2e
    have z3_ : sl ac 9 = .agg #[.bool y1_3b, .slice y1_3p y1_3n y1_3c, .slice y1_3q y1_3k y1_3d] := y1_3e
    rw [hM.ag.lay]
    simp only [lay, List.foldl_cons, List.foldl_nil, List.setIfInBounds_toArray, List.set_cons_zero, List.set_cons_succ, z0_, z1_, z2_, z3_]
    clear hM hkeep1 hob1 hne1 z0_ z1_ z2_ z3_ y1_0e y1_1e y1_2e y1_3e
    go_wp2_with fail
    have hkeep2 : AllAt' ([(w.heap.size, 0, .bool y1_1b), (w.heap.size, 1, .slice y1_1p y1_1n y1_1c), (w.heap.size, 2, .slice y1_1q y1_1k y1_1d), (w.heap.size + 1, 0, .bool y1_3b), (w.heap.size + 1, 1, .slice y1_3p y1_3n y1_3c), (w.heap.size + 1, 2, .slice y1_3q y1_3k y1_3d)] : List (Nat × Nat × Value)) v2 := AllAt'.cons b0_0.out (AllAt'.cons b0_1.out (AllAt'.cons b0_2.out (AllAt'.cons b1_0.out (AllAt'.cons b1_1.out (AllAt'.cons b1_2.out (AllAt'.nil _))))))
    have hob2 : ObOk w.heap.size v2 (([(w.heap.size, 0, .bool y1_1b), (w.heap.size, 1, .slice y1_1p y1_1n y1_1c), (w.heap.size, 2, .slice y1_1q y1_1k y1_1d), (w.heap.size + 1, 0, .bool y1_3b), (w.heap.size + 1, 1, .slice y1_3p y1_3n y1_3c), (w.heap.size + 1, 2, .slice y1_3q y1_3k y1_3d)] : List (Nat × Nat × Value)).map (·.1)) ([(w.heap.size + 1 + 1, [(0, .bool false), (1, .slice none 0 0), (2, .slice none 0 0)])] : List (Nat × List (Nat × Value))) := ⟨⟨(by omega), b2_0.out.2, ⟨b2_0.out, ⟨b2_1.out, ⟨b2_2.out, trivial⟩⟩⟩, ⟨(by (try dsimp only); omega), ⟨(by (try dsimp only); omega), ⟨(by (try dsimp only); omega), ⟨(by (try dsimp only); omega), ⟨(by (try dsimp only); omega), ⟨(by (try dsimp only); omega), trivial⟩⟩⟩⟩⟩⟩⟩, trivial⟩
    have hne2 : AllNe (([(w.heap.size + 1 + 1, [(0, .bool false), (1, .slice none 0 0), (2, .slice none 0 0)])] : List (Nat × List (Nat × Value))).map (·.1)) := ⟨trivial, trivial⟩
    (try simp only [List.append_eq, List.cons_append, List.nil_append])
    refine wp_region_gen ⟨[10, 11, 12, 13, 14, 15, 16, 17, 18, 19, 20, 21, 22, 23, 24, 25, 26, 27, 28, 29, 30, 31, 32, 5], fun i => false, fun i => ([none, none, none, none, none, none, none, none, none, none, none, none, none, none, none, none, none, none, none, none, none, none, none, some (.old 0, 21), none] : List (Option (BoxRef × Nat))).getD i none, fun i => ([Sg.val (.pointer (some ⟨w.heap.size, 0, none⟩)), Sg.val (.pointer (some ⟨w.heap.size, 0, none⟩)), Sg.val (.bool y1_1b), Sg.val (.pointer (some ⟨w.heap.size + 1, 0, none⟩)), Sg.val (.pointer (some ⟨w.heap.size + 1, 0, none⟩)), Sg.val (.bool y1_3b), Sg.val (.bool (y1_1b != y1_3b)), Sg.val (.pointer (some ⟨w.heap.size, 0, none⟩)), Sg.val (.pointer (some ⟨w.heap.size, 1, none⟩)), Sg.val (.slice y1_1p y1_1n y1_1c), Sg.val (.pointer (some ⟨w.heap.size + 1, 2, none⟩)), Sg.val (.slice y1_3q y1_3k y1_3d), Sg.natO w.heap.size ((a).num.natAbs * (b).den), Sg.intO w.heap.size (sgI (y1_1b != y1_3b) ((a).num.natAbs * (b).den)), Sg.val (.pointer (some ⟨w.heap.size, 2, none⟩)), Sg.val (.slice y1_1q y1_1k y1_1d), Sg.val (.pointer (some ⟨w.heap.size + 1, 0, none⟩)), Sg.val (.pointer (some ⟨w.heap.size + 1, 1, none⟩)), Sg.val (.slice y1_3p y1_3n y1_3c), Sg.natO w.heap.size ((a).den * (b).num.natAbs), Sg.two (Sg.val (.agg #[.bool false, .slice none 0 0, .slice none 0 0])) (Sg.val (.int .i64 7)), Sg.val (.agg #[.bool false, .slice none 0 0, .slice none 0 0]), Sg.val (.int .i64 7), Sg.any, Sg.val (.int .i64 7)] : List Sg).getD i Sg.any, [(w.heap.size, 0, .bool y1_1b), (w.heap.size, 1, .slice y1_1p y1_1n y1_1c), (w.heap.size, 2, .slice y1_1q y1_1k y1_1d), (w.heap.size + 1, 0, .bool y1_3b), (w.heap.size + 1, 1, .slice y1_3p y1_3n y1_3c), (w.heap.size + 1, 2, .slice y1_3q y1_3k y1_3d)], [(w.heap.size + 1 + 1, [(0, .bool false), (1, .slice none 0 0), (2, .slice none 0 0)])]⟩ w.heap.size (by kernel_rfl) (by kernel_rfl) e2_.size ?hfr hkeep2 hob2 hne2 ?hs ?he
    case hfr =>
      intro i v wk hi hst hv
      exact absurd hi (by simp)
    case hs =>
      refine ⟨?_, ?_, ?_, ?_, ?_, ?_, ?_, ?_, ?_, ?_, ?_, ?_, ?_, ?_, ?_, ?_, ?_, ?_, ?_, ?_, ?_, ?_, ?_, ?_, ?_, trivial⟩
      · refine RStep.op rfl rfl (fun ac wk hp K hK => ?_)
        have t2_ : ac.tmps[2]?.getD undef = .pointer (some ⟨w.heap.size, 0, none⟩) := hp.slot 2 rfl rfl
        have HP := Lib.hid hp
        clear hp
        go_simp
        refine hK.out _ _ ?_ (Ext.refl _) (fun h => absurd h (by simp))
        exact rfl
      · refine RStep.op rfl rfl (fun ac wk hp K hK => ?_)
        have u0e := hp.get 0 (by decide +kernel) rfl
        have t10_ : ac.tmps[10]?.getD undef = .pointer (some ⟨w.heap.size, 0, none⟩) := slot_is' u0e
        have HP := Lib.hid hp
        clear hp
        go_simp
        refine hK.out _ _ ?_ (Ext.refl _) (fun h => absurd h (by simp))
        exact rfl
      · refine RStep.op rfl rfl (fun ac wk hp K hK => ?_)
        have u1e := hp.get 1 (by decide +kernel) rfl
        have t11_ : ac.tmps[11]?.getD undef = .pointer (some ⟨w.heap.size, 0, none⟩) := slot_is' u1e
        have c0_ := hp.cell 0 rfl
        have HP := Lib.hid hp
        clear hp
        go_simp
        refine hK.out _ _ ?_ (Ext.refl _) (fun h => absurd h (by simp))
        exact rfl
      · refine RStep.op rfl rfl (fun ac wk hp K hK => ?_)
        have t3_ : ac.tmps[3]?.getD undef = .pointer (some ⟨w.heap.size + 1, 0, none⟩) := hp.slot 3 rfl rfl
        have HP := Lib.hid hp
        clear hp
        go_simp
        refine hK.out _ _ ?_ (Ext.refl _) (fun h => absurd h (by simp))
        exact rfl
      · refine RStep.op rfl rfl (fun ac wk hp K hK => ?_)
        have u3e := hp.get 3 (by decide +kernel) rfl
        have t13_ : ac.tmps[13]?.getD undef = .pointer (some ⟨w.heap.size + 1, 0, none⟩) := slot_is' u3e
        have HP := Lib.hid hp
        clear hp
        go_simp
        refine hK.out _ _ ?_ (Ext.refl _) (fun h => absurd h (by simp))
        exact rfl
      · refine RStep.op rfl rfl (fun ac wk hp K hK => ?_)
        have u4e := hp.get 4 (by decide +kernel) rfl
        have t14_ : ac.tmps[14]?.getD undef = .pointer (some ⟨w.heap.size + 1, 0, none⟩) := slot_is' u4e
        have c0_ := hp.cell 3 rfl
        have HP := Lib.hid hp
        clear hp
        go_simp
        refine hK.out _ _ ?_ (Ext.refl _) (fun h => absurd h (by simp))
        exact rfl
      · refine RStep.op rfl rfl (fun ac wk hp K hK => ?_)
        have u2e := hp.get 2 (by decide +kernel) rfl
        have t12_ : ac.tmps[12]?.getD undef = .bool y1_1b := slot_is' u2e
        have u5e := hp.get 5 (by decide +kernel) rfl
        have t15_ : ac.tmps[15]?.getD undef = .bool y1_3b := slot_is' u5e
        have HP := Lib.hid hp
        clear hp
        go_simp
        refine hK.out _ _ ?_ (Ext.refl _) (fun h => absurd h (by simp))
        exact rfl
      · refine RStep.op rfl rfl (fun ac wk hp K hK => ?_)
        have t2_ : ac.tmps[2]?.getD undef = .pointer (some ⟨w.heap.size, 0, none⟩) := hp.slot 2 rfl rfl
        have HP := Lib.hid hp
        clear hp
        go_simp
        refine hK.out _ _ ?_ (Ext.refl _) (fun h => absurd h (by simp))
        exact rfl
      · refine RStep.op rfl rfl (fun ac wk hp K hK => ?_)
        have u7e := hp.get 7 (by decide +kernel) rfl
        have t17_ : ac.tmps[17]?.getD undef = .pointer (some ⟨w.heap.size, 0, none⟩) := slot_is' u7e
        have HP := Lib.hid hp
        clear hp
        go_simp
        refine hK.out _ _ ?_ (Ext.refl _) (fun h => absurd h (by simp))
        exact rfl
      · refine RStep.op rfl rfl (fun ac wk hp K hK => ?_)
        have u8e := hp.get 8 (by decide +kernel) rfl
        have t18_ : ac.tmps[18]?.getD undef = .pointer (some ⟨w.heap.size, 1, none⟩) := slot_is' u8e
        have c0_ := hp.cell 1 rfl
        have HP := Lib.hid hp
        clear hp
        go_simp
        refine hK.out _ _ ?_ (Ext.refl _) (fun h => absurd h (by simp))
        exact rfl
      · refine RStep.op rfl rfl (fun ac wk hp K hK => ?_)
        have t3_ : ac.tmps[3]?.getD undef = .pointer (some ⟨w.heap.size + 1, 0, none⟩) := hp.slot 3 rfl rfl
        have HP := Lib.hid hp
        clear hp
        go_simp
        refine hK.out _ _ ?_ (Ext.refl _) (fun h => absurd h (by simp))
        exact rfl
      · refine RStep.op rfl rfl (fun ac wk hp K hK => ?_)
        have u10e := hp.get 10 (by decide +kernel) rfl
        have t20_ : ac.tmps[20]?.getD undef = .pointer (some ⟨w.heap.size + 1, 2, none⟩) := slot_is' u10e
        have c0_ := hp.cell 5 rfl
        have HP := Lib.hid hp
        clear hp
        go_simp
        refine hK.out _ _ ?_ (Ext.refl _) (fun h => absurd h (by simp))
        exact rfl
      · refine RStep.op rfl rfl (fun ac wk hp K hK => ?_)
        have u9e := hp.get 9 (by decide +kernel) rfl
        have t19_ : ac.tmps[19]?.getD undef = .slice y1_1p y1_1n y1_1c := slot_is' u9e
        have u11e := hp.get 11 (by decide +kernel) rfl
        have t21_ : ac.tmps[21]?.getD undef = .slice y1_3q y1_3k y1_3d := slot_is' u11e
        have HP := Lib.hid hp
        clear hp
        go_simp
        refine (nmul_n (Limbs.inN (k := k) (y1_1i.gr HP.out.gr).mag LA.out.1) (Limbs.inN (k := l) (y1_3i.gr HP.out.gr).den LB.out.2) (by have h1 := HK.out; omega)).mono ?_
        rintro e wk' ⟨sv3, rfl, o3, ix⟩
        obtain ⟨sp3, sl3, sc3, rfl⟩ := o3.slice'
        refine hK.out _ _ ?_ ix (fun h => absurd h (by simp))
        exact ⟨_, _, _, rfl, (o3.mono (Nat.le_trans e2_.size HP.out.gr.size))⟩
      · refine RStep.op rfl rfl (fun ac wk hp K hK => ?_)
        have u6e := hp.get 6 (by decide +kernel) rfl
        have t16_ : ac.tmps[16]?.getD undef = .bool (y1_1b != y1_3b) := slot_is' u6e
        obtain ⟨u12p, u12n, u12c, u12e, u12o⟩ := hp.get 12 (by decide +kernel) rfl
        have t22_ : ac.tmps[22]?.getD undef = .slice u12p u12n u12c := slot_is' u12e
        have HP := Lib.hid hp
        clear hp
        go_simp
        refine (wmake_is (Limbs.inN (k := (k + l)) u12o.limbs (lt_mul LA.out.1 LB.out.2)) (y1_1b != y1_3b) (by have h1 := HK.out; omega) rfl).mono ?_
        rintro e wk' ⟨sb4, sv4, sm4, rfl, e4, o4, ix⟩
        obtain ⟨sp4, sl4, sc4, rfl⟩ := e4.slice
        refine hK.out _ _ ?_ ix (fun h => absurd h (by simp))
        exact ⟨_, _, _, _, _, rfl, e4, (o4.mono (Nat.le_trans e2_.size HP.out.gr.size))⟩
      · refine RStep.op rfl rfl (fun ac wk hp K hK => ?_)
        have t2_ : ac.tmps[2]?.getD undef = .pointer (some ⟨w.heap.size, 0, none⟩) := hp.slot 2 rfl rfl
        have HP := Lib.hid hp
        clear hp
        go_simp
        refine hK.out _ _ ?_ (Ext.refl _) (fun h => absurd h (by simp))
        exact rfl
      · refine RStep.op rfl rfl (fun ac wk hp K hK => ?_)
        have u14e := hp.get 14 (by decide +kernel) rfl
        have t24_ : ac.tmps[24]?.getD undef = .pointer (some ⟨w.heap.size, 2, none⟩) := slot_is' u14e
        have c0_ := hp.cell 2 rfl
        have HP := Lib.hid hp
        clear hp
        go_simp
        refine hK.out _ _ ?_ (Ext.refl _) (fun h => absurd h (by simp))
        exact rfl
      · refine RStep.op rfl rfl (fun ac wk hp K hK => ?_)
        have t3_ : ac.tmps[3]?.getD undef = .pointer (some ⟨w.heap.size + 1, 0, none⟩) := hp.slot 3 rfl rfl
        have HP := Lib.hid hp
        clear hp
        go_simp
        refine hK.out _ _ ?_ (Ext.refl _) (fun h => absurd h (by simp))
        exact rfl
      · refine RStep.op rfl rfl (fun ac wk hp K hK => ?_)
        have u16e := hp.get 16 (by decide +kernel) rfl
        have t26_ : ac.tmps[26]?.getD undef = .pointer (some ⟨w.heap.size + 1, 0, none⟩) := slot_is' u16e
        have HP := Lib.hid hp
        clear hp
        go_simp
        refine hK.out _ _ ?_ (Ext.refl _) (fun h => absurd h (by simp))
        exact rfl
      · refine RStep.op rfl rfl (fun ac wk hp K hK => ?_)
        have u17e := hp.get 17 (by decide +kernel) rfl
        have t27_ : ac.tmps[27]?.getD undef = .pointer (some ⟨w.heap.size + 1, 1, none⟩) := slot_is' u17e
        have c0_ := hp.cell 4 rfl
        have HP := Lib.hid hp
        clear hp
        go_simp
        refine hK.out _ _ ?_ (Ext.refl _) (fun h => absurd h (by simp))
        exact rfl
      · refine RStep.op rfl rfl (fun ac wk hp K hK => ?_)
        have u15e := hp.get 15 (by decide +kernel) rfl
        have t25_ : ac.tmps[25]?.getD undef = .slice y1_1q y1_1k y1_1d := slot_is' u15e
        have u18e := hp.get 18 (by decide +kernel) rfl
        have t28_ : ac.tmps[28]?.getD undef = .slice y1_3p y1_3n y1_3c := slot_is' u18e
        have HP := Lib.hid hp
        clear hp
        go_simp
        refine (nmul_n (Limbs.inN (k := k) (y1_1i.gr HP.out.gr).den LA.out.2) (Limbs.inN (k := l) (y1_3i.gr HP.out.gr).mag LB.out.1) (by have h1 := HK.out; omega)).mono ?_
        rintro e wk' ⟨sv5, rfl, o5, ix⟩
        obtain ⟨sp5, sl5, sc5, rfl⟩ := o5.slice'
        refine hK.out _ _ ?_ ix (fun h => absurd h (by simp))
        exact ⟨_, _, _, rfl, (o5.mono (Nat.le_trans e2_.size HP.out.gr.size))⟩
      · refine RStep.op rfl rfl (fun ac wk hp K hK => ?_)
        obtain ⟨u13b, u13p, u13n, u13c, u13m, u13e, u13i, u13o⟩ := hp.get 13 (by decide +kernel) rfl
        have t23_ : ac.tmps[23]?.getD undef = .agg #[.bool u13b, .slice u13p u13n u13c] := slot_is' u13e
        obtain ⟨u19p, u19n, u19c, u19e, u19o⟩ := hp.get 19 (by decide +kernel) rfl
        have t29_ : ac.tmps[29]?.getD undef = .slice u19p u19n u19c := slot_is' u19e
        have HP := Lib.hid hp
        clear hp
        go_simp
        refine (rmake_zero (u13i.inI (k := (k + l)) (LenI.sg (lt_mul LA.out.1 LB.out.2))) (Limbs.inN (k := (k + l)) u19o.limbs (lt_mul LA.out.2 LB.out.1)) HND.out (by have h1 := HK.out; omega) (by have h1 := HK.out; omega)).mono ?_
        rintro e wk' ⟨rfl, ix⟩
        refine hK.out _ _ ?_ ix (fun h => absurd h (by simp))
        exact ⟨_, _, rfl, rfl, rfl⟩
      · refine RStep.op rfl rfl (fun ac wk hp K hK => ?_)
        obtain ⟨_, _, u20e, rfl, rfl⟩ := hp.get 20 (by decide +kernel) rfl
        have t30_ : ac.tmps[30]?.getD undef = .tuple #[.agg #[.bool false, .slice none 0 0, .slice none 0 0], .int .i64 7] := slot_is' u20e
        have HP := Lib.hid hp
        clear hp
        go_simp
        refine hK.out _ _ ?_ (Ext.refl _) (fun h => absurd h (by simp))
        exact rfl
      · refine RStep.op rfl rfl (fun ac wk hp K hK => ?_)
        obtain ⟨_, _, u20e, rfl, rfl⟩ := hp.get 20 (by decide +kernel) rfl
        have t30_ : ac.tmps[30]?.getD undef = .tuple #[.agg #[.bool false, .slice none 0 0, .slice none 0 0], .int .i64 7] := slot_is' u20e
        have HP := Lib.hid hp
        clear hp
        go_simp
        refine hK.out _ _ ?_ (Ext.refl _) (fun h => absurd h (by simp))
        exact rfl
      · refine RStep.so 0 21 (w.heap.size + 1 + 1) rfl rfl rfl (fun ac wk hp => ?_)
        have t4_ : ac.tmps[4]?.getD undef = .pointer (some ⟨w.heap.size + 1 + 1, 0, none⟩) := hp.slot 4 rfl rfl
        have u21e := hp.get 21 (by decide +kernel) rfl
        have t31_ : ac.tmps[31]?.getD undef = .agg #[.bool false, .slice none 0 0, .slice none 0 0] := slot_is' u21e
        obtain ⟨d0, hd0, -⟩ := Bx.cell (k2.out.gr (gv2.trans hp.gr)) (o := 0) (by decide)
        have fz0 := Bx.free (k2.out.gr (gv2.trans hp.gr)) 0
        obtain ⟨d1, hd1, -⟩ := Bx.cell (k2.out.gr (gv2.trans hp.gr)) (o := 1) (by decide)
        have fz1 := Bx.free (k2.out.gr (gv2.trans hp.gr)) 1
        obtain ⟨d2, hd2, -⟩ := Bx.cell (k2.out.gr (gv2.trans hp.gr)) (o := 2) (by decide)
        have fz2 := Bx.free (k2.out.gr (gv2.trans hp.gr)) 2
        refine ⟨3, [.bool false, .slice none 0 0, .slice none 0 0], (k2.out.gr (gv2.trans hp.gr)), by rw [u21e]; rfl, rfl, noI_s3, fun K hK => ?_⟩
        have HK := Lib.hid hK
        clear hK hp
        go_simp
        exact HK.out
      · refine RStep.op rfl rfl (fun ac wk hp K hK => ?_)
        have u22e := hp.get 22 (by decide +kernel) rfl
        have t32_ : ac.tmps[32]?.getD undef = .int .i64 7 := slot_is' u22e
        have HP := Lib.hid hp
        clear hp
        go_simp
        refine hK.out _ _ ?_ (Ext.refl _) (fun h => absurd h (by simp))
        exact rfl
    case he =>
      intro ac v3 hM
      have y2_0e := hM.post 0 rfl rfl
      have y2_1e := hM.post 1 rfl rfl
      have y2_2e := hM.post 2 rfl rfl
      have y2_3e := hM.post 3 rfl rfl
      have y2_4e := hM.post 4 rfl rfl
      have y2_5e := hM.post 5 rfl rfl
      have y2_6e := hM.post 6 rfl rfl
      have y2_7e := hM.post 7 rfl rfl
      have y2_8e := hM.post 8 rfl rfl
      have y2_9e := hM.post 9 rfl rfl
      have y2_10e := hM.post 10 rfl rfl
      have y2_11e := hM.post 11 rfl rfl
      obtain ⟨y2_12p, y2_12n, y2_12c, y2_12e, y2_12o⟩ := hM.post 12 rfl rfl
      obtain ⟨y2_13b, y2_13p, y2_13n, y2_13c, y2_13m, y2_13e, y2_13i, y2_13o⟩ := hM.post 13 rfl rfl
      have y2_14e := hM.post 14 rfl rfl
      have y2_15e := hM.post 15 rfl rfl
      have y2_16e := hM.post 16 rfl rfl
      have y2_17e := hM.post 17 rfl rfl
      have y2_18e := hM.post 18 rfl rfl
      obtain ⟨y2_19p, y2_19n, y2_19c, y2_19e, y2_19o⟩ := hM.post 19 rfl rfl
      obtain ⟨_, _, y2_20e, rfl, rfl⟩ := hM.post 20 rfl rfl
      have y2_21e := hM.post 21 rfl rfl
      have y2_22e := hM.post 22 rfl rfl
      have y2_24e := hM.post 24 rfl rfl
      have b2_0 : Hid (At (w.heap.size + 1 + 1) 0 (.bool false) v3) := Lib.hid (hM.boxOld 23 0 21 rfl rfl rfl (cs := [.bool false, .slice none 0 0, .slice none 0 0]) (by rw [y2_21e]; rfl) 0 _ rfl)
      have b2_1 : Hid (At (w.heap.size + 1 + 1) 1 (.slice none 0 0) v3) := Lib.hid (hM.boxOld 23 0 21 rfl rfl rfl (cs := [.bool false, .slice none 0 0, .slice none 0 0]) (by rw [y2_21e]; rfl) 1 _ rfl)
      have b2_2 : Hid (At (w.heap.size + 1 + 1) 2 (.slice none 0 0) v3) := Lib.hid (hM.boxOld 23 0 21 rfl rfl rfl (cs := [.bool false, .slice none 0 0, .slice none 0 0]) (by rw [y2_21e]; rfl) 2 _ rfl)
      have b0_0 : Hid (At (w.heap.size) 0 (.bool y1_1b) v3) := Lib.hid (hM.keep.at 0 rfl)
      have b0_1 : Hid (At (w.heap.size) 1 (.slice y1_1p y1_1n y1_1c) v3) := Lib.hid (hM.keep.at 1 rfl)
      have b0_2 : Hid (At (w.heap.size) 2 (.slice y1_1q y1_1k y1_1d) v3) := Lib.hid (hM.keep.at 2 rfl)
      have b1_0 : Hid (At (w.heap.size + 1) 0 (.bool y1_3b) v3) := Lib.hid (hM.keep.at 3 rfl)
      have b1_1 : Hid (At (w.heap.size + 1) 1 (.slice y1_3p y1_3n y1_3c) v3) := Lib.hid (hM.keep.at 4 rfl)
      have b1_2 : Hid (At (w.heap.size + 1) 2 (.slice y1_3q y1_3k y1_3d) v3) := Lib.hid (hM.keep.at 5 rfl)
      have gv3 : Gr v2 v3 := hM.gr
      have e3_ : Ext w v3 := Ext.below e2_ hM.blw
      have z0_ : sl ac 10 = .pointer (some ⟨w.heap.size, 0, none⟩) := y2_0e
      have z1_ : sl ac 11 = .pointer (some ⟨w.heap.size, 0, none⟩) := y2_1e
      have z2_ : sl ac 12 = .bool y1_1b := y2_2e
      have z3_ : sl ac 13 = .pointer (some ⟨w.heap.size + 1, 0, none⟩) := y2_3e
      have z4_ : sl ac 14 = .pointer (some ⟨w.heap.size + 1, 0, none⟩) := y2_4e
      have z5_ : sl ac 15 = .bool y1_3b := y2_5e
      have z6_ : sl ac 16 = .bool (y1_1b != y1_3b) := y2_6e
      have z7_ : sl ac 17 = .pointer (some ⟨w.heap.size, 0, none⟩) := y2_7e
      have z8_ : sl ac 18 = .pointer (some ⟨w.heap.size, 1, none⟩) := y2_8e
      have z9_ : sl ac 19 = .slice y1_1p y1_1n y1_1c := y2_9e
      have z10_ : sl ac 20 = .pointer (some ⟨w.heap.size + 1, 2, none⟩) := y2_10e
      have z11_ : sl ac 21 = .slice y1_3q y1_3k y1_3d := y2_11e
      have z12_ : sl ac 22 = .slice y2_12p y2_12n y2_12c := y2_12e
      have z13_ : sl ac 23 = .agg #[.bool y2_13b, .slice y2_13p y2_13n y2_13c] := y2_13e
      have z14_ : sl ac 24 = .pointer (some ⟨w.heap.size, 2, none⟩) := y2_14e
      have z15_ : sl ac 25 = .slice y1_1q y1_1k y1_1d := y2_15e
      have z16_ : sl ac 26 = .pointer (some ⟨w.heap.size + 1, 0, none⟩) := y2_16e
      have z17_ : sl ac 27 = .pointer (some ⟨w.heap.size + 1, 1, none⟩) := y2_17e
      have z18_ : sl ac 28 = .slice y1_3p y1_3n y1_3c := y2_18e
      have z19_ : sl ac 29 = .slice y2_19p y2_19n y2_19c := y2_19e
      have z20_ : sl ac 30 = .tuple #[.agg #[.bool false, .slice none 0 0, .slice none 0 0], .int .i64 7] := y2_20e
      have z21_ : sl ac 31 = .agg #[.bool false, .slice none 0 0, .slice none 0 0] := y2_21e
      have z22_ : sl ac 32 = .int .i64 7 := y2_22e
      have z24_ : sl ac 5 = .int .i64 7 := y2_24e
      rw [hM.ag.lay]
      simp only [lay, List.foldl_cons, List.foldl_nil, List.setIfInBounds_toArray, List.set_cons_zero, List.set_cons_succ, z0_, z1_, z2_, z3_, z4_, z5_, z6_, z7_, z8_, z9_, z10_, z11_, z12_, z13_, z14_, z15_, z16_, z17_, z18_, z19_, z20_, z21_, z22_, z24_]
      clear hM hkeep2 hob2 hne2 z0_ z1_ z2_ z3_ z4_ z5_ z6_ z7_ z8_ z9_ z10_ z11_ z12_ z13_ z14_ z15_ z16_ z17_ z18_ z19_ z20_ z21_ z22_ z24_ y2_0e y2_1e y2_2e y2_3e y2_4e y2_5e y2_6e y2_7e y2_8e y2_9e y2_10e y2_11e y2_12e y2_13e y2_14e y2_15e y2_16e y2_17e y2_18e y2_19e y2_20e y2_21e y2_22e y2_24e
      go_wp2_with fail
      have c0 := b2_0.out.1
      have c1 := b2_1.out.1
      have c2 := b2_2.out.1
      refine bodyPost_ret (v := .tuple #[.agg #[.bool false, .slice none 0 0, .slice none 0 0], .int .i64 7]) (by simp [results, Tryz.results66, go_sem, c0, c1, c2]) rfl ?_
      exact ⟨rfl, e3_⟩

theorem nshl_n {w : World} {v : Value} {k m : Nat} (h : InN w v k m) (n : Int) (hk : k ≤ 65535) (hn : 0 ≤ n ∧ n ≤ 65536) : Calls Tryz.prog 75 #[v, .int .i64 n] w fun e w' => ∃ r, e = .returned (.tuple #[r, .int .i64 0]) ∧ OwnL w.heap.size w' r (dig (m * 2 ^ n.toNat)) ∧ Ext w w' := by
  obtain ⟨A, h1, rfl, h3⟩ := h
  refine (shl_calls h1 (by omega) n).mono ?_
  rintro e w' ⟨r, he, hr, hx⟩
  refine ⟨r, by rw [he, if_pos hn], by rw [if_pos hn] at hr; exact hr, hx⟩
theorem nshl_bad {w : World} {v : Value} {k m : Nat} (h : InN w v k m) (n : Int) (hk : k ≤ 65535) (hn : ¬ (0 ≤ n ∧ n ≤ 65536)) : Calls Tryz.prog 75 #[v, .int .i64 n] w fun e w' => ∃ r, e = .returned (.tuple #[r, .int .i64 1]) ∧ OwnL w.heap.size w' r (dig 0) ∧ Ext w w' := by
  obtain ⟨A, h1, rfl, h3⟩ := h
  refine (shl_calls h1 (by omega) n).mono ?_
  rintro e w' ⟨r, he, hr, hx⟩
  exact ⟨r, by rw [he, if_neg hn], by rw [if_neg hn] at hr; exact hr, hx⟩

set_option maxHeartbeats 4000000 in
set_option maxRecDepth 100000 in
theorem half_bad (w : World) (n : Int) (hn : ¬ (0 ≤ n ∧ n ≤ 65536)) :
    Calls Tryz.prog 29 #[.int .i64 n] w (RetRE w 1) := by
  have HB := Lib.hid hn
  clear hn
  go_enter Tryz.func29, Tryz.ntmps29
  go_wp2_with fail
  obtain ⟨v1, hv1⟩ : ∃ W, W = (w.alloc (.cells #[.bool false, .slice none 0 0, .slice none 0 0] 36)) := ⟨_, rfl⟩
  have y1 : Ext w v1 := by rw [hv1]; exact ((Ext.refl _).alloc _)
  have b0_0 : Hid (At (w.heap.size) 0 (.bool false) v1) := by rw [hv1]; exact At.ext (At.n0 (by rfl)) (Ext.refl _)
  have b0_1 : Hid (At (w.heap.size) 1 (.slice none 0 0) v1) := by rw [hv1]; exact At.ext (At.n0 (by rfl)) (Ext.refl _)
  have b0_2 : Hid (At (w.heap.size) 2 (.slice none 0 0) v1) := by rw [hv1]; exact At.ext (At.n0 (by rfl)) (Ext.refl _)
  have k0 : Hid (Bx 3 (w.heap.size) v1) := by rw [hv1]; exact Bx.gr (Bx.n0 3 ⟨rfl, by decide⟩ (by decide) noI_s3) (Ext.gr (Ext.refl _))
  have u0 : Hid (w.heap.size < v1.heap.size) := b0_0.out.2
  have e1_ : Ext w v1 := y1
  rw [← hv1]
  clear hv1
  refine (rone_is).mono ?_
  rintro e w2 ⟨sv1, rfl, o1, x2⟩
  have e2_ : Ext w w2 := Ext.trans e1_ x2
  obtain ⟨sp1, sl1, sc1, rfl⟩ := o1.slice'
  go_wp2_with fail
  refine (nshl_bad (Limbs.inN (k := 1) o1.limbs one_len) n (by decide) HB.out).mono ?_
  rintro e w3 ⟨sv2, rfl, o2, x3⟩
  have e3_ : Ext w w3 := Ext.trans e2_ x3
  obtain ⟨sp2, sl2, sc2, rfl⟩ := o2.slice'
  have g0_0 := (b0_0.out.ext (x2.trans x3)).1
  have g0_1 := (b0_1.out.ext (x2.trans x3)).1
  have g0_2 := (b0_2.out.ext (x2.trans x3)).1
  have z0_0 := (k0.out.gr (x2.gr.trans x3.gr)).free 0
  have z0_1 := (k0.out.gr (x2.gr.trans x3.gr)).free 1
  have z0_2 := (k0.out.gr (x2.gr.trans x3.gr)).free 2
  have f0 : w.heap.size < w3.heap.size := (b0_0.out.ext (x2.trans x3)).2
  go_wp2_with fail
  obtain ⟨v4, hv4⟩ : ∃ W, W = (((w3.setCell ⟨w.heap.size, 0, none⟩ (.bool false)).setCell ⟨w.heap.size, 1, none⟩ (.slice none 0 0)).setCell ⟨w.heap.size, 2, none⟩ (.slice none 0 0)) := ⟨_, rfl⟩
  have sv4 : v4 = setRow (w.heap.size) 0 [.bool false, .slice none 0 0, .slice none 0 0] w3 := hv4
  have uv4 := setRow_bx' (o := 0) (cs := [.bool false, .slice none 0 0, .slice none 0 0]) (k0.out.gr (x2.gr.trans x3.gr)) (by simp) noI_s3
  have y4 : Gr w3 v4 := by rw [sv4]; exact setRow_gr' (o := 0) (cs := [.bool false, .slice none 0 0, .slice none 0 0]) (k0.out.gr (x2.gr.trans x3.gr)) (by simp) noI_s3
  have t4 : Hid (∀ t o u, t ≠ (w.heap.size) → At t o u w3 → At t o u v4) := fun t o u h k => by rw [sv4]; exact k.setRow h _ _
  have e4_ : Ext w v4 := by rw [sv4]; exact setRow_below _ _ (by omega) _ _ e3_
  have b0_0 : Hid (At (w.heap.size) 0 (.bool false) v4) := by rw [sv4]; exact uv4.2.1 0 _ rfl
  have b0_1 : Hid (At (w.heap.size) 1 (.slice none 0 0) v4) := by rw [sv4]; exact uv4.2.1 1 _ rfl
  have b0_2 : Hid (At (w.heap.size) 2 (.slice none 0 0) v4) := by rw [sv4]; exact uv4.2.1 2 _ rfl
  have k0 : Hid (Bx 3 (w.heap.size) v4) := by rw [sv4]; exact uv4.1
  rw [← hv4]
  clear hv4 sv4 uv4
  have c0 := b0_0.out.1
  have c1 := b0_1.out.1
  have c2 := b0_2.out.1
  refine bodyPost_ret (v := .tuple #[.agg #[.bool false, .slice none 0 0, .slice none 0 0], .int .i64 1]) (by simp [results, Tryz.results29, go_sem, c0, c1, c2]) rfl ?_
  exact ⟨rfl, e4_⟩

set_option maxHeartbeats 4000000 in
set_option maxRecDepth 100000 in
theorem half_is (w : World) (n : Int) (hn : 0 ≤ n ∧ n ≤ 65536) {q : Rat} (hq : mkRat 1 (2 ^ n.toNat) = q) :
    Calls Tryz.prog 29 #[.int .i64 n] w (RetR0 w q) := by
  have HB := Lib.hid hn
  have h2 : 2 ^ n.toNat ≠ 0 := Nat.pos_iff_ne_zero.1 (Nat.pow_pos (by decide))
  have HD : Hid (1 * 2 ^ n.toNat = q.den) := by show _ = _; rw [← hq, mk_den h2]; simp
  have HN : Hid (q.num = 1) := by show _ = _; rw [← hq, mk_num h2]; simp
  clear hn hq h2
  go_enter Tryz.func29, Tryz.ntmps29
  go_wp2_with fail
  obtain ⟨v1, hv1⟩ : ∃ W, W = (w.alloc (.cells #[.bool false, .slice none 0 0, .slice none 0 0] 36)) := ⟨_, rfl⟩
  have y1 : Ext w v1 := by rw [hv1]; exact ((Ext.refl _).alloc _)
  have b0_0 : Hid (At (w.heap.size) 0 (.bool false) v1) := by rw [hv1]; exact At.ext (At.n0 (by rfl)) (Ext.refl _)
  have b0_1 : Hid (At (w.heap.size) 1 (.slice none 0 0) v1) := by rw [hv1]; exact At.ext (At.n0 (by rfl)) (Ext.refl _)
  have b0_2 : Hid (At (w.heap.size) 2 (.slice none 0 0) v1) := by rw [hv1]; exact At.ext (At.n0 (by rfl)) (Ext.refl _)
  have k0 : Hid (Bx 3 (w.heap.size) v1) := by rw [hv1]; exact Bx.gr (Bx.n0 3 ⟨rfl, by decide⟩ (by decide) noI_s3) (Ext.gr (Ext.refl _))
  have u0 : Hid (w.heap.size < v1.heap.size) := b0_0.out.2
  have e1_ : Ext w v1 := y1
  rw [← hv1]
  clear hv1
  refine (rone_is).mono ?_
  rintro e w2 ⟨sv1, rfl, o1, x2⟩
  have e2_ : Ext w w2 := Ext.trans e1_ x2
  obtain ⟨sp1, sl1, sc1, rfl⟩ := o1.slice'
  go_wp2_with fail
  refine (nshl_n (Limbs.inN (k := 1) o1.limbs one_len) n (by decide) HB.out).mono ?_
  rintro e w3 ⟨sv2, rfl, o2, x3⟩
  have e3_ : Ext w w3 := Ext.trans e2_ x3
  obtain ⟨sp2, sl2, sc2, rfl⟩ := o2.slice'
  go_wp2_with fail
  refine (wof_z _ 1 (by decide) (by decide)).mono ?_
  rintro e w4 ⟨sb3, sv3, sm3, rfl, e3, o3, x4⟩
  have e4_ : Ext w w4 := Ext.trans e3_ x4
  obtain ⟨sp3, sl3, sc3, rfl⟩ := e3.slice
  have g0_0 := (b0_0.out.ext (x2.trans (x3.trans x4))).1
  have g0_1 := (b0_1.out.ext (x2.trans (x3.trans x4))).1
  have g0_2 := (b0_2.out.ext (x2.trans (x3.trans x4))).1
  have z0_0 := (k0.out.gr (x2.gr.trans (x3.gr.trans x4.gr))).free 0
  have z0_1 := (k0.out.gr (x2.gr.trans (x3.gr.trans x4.gr))).free 1
  have z0_2 := (k0.out.gr (x2.gr.trans (x3.gr.trans x4.gr))).free 2
  have f0 : w.heap.size < w4.heap.size := (b0_0.out.ext (x2.trans (x3.trans x4))).2
  go_wp2_with fail
  obtain ⟨v5, hv5⟩ : ∃ W, W = (((w4.setCell ⟨w.heap.size, 0, none⟩ (.bool sb3)).setCell ⟨w.heap.size, 1, none⟩ (.slice sp3 sl3 sc3)).setCell ⟨w.heap.size, 2, none⟩ (.slice sp2 sl2 sc2)) := ⟨_, rfl⟩
  have sv5 : v5 = setRow (w.heap.size) 0 [.bool sb3, .slice sp3 sl3 sc3, .slice sp2 sl2 sc2] w4 := hv5
  have uv5 := setRow_bx' (o := 0) (cs := [.bool sb3, .slice sp3 sl3 sc3, .slice sp2 sl2 sc2]) (k0.out.gr (x2.gr.trans (x3.gr.trans x4.gr))) (by simp) noI_s3
  have y5 : Gr w4 v5 := by rw [sv5]; exact setRow_gr' (o := 0) (cs := [.bool sb3, .slice sp3 sl3 sc3, .slice sp2 sl2 sc2]) (k0.out.gr (x2.gr.trans (x3.gr.trans x4.gr))) (by simp) noI_s3
  have t5 : Hid (∀ t o u, t ≠ (w.heap.size) → At t o u w4 → At t o u v5) := fun t o u h k => by rw [sv5]; exact k.setRow h _ _
  have e5_ : Ext w v5 := by rw [sv5]; exact setRow_below _ _ (by omega) _ _ e4_
  have b0_0 : Hid (At (w.heap.size) 0 (.bool sb3) v5) := by rw [sv5]; exact uv5.2.1 0 _ rfl
  have b0_1 : Hid (At (w.heap.size) 1 (.slice sp3 sl3 sc3) v5) := by rw [sv5]; exact uv5.2.1 1 _ rfl
  have b0_2 : Hid (At (w.heap.size) 2 (.slice sp2 sl2 sc2) v5) := by rw [sv5]; exact uv5.2.1 2 _ rfl
  have k0 : Hid (Bx 3 (w.heap.size) v5) := by rw [sv5]; exact uv5.1
  rw [← hv5]
  clear hv5 sv5 uv5
  have c0 := b0_0.out.1
  have c1 := b0_1.out.1
  have c2 := b0_2.out.1
  refine bodyPost_ret (v := .tuple #[.agg #[.bool sb3, .slice sp3 sl3 sc3, .slice sp2 sl2 sc2], .int .i64 0]) (by simp [results, Tryz.results29, go_sem, c0, c1, c2]) rfl ?_
  exact ⟨_, _, _, _, _, rfl, isR_mk (HN.out.symm ▸ (e3.gr y5)) (o2.limbs.gr (x4.gr.trans y5)) HD.out, ⟨((o3.gr y5).mono e3_.size), ((o2.gr (x4.gr.trans y5)).mono e2_.size)⟩, e5_⟩

end Go.Proofs.YtaklejkdmfgplaaGreatDoor

/- The contracts of rat.equal, rat.Same, rat.May, and of tombolaref06.Is. -/
namespace Go.Proofs.YtaklejkdmfgplaaGreatDoor
open Go Go.RowKit

theorem val_inj {A B : List Nat} (hA : ∀ x ∈ A, x < Bs) (hB : ∀ x ∈ B, x < Bs) (hl : A.length = B.length) (h : val A = val B) : A = B := by
  refine List.ext_getElem hl fun i h1 h2 => ?_
  have e1 := el_val hA i
  have e2 := el_val hB i
  rw [el_of_lt h1] at e1
  rw [el_of_lt h2] at e2
  rw [e1, e2, h]
theorem same_bool {w : World} {v u : Value} {A B : List Nat} (hA : Limbs w v A) (hB : Limbs w u B) (b : Bool) (hb : decide (A = B) = b) :
    Calls Tryz.prog 77 #[v, u] w fun e w' => e = .returned (.bool b) ∧ Ext w w' := by
  subst hb; exact same_calls hA hB

set_option maxHeartbeats 1000000 in
theorem equal_is {w : World} {v u : Value} {A B : List Nat} (hA : Limbs w v A) (hB : Limbs w u B) (hlA : A.length ≤ 65535) (hlB : B.length ≤ 65535) (b : Bool) (hb : decide (A = B) = b) :
    Calls Tryz.prog 78 #[v, u] w fun e w' => e = .returned (.bool b) ∧ Ext w w' := by
  obtain ⟨pa, qa, rfl, -, -, -⟩ := hA.open
  obtain ⟨pb, qb, rfl, -, -, -⟩ := hB.open
  have H1 := Lib.hid (lmax_17 hlA)
  have H2 := Lib.hid (lmax_17 hlB)
  by_cases hl : A.length = B.length
  · have hl' : ((A.length : Int) == (B.length : Int)) = true := by simp [hl]
    obtain ⟨k, hk⟩ : ∃ k, cmpN (val A) (val B) = k := ⟨_, rfl⟩
    obtain ⟨c, hc⟩ : ∃ c, ((k : Int) == 0) = c := ⟨_, rfl⟩
    have HB : Hid (c = b) := by
      show _ = _
      rw [← hc, ← hb, ← hk, Bool.eq_iff_iff, beq_iff_eq, decide_eq_true_eq]
      constructor
      · intro h
        refine val_inj hA.2 hB.2 hl ?_
        unfold cmpN at h
        split at h; · omega
        split at h; · omega
        omega
      · rintro rfl; exact cmpN_eq rfl
    have HK := Lib.hid hk
    have HC := Lib.hid hc
    have HL := Lib.hid hl
    clear hlA hlB hb hk hl hc
    go_enter Tryz.func78, Tryz.ntmps78
    go_wp2_with fail
    refine (cmp_int hA hB H1.out H2.out k HK.out).mono ?_
    rintro e w1 ⟨rfl, rfl⟩
    go_wp2_with fail
    all_goals (go_ret; refine ⟨?_, Ext.refl _⟩)
    all_goals (rw [← HB.out, ← HC.out]; try rfl)
    all_goals (try simp [*])
  · have hl' : ((A.length : Int) == (B.length : Int)) = false := by rw [beq_eq_false_iff_ne]; omega
    have HB : Hid (false = b) := by
      show _ = _
      rw [← hb, eq_comm, decide_eq_false_iff_not]
      rintro rfl; exact hl rfl
    clear hlA hlB hb hl
    go_enter Tryz.func78, Tryz.ntmps78
    go_wp2_with fail
    go_ret
    exact ⟨by rw [HB.out]; rfl, Ext.refl _⟩

set_option maxHeartbeats 4000000 in
set_option maxRecDepth 100000 in
theorem is_raw {w : World} {v1 u1 v2 u2 : Value} {A1 B1 A2 B2 : List Nat} (h1 : Limbs w v1 A1) (g1 : Limbs w u1 B1) (h2 : Limbs w v2 A2) (g2 : Limbs w u2 B2) (b1 b2 : Bool) (c : Bool) (hc : decide (b1 = b2 ∧ A1 = A2 ∧ B1 = B2) = c) :
    Calls Tryz.prog 31 #[.agg #[.bool b1, v1, u1], .agg #[.bool b2, v2, u2]] w fun e w' => e = .returned (.bool c) ∧ Ext w w' := by
  obtain ⟨p1, q1, rfl, -, -, -⟩ := h1.open
  obtain ⟨p1', q1', rfl, -, -, -⟩ := g1.open
  obtain ⟨p2, q2, rfl, -, -, -⟩ := h2.open
  obtain ⟨p2', q2', rfl, -, -, -⟩ := g2.open
  by_cases hb : b1 = b2
  case neg =>
    obtain rfl : c = false := by rw [← hc]; simp [hb]
    have hb' : (b1 == b2) = false := by simpa using hb
    clear hb hc
    go_enter Tryz.func31, Tryz.ntmps31
    go_wp2_with fail
    obtain ⟨v1, hv1⟩ : ∃ W, W = ((w.alloc (.cells #[.bool b1, .slice p1 A1.length q1, .slice p1' B1.length q1'] 36)).alloc (.cells #[.bool b2, .slice p2 A2.length q2, .slice p2' B2.length q2'] 36)) := ⟨_, rfl⟩
    have y1 : Ext w v1 := by rw [hv1]; exact (((Ext.refl _).alloc _).alloc _)
    have b0_0 : Hid (At (w.heap.size) 0 (.bool b1) v1) := by rw [hv1]; exact At.ext (At.n0 (by rfl)) ((Ext.refl _).alloc _)
    have b0_1 : Hid (At (w.heap.size) 1 (.slice p1 A1.length q1) v1) := by rw [hv1]; exact At.ext (At.n0 (by rfl)) ((Ext.refl _).alloc _)
    have b0_2 : Hid (At (w.heap.size) 2 (.slice p1' B1.length q1') v1) := by rw [hv1]; exact At.ext (At.n0 (by rfl)) ((Ext.refl _).alloc _)
    have k0 : Hid (Bx 3 (w.heap.size) v1) := by rw [hv1]; exact Bx.gr (Bx.n0 3 ⟨rfl, by decide⟩ (by decide) noI_s3) (Ext.gr ((Ext.refl _).alloc _))
    have u0 : Hid (w.heap.size < v1.heap.size) := b0_0.out.2
    have b1_0 : Hid (At (w.heap.size + 1) 0 (.bool b2) v1) := by rw [hv1]; exact At.ext (At.n1 (by rfl)) (Ext.refl _)
    have b1_1 : Hid (At (w.heap.size + 1) 1 (.slice p2 A2.length q2) v1) := by rw [hv1]; exact At.ext (At.n1 (by rfl)) (Ext.refl _)
    have b1_2 : Hid (At (w.heap.size + 1) 2 (.slice p2' B2.length q2') v1) := by rw [hv1]; exact At.ext (At.n1 (by rfl)) (Ext.refl _)
    have k1 : Hid (Bx 3 (w.heap.size + 1) v1) := by rw [hv1]; exact Bx.gr (Bx.n1 3 ⟨rfl, by decide⟩ (by decide) noI_s3) (Ext.gr (Ext.refl _))
    have u1 : Hid (w.heap.size + 1 < v1.heap.size) := b1_0.out.2
    have e1_ : Ext w v1 := y1
    rw [← hv1]
    clear hv1
    go_ret
    exact ⟨rfl, e1_⟩
  subst hb
  by_cases ha : A1 = A2
  case neg =>
    obtain rfl : c = false := by rw [← hc]; simp [ha]
    have HA : Hid (decide (A1 = A2) = false) := decide_eq_false ha
    clear ha hc
    go_enter Tryz.func31, Tryz.ntmps31
    go_wp2_with fail
    obtain ⟨v1, hv1⟩ : ∃ W, W = ((w.alloc (.cells #[.bool b1, .slice p1 A1.length q1, .slice p1' B1.length q1'] 36)).alloc (.cells #[.bool b1, .slice p2 A2.length q2, .slice p2' B2.length q2'] 36)) := ⟨_, rfl⟩
    have y1 : Ext w v1 := by rw [hv1]; exact (((Ext.refl _).alloc _).alloc _)
    have b0_0 : Hid (At (w.heap.size) 0 (.bool b1) v1) := by rw [hv1]; exact At.ext (At.n0 (by rfl)) ((Ext.refl _).alloc _)
    have b0_1 : Hid (At (w.heap.size) 1 (.slice p1 A1.length q1) v1) := by rw [hv1]; exact At.ext (At.n0 (by rfl)) ((Ext.refl _).alloc _)
    have b0_2 : Hid (At (w.heap.size) 2 (.slice p1' B1.length q1') v1) := by rw [hv1]; exact At.ext (At.n0 (by rfl)) ((Ext.refl _).alloc _)
    have k0 : Hid (Bx 3 (w.heap.size) v1) := by rw [hv1]; exact Bx.gr (Bx.n0 3 ⟨rfl, by decide⟩ (by decide) noI_s3) (Ext.gr ((Ext.refl _).alloc _))
    have u0 : Hid (w.heap.size < v1.heap.size) := b0_0.out.2
    have b1_0 : Hid (At (w.heap.size + 1) 0 (.bool b1) v1) := by rw [hv1]; exact At.ext (At.n1 (by rfl)) (Ext.refl _)
    have b1_1 : Hid (At (w.heap.size + 1) 1 (.slice p2 A2.length q2) v1) := by rw [hv1]; exact At.ext (At.n1 (by rfl)) (Ext.refl _)
    have b1_2 : Hid (At (w.heap.size + 1) 2 (.slice p2' B2.length q2') v1) := by rw [hv1]; exact At.ext (At.n1 (by rfl)) (Ext.refl _)
    have k1 : Hid (Bx 3 (w.heap.size + 1) v1) := by rw [hv1]; exact Bx.gr (Bx.n1 3 ⟨rfl, by decide⟩ (by decide) noI_s3) (Ext.gr (Ext.refl _))
    have u1 : Hid (w.heap.size + 1 < v1.heap.size) := b1_0.out.2
    have e1_ : Ext w v1 := y1
    rw [← hv1]
    clear hv1
    refine (same_bool (h1.ext y1) (h2.ext y1) false HA.out).mono ?_
    rintro e w2 ⟨rfl, x2⟩
    have e2_ : Ext w w2 := Ext.trans e1_ x2
    go_wp2_with fail
    go_ret
    exact ⟨rfl, e2_⟩
  have HA : Hid (decide (A1 = A2) = true) := decide_eq_true ha
  by_cases hd : B1 = B2
  case neg =>
    obtain rfl : c = false := by rw [← hc]; simp [hd]
    have HB : Hid (decide (B1 = B2) = false) := decide_eq_false hd
    clear ha hd hc
    go_enter Tryz.func31, Tryz.ntmps31
    go_wp2_with fail
    obtain ⟨v1, hv1⟩ : ∃ W, W = ((w.alloc (.cells #[.bool b1, .slice p1 A1.length q1, .slice p1' B1.length q1'] 36)).alloc (.cells #[.bool b1, .slice p2 A2.length q2, .slice p2' B2.length q2'] 36)) := ⟨_, rfl⟩
    have y1 : Ext w v1 := by rw [hv1]; exact (((Ext.refl _).alloc _).alloc _)
    have b0_0 : Hid (At (w.heap.size) 0 (.bool b1) v1) := by rw [hv1]; exact At.ext (At.n0 (by rfl)) ((Ext.refl _).alloc _)
    have b0_1 : Hid (At (w.heap.size) 1 (.slice p1 A1.length q1) v1) := by rw [hv1]; exact At.ext (At.n0 (by rfl)) ((Ext.refl _).alloc _)
    have b0_2 : Hid (At (w.heap.size) 2 (.slice p1' B1.length q1') v1) := by rw [hv1]; exact At.ext (At.n0 (by rfl)) ((Ext.refl _).alloc _)
    have k0 : Hid (Bx 3 (w.heap.size) v1) := by rw [hv1]; exact Bx.gr (Bx.n0 3 ⟨rfl, by decide⟩ (by decide) noI_s3) (Ext.gr ((Ext.refl _).alloc _))
    have u0 : Hid (w.heap.size < v1.heap.size) := b0_0.out.2
    have b1_0 : Hid (At (w.heap.size + 1) 0 (.bool b1) v1) := by rw [hv1]; exact At.ext (At.n1 (by rfl)) (Ext.refl _)
    have b1_1 : Hid (At (w.heap.size + 1) 1 (.slice p2 A2.length q2) v1) := by rw [hv1]; exact At.ext (At.n1 (by rfl)) (Ext.refl _)
    have b1_2 : Hid (At (w.heap.size + 1) 2 (.slice p2' B2.length q2') v1) := by rw [hv1]; exact At.ext (At.n1 (by rfl)) (Ext.refl _)
    have k1 : Hid (Bx 3 (w.heap.size + 1) v1) := by rw [hv1]; exact Bx.gr (Bx.n1 3 ⟨rfl, by decide⟩ (by decide) noI_s3) (Ext.gr (Ext.refl _))
    have u1 : Hid (w.heap.size + 1 < v1.heap.size) := b1_0.out.2
    have e1_ : Ext w v1 := y1
    rw [← hv1]
    clear hv1
    refine (same_bool (h1.ext y1) (h2.ext y1) true HA.out).mono ?_
    rintro e w2 ⟨rfl, x2⟩
    have e2_ : Ext w w2 := Ext.trans e1_ x2
    have g0_2 := (b0_2.out.ext x2).1
    have g1_2 := (b1_2.out.ext x2).1
    have f0 : w.heap.size < w2.heap.size := (b0_0.out.ext x2).2
    have f1 : w.heap.size + 1 < w2.heap.size := (b1_0.out.ext x2).2
    go_wp2_with fail
    refine (same_bool (g1.ext (y1.trans x2)) (g2.ext (y1.trans x2)) false HB.out).mono ?_
    rintro e w3 ⟨rfl, x3⟩
    have e3_ : Ext w w3 := Ext.trans e2_ x3
    clear g0_2 g1_2 f0 f1
    go_wp2_with fail
    go_ret
    exact ⟨rfl, e3_⟩
  case pos =>
    obtain rfl : c = true := by rw [← hc]; simp [ha, hd]
    have HB : Hid (decide (B1 = B2) = true) := decide_eq_true hd
    clear ha hd hc
    go_enter Tryz.func31, Tryz.ntmps31
    go_wp2_with fail
    obtain ⟨v1, hv1⟩ : ∃ W, W = ((w.alloc (.cells #[.bool b1, .slice p1 A1.length q1, .slice p1' B1.length q1'] 36)).alloc (.cells #[.bool b1, .slice p2 A2.length q2, .slice p2' B2.length q2'] 36)) := ⟨_, rfl⟩
    have y1 : Ext w v1 := by rw [hv1]; exact (((Ext.refl _).alloc _).alloc _)
    have b0_0 : Hid (At (w.heap.size) 0 (.bool b1) v1) := by rw [hv1]; exact At.ext (At.n0 (by rfl)) ((Ext.refl _).alloc _)
    have b0_1 : Hid (At (w.heap.size) 1 (.slice p1 A1.length q1) v1) := by rw [hv1]; exact At.ext (At.n0 (by rfl)) ((Ext.refl _).alloc _)
    have b0_2 : Hid (At (w.heap.size) 2 (.slice p1' B1.length q1') v1) := by rw [hv1]; exact At.ext (At.n0 (by rfl)) ((Ext.refl _).alloc _)
    have k0 : Hid (Bx 3 (w.heap.size) v1) := by rw [hv1]; exact Bx.gr (Bx.n0 3 ⟨rfl, by decide⟩ (by decide) noI_s3) (Ext.gr ((Ext.refl _).alloc _))
    have u0 : Hid (w.heap.size < v1.heap.size) := b0_0.out.2
    have b1_0 : Hid (At (w.heap.size + 1) 0 (.bool b1) v1) := by rw [hv1]; exact At.ext (At.n1 (by rfl)) (Ext.refl _)
    have b1_1 : Hid (At (w.heap.size + 1) 1 (.slice p2 A2.length q2) v1) := by rw [hv1]; exact At.ext (At.n1 (by rfl)) (Ext.refl _)
    have b1_2 : Hid (At (w.heap.size + 1) 2 (.slice p2' B2.length q2') v1) := by rw [hv1]; exact At.ext (At.n1 (by rfl)) (Ext.refl _)
    have k1 : Hid (Bx 3 (w.heap.size + 1) v1) := by rw [hv1]; exact Bx.gr (Bx.n1 3 ⟨rfl, by decide⟩ (by decide) noI_s3) (Ext.gr (Ext.refl _))
    have u1 : Hid (w.heap.size + 1 < v1.heap.size) := b1_0.out.2
    have e1_ : Ext w v1 := y1
    rw [← hv1]
    clear hv1
    refine (same_bool (h1.ext y1) (h2.ext y1) true HA.out).mono ?_
    rintro e w2 ⟨rfl, x2⟩
    have e2_ : Ext w w2 := Ext.trans e1_ x2
    have g0_2 := (b0_2.out.ext x2).1
    have g1_2 := (b1_2.out.ext x2).1
    have f0 : w.heap.size < w2.heap.size := (b0_0.out.ext x2).2
    have f1 : w.heap.size + 1 < w2.heap.size := (b1_0.out.ext x2).2
    go_wp2_with fail
    refine (same_bool (g1.ext (y1.trans x2)) (g2.ext (y1.trans x2)) true HB.out).mono ?_
    rintro e w3 ⟨rfl, x3⟩
    have e3_ : Ext w w3 := Ext.trans e2_ x3
    clear g0_2 g1_2 f0 f1
    go_wp2_with fail
    go_ret
    exact ⟨rfl, e3_⟩

theorem isR_eq {w w' : World} {b1 b2 : Bool} {v1 u1 v2 u2 : Value} {m1 d1 m2 d2 : Nat} {p q : Rat} (h : IsR w b1 v1 u1 m1 d1 p) (g : IsR w' b2 v2 u2 m2 d2 q) : decide (b1 = b2 ∧ dig m1 = dig m2 ∧ dig d1 = dig d2) = decide (p = q) := by
  rw [Bool.eq_iff_iff, decide_eq_true_eq, decide_eq_true_eq]
  constructor
  · rintro ⟨e1, e2, e3⟩
    have e2 : m1 = m2 := by rw [← val_dig m1, e2, val_dig]
    have e3 : d1 = d2 := by rw [← val_dig d1, e3, val_dig]
    have e4 : p.num < 0 ↔ q.num < 0 := by
      have := h.1.trans (e1.trans g.1.symm); simpa using this
    have e5 := h.2.1
    have e6 := g.2.1
    refine Rat.ext (by omega) ?_
    rw [h.2.2.1, g.2.2.1, e3]
  · rintro rfl
    refine ⟨h.1.symm.trans g.1, ?_, ?_⟩
    · rw [← h.2.1, ← g.2.1]
    · rw [← h.2.2.1, ← g.2.2.1]
/-- the reference's comparison, by the fractions -/
theorem is_is {w : World} {b1 b2 : Bool} {v1 u1 v2 u2 : Value} {m1 d1 m2 d2 : Nat} {p q : Rat} (h : IsR w b1 v1 u1 m1 d1 p) (g : IsR w b2 v2 u2 m2 d2 q) (c : Bool) (hc : decide (p = q) = c) :
    Calls Tryz.prog 31 #[.agg #[.bool b1, v1, u1], .agg #[.bool b2, v2, u2]] w fun e w' => e = .returned (.bool c) ∧ Ext w w' :=
  is_raw h.2.2.2.1 h.2.2.2.2 g.2.2.2.1 g.2.2.2.2 b1 b2 c ((isR_eq h g).trans hc)

set_option maxHeartbeats 4000000 in
set_option maxRecDepth 100000 in
theorem rsame_calls {w : World} {ba bb : Bool} {va ua vb ub : Value} {k l : Nat} {a b : Rat} (ha : InR w ba va ua k a) (hb : InR w bb vb ub l b) (hk : k + l ≤ 30000) (c : Bool) (hc : decide (a = b) = c) :
    Calls Tryz.prog 43 #[.agg #[.bool ba, va, ua], .agg #[.bool bb, vb, ub]] w fun e w' => e = .returned (.bool c) ∧ Ext w w' := by
  obtain ⟨s, hs⟩ : ∃ s, cmpR a b = s := ⟨_, rfl⟩
  have HC : Hid ((s == 0) = c) := by
    show _ = _
    rw [← hs, ← hc, Bool.eq_iff_iff, beq_iff_eq, decide_eq_true_eq, cmpR_eq]
  have HS := Lib.hid hs
  have HK := Lib.hid hk
  obtain ⟨pa, qa, ra, pa', qa', ra', rfl, rfl⟩ := ha.slice
  obtain ⟨pb, qb, rb, pb', qb', rb', rfl, rfl⟩ := hb.slice
  clear hs hc hk
  go_enter Tryz.func43, Tryz.ntmps43
  go_wp2_with fail
  obtain ⟨v1, hv1⟩ : ∃ W, W = ((w.alloc (.cells #[.bool ba, .slice pa qa ra, .slice pa' qa' ra'] 36)).alloc (.cells #[.bool bb, .slice pb qb rb, .slice pb' qb' rb'] 36)) := ⟨_, rfl⟩
  have y1 : Ext w v1 := by rw [hv1]; exact (((Ext.refl _).alloc _).alloc _)
  have b0_0 : Hid (At (w.heap.size) 0 (.bool ba) v1) := by rw [hv1]; exact At.ext (At.n0 (by rfl)) ((Ext.refl _).alloc _)
  have b0_1 : Hid (At (w.heap.size) 1 (.slice pa qa ra) v1) := by rw [hv1]; exact At.ext (At.n0 (by rfl)) ((Ext.refl _).alloc _)
  have b0_2 : Hid (At (w.heap.size) 2 (.slice pa' qa' ra') v1) := by rw [hv1]; exact At.ext (At.n0 (by rfl)) ((Ext.refl _).alloc _)
  have k0 : Hid (Bx 3 (w.heap.size) v1) := by rw [hv1]; exact Bx.gr (Bx.n0 3 ⟨rfl, by decide⟩ (by decide) noI_s3) (Ext.gr ((Ext.refl _).alloc _))
  have u0 : Hid (w.heap.size < v1.heap.size) := b0_0.out.2
  have b1_0 : Hid (At (w.heap.size + 1) 0 (.bool bb) v1) := by rw [hv1]; exact At.ext (At.n1 (by rfl)) (Ext.refl _)
  have b1_1 : Hid (At (w.heap.size + 1) 1 (.slice pb qb rb) v1) := by rw [hv1]; exact At.ext (At.n1 (by rfl)) (Ext.refl _)
  have b1_2 : Hid (At (w.heap.size + 1) 2 (.slice pb' qb' rb') v1) := by rw [hv1]; exact At.ext (At.n1 (by rfl)) (Ext.refl _)
  have k1 : Hid (Bx 3 (w.heap.size + 1) v1) := by rw [hv1]; exact Bx.gr (Bx.n1 3 ⟨rfl, by decide⟩ (by decide) noI_s3) (Ext.gr (Ext.refl _))
  have u1 : Hid (w.heap.size + 1 < v1.heap.size) := b1_0.out.2
  have e1_ : Ext w v1 := y1
  rw [← hv1]
  clear hv1
  refine (rcmp_is (ha.ext y1) (hb.ext y1) HK.out HS.out).mono ?_
  rintro e w2 ⟨rfl, x2⟩
  have e2_ : Ext w w2 := Ext.trans e1_ x2
  go_wp2_with fail
  go_ret
  refine ⟨?_, e2_⟩
  rw [← HC.out]; rfl

set_option maxHeartbeats 4000000 in
set_option maxRecDepth 100000 in
theorem rmay_raw {w : World} {b : Bool} {v u : Value} {k : Nat} {q : Rat} {A B : List Nat} (hA : Limbs w v A) (hB : Limbs w u B) (hq : mkRat (iv b A) (val B) = q) (hlA : A.length ≤ k) (hlB : B.length ≤ k) (hk1 : 1 ≤ k) (hk : k ≤ 65535) (c : Bool)
    (hc : decide (val B ≠ 0 ∧ decide (q.num < 0) = b ∧ dig q.num.natAbs = A ∧ dig q.den = B) = c) :
    Calls Tryz.prog 34 #[.agg #[.bool b, v, u]] w fun e w' => e = .returned (.bool c) ∧ Ext w w' := by
  have HLR := Lib.hid (lenR_raw hA hB hq hlA hlB hk1)
  have HLM : Hid ((dig q.num.natAbs).length ≤ 65535) := Nat.le_trans (dig_len_le HLR.out.1) hk
  have HLD : Hid ((dig q.den).length ≤ 65535) := Nat.le_trans (dig_len_le HLR.out.2) hk
  obtain ⟨pa, qa, rfl, -, -, -⟩ := hA.open
  obtain ⟨pb, qb, rfl, -, -, -⟩ := hB.open
  have HQ := Lib.hid hq
  have HLA := Lib.hid hlA
  have HLB := Lib.hid hlB
  have HK := Lib.hid hk
  clear hq hlA hlB hk
  by_cases hb0 : val B = 0
  case pos =>
    obtain rfl : c = false := by rw [← hc]; simp [hb0]
    have HB0 := Lib.hid hb0
    clear hb0 hc
    go_enter Tryz.func34, Tryz.ntmps34
    go_wp2_with fail
    obtain ⟨v1, hv1⟩ : ∃ W, W = (w.alloc (.cells #[.bool b, .slice pa A.length qa, .slice pb B.length qb] 36)) := ⟨_, rfl⟩
    have y1 : Ext w v1 := by rw [hv1]; exact ((Ext.refl _).alloc _)
    have b0_0 : Hid (At (w.heap.size) 0 (.bool b) v1) := by rw [hv1]; exact At.ext (At.n0 (by rfl)) (Ext.refl _)
    have b0_1 : Hid (At (w.heap.size) 1 (.slice pa A.length qa) v1) := by rw [hv1]; exact At.ext (At.n0 (by rfl)) (Ext.refl _)
    have b0_2 : Hid (At (w.heap.size) 2 (.slice pb B.length qb) v1) := by rw [hv1]; exact At.ext (At.n0 (by rfl)) (Ext.refl _)
    have k0 : Hid (Bx 3 (w.heap.size) v1) := by rw [hv1]; exact Bx.gr (Bx.n0 3 ⟨rfl, by decide⟩ (by decide) noI_s3) (Ext.gr (Ext.refl _))
    have u0 : Hid (w.heap.size < v1.heap.size) := b0_0.out.2
    have e1_ : Ext w v1 := y1
    rw [← hv1]
    clear hv1
    refine (rmake_zero ⟨_, (hA.ext y1), rfl, HLA.out⟩ ⟨_, (hB.ext y1), rfl, HLB.out⟩ HB0.out (by have h1 := HK.out; have h2 := HLA.out; have h3 := HLB.out; omega) (by have h1 := HK.out; have h2 := HLA.out; have h3 := HLB.out; omega)).mono ?_
    rintro e w2 ⟨rfl, x2⟩
    have e2_ : Ext w w2 := Ext.trans e1_ x2
    go_wp2_with fail
    obtain ⟨v3, hv3⟩ : ∃ W, W = (w2.alloc (.cells #[.bool false, .slice none 0 0, .slice none 0 0] 36)) := ⟨_, rfl⟩
    have y3 : Ext w2 v3 := by rw [hv3]; exact ((Ext.refl _).alloc _)
    have b1_0 : Hid (At (w2.heap.size) 0 (.bool false) v3) := by rw [hv3]; exact At.ext (At.n0 (by rfl)) (Ext.refl _)
    have b1_1 : Hid (At (w2.heap.size) 1 (.slice none 0 0) v3) := by rw [hv3]; exact At.ext (At.n0 (by rfl)) (Ext.refl _)
    have b1_2 : Hid (At (w2.heap.size) 2 (.slice none 0 0) v3) := by rw [hv3]; exact At.ext (At.n0 (by rfl)) (Ext.refl _)
    have k1 : Hid (Bx 3 (w2.heap.size) v3) := by rw [hv3]; exact Bx.gr (Bx.n0 3 ⟨rfl, by decide⟩ (by decide) noI_s3) (Ext.gr (Ext.refl _))
    have u1 : Hid (w2.heap.size < v3.heap.size) := b1_0.out.2
    have e3_ : Ext w v3 := Ext.trans e2_ y3
    rw [← hv3]
    clear hv3
    go_ret
    exact ⟨rfl, e3_⟩
  have HB0 : Hid (val B ≠ 0) := hb0
  by_cases hs : decide (q.num < 0) = b
  case neg =>
    obtain rfl : c = false := by rw [← hc, decide_eq_false_iff_not]; rintro ⟨-, h, -⟩; exact hs h
    have HS : Hid (¬ decide (q.num < 0) = b) := hs
    clear hb0 hs hc
    go_enter Tryz.func34, Tryz.ntmps34
    go_wp2_with fail
    obtain ⟨v1, hv1⟩ : ∃ W, W = (w.alloc (.cells #[.bool b, .slice pa A.length qa, .slice pb B.length qb] 36)) := ⟨_, rfl⟩
    have y1 : Ext w v1 := by rw [hv1]; exact ((Ext.refl _).alloc _)
    have b0_0 : Hid (At (w.heap.size) 0 (.bool b) v1) := by rw [hv1]; exact At.ext (At.n0 (by rfl)) (Ext.refl _)
    have b0_1 : Hid (At (w.heap.size) 1 (.slice pa A.length qa) v1) := by rw [hv1]; exact At.ext (At.n0 (by rfl)) (Ext.refl _)
    have b0_2 : Hid (At (w.heap.size) 2 (.slice pb B.length qb) v1) := by rw [hv1]; exact At.ext (At.n0 (by rfl)) (Ext.refl _)
    have k0 : Hid (Bx 3 (w.heap.size) v1) := by rw [hv1]; exact Bx.gr (Bx.n0 3 ⟨rfl, by decide⟩ (by decide) noI_s3) (Ext.gr (Ext.refl _))
    have u0 : Hid (w.heap.size < v1.heap.size) := b0_0.out.2
    have e1_ : Ext w v1 := y1
    rw [← hv1]
    clear hv1
    refine (rmake_is ⟨_, (hA.ext y1), rfl, HLA.out⟩ ⟨_, (hB.ext y1), rfl, HLB.out⟩ HB0.out (by have h1 := HK.out; have h2 := HLA.out; have h3 := HLB.out; omega) (by have h1 := HK.out; have h2 := HLA.out; have h3 := HLB.out; omega) HQ.out).mono ?_
    rintro e w2 ⟨sb1, sv1, su1, sm1, sd1, rfl, e1, o1, x2⟩
    have e2_ : Ext w w2 := Ext.trans e1_ x2
    obtain ⟨sp1, sl1, sc1, tp1, tl1, tc1, rfl, rfl⟩ := e1.slice
    have hsb : (sb1 == b) = false := by rw [beq_eq_false_iff_ne]; intro h; exact HS.out (e1.1.trans h)
    have g0_0 := (b0_0.out.ext x2).1
    have f0 : w.heap.size < w2.heap.size := (b0_0.out.ext x2).2
    go_wp2_with fail
    obtain ⟨v3, hv3⟩ : ∃ W, W = (w2.alloc (.cells #[.bool sb1, .slice sp1 sl1 sc1, .slice tp1 tl1 tc1] 36)) := ⟨_, rfl⟩
    have y3 : Ext w2 v3 := by rw [hv3]; exact ((Ext.refl _).alloc _)
    have b1_0 : Hid (At (w2.heap.size) 0 (.bool sb1) v3) := by rw [hv3]; exact At.ext (At.n0 (by rfl)) (Ext.refl _)
    have b1_1 : Hid (At (w2.heap.size) 1 (.slice sp1 sl1 sc1) v3) := by rw [hv3]; exact At.ext (At.n0 (by rfl)) (Ext.refl _)
    have b1_2 : Hid (At (w2.heap.size) 2 (.slice tp1 tl1 tc1) v3) := by rw [hv3]; exact At.ext (At.n0 (by rfl)) (Ext.refl _)
    have k1 : Hid (Bx 3 (w2.heap.size) v3) := by rw [hv3]; exact Bx.gr (Bx.n0 3 ⟨rfl, by decide⟩ (by decide) noI_s3) (Ext.gr (Ext.refl _))
    have u1 : Hid (w2.heap.size < v3.heap.size) := b1_0.out.2
    have e3_ : Ext w v3 := Ext.trans e2_ y3
    rw [← hv3]
    clear hv3
    go_ret
    exact ⟨rfl, e3_⟩
  have HS : Hid (decide (q.num < 0) = b) := hs
  by_cases ha : dig q.num.natAbs = A
  case neg =>
    obtain rfl : c = false := by rw [← hc, decide_eq_false_iff_not]; rintro ⟨-, -, h, -⟩; exact ha h
    have HA : Hid (decide (dig q.num.natAbs = A) = false) := decide_eq_false ha
    clear hb0 hs ha hc
    go_enter Tryz.func34, Tryz.ntmps34
    go_wp2_with fail
    obtain ⟨v1, hv1⟩ : ∃ W, W = (w.alloc (.cells #[.bool b, .slice pa A.length qa, .slice pb B.length qb] 36)) := ⟨_, rfl⟩
    have y1 : Ext w v1 := by rw [hv1]; exact ((Ext.refl _).alloc _)
    have b0_0 : Hid (At (w.heap.size) 0 (.bool b) v1) := by rw [hv1]; exact At.ext (At.n0 (by rfl)) (Ext.refl _)
    have b0_1 : Hid (At (w.heap.size) 1 (.slice pa A.length qa) v1) := by rw [hv1]; exact At.ext (At.n0 (by rfl)) (Ext.refl _)
    have b0_2 : Hid (At (w.heap.size) 2 (.slice pb B.length qb) v1) := by rw [hv1]; exact At.ext (At.n0 (by rfl)) (Ext.refl _)
    have k0 : Hid (Bx 3 (w.heap.size) v1) := by rw [hv1]; exact Bx.gr (Bx.n0 3 ⟨rfl, by decide⟩ (by decide) noI_s3) (Ext.gr (Ext.refl _))
    have u0 : Hid (w.heap.size < v1.heap.size) := b0_0.out.2
    have e1_ : Ext w v1 := y1
    rw [← hv1]
    clear hv1
    refine (rmake_is ⟨_, (hA.ext y1), rfl, HLA.out⟩ ⟨_, (hB.ext y1), rfl, HLB.out⟩ HB0.out (by have h1 := HK.out; have h2 := HLA.out; have h3 := HLB.out; omega) (by have h1 := HK.out; have h2 := HLA.out; have h3 := HLB.out; omega) HQ.out).mono ?_
    rintro e w2 ⟨sb1, sv1, su1, sm1, sd1, rfl, e1, o1, x2⟩
    have e2_ : Ext w w2 := Ext.trans e1_ x2
    obtain ⟨sp1, sl1, sc1, tp1, tl1, tc1, rfl, rfl⟩ := e1.slice
    have hsb : sb1 = b := e1.1.symm.trans HS.out
    subst sb1
    have g0_0 := (b0_0.out.ext x2).1
    have g0_1 := (b0_1.out.ext x2).1
    have f0 : w.heap.size < w2.heap.size := (b0_0.out.ext x2).2
    go_wp2_with fail
    obtain ⟨v3, hv3⟩ : ∃ W, W = (w2.alloc (.cells #[.bool b, .slice sp1 sl1 sc1, .slice tp1 tl1 tc1] 36)) := ⟨_, rfl⟩
    have y3 : Ext w2 v3 := by rw [hv3]; exact ((Ext.refl _).alloc _)
    have b1_0 : Hid (At (w2.heap.size) 0 (.bool b) v3) := by rw [hv3]; exact At.ext (At.n0 (by rfl)) (Ext.refl _)
    have b1_1 : Hid (At (w2.heap.size) 1 (.slice sp1 sl1 sc1) v3) := by rw [hv3]; exact At.ext (At.n0 (by rfl)) (Ext.refl _)
    have b1_2 : Hid (At (w2.heap.size) 2 (.slice tp1 tl1 tc1) v3) := by rw [hv3]; exact At.ext (At.n0 (by rfl)) (Ext.refl _)
    have k1 : Hid (Bx 3 (w2.heap.size) v3) := by rw [hv3]; exact Bx.gr (Bx.n0 3 ⟨rfl, by decide⟩ (by decide) noI_s3) (Ext.gr (Ext.refl _))
    have u1 : Hid (w2.heap.size < v3.heap.size) := b1_0.out.2
    have e3_ : Ext w v3 := Ext.trans e2_ y3
    rw [← hv3]
    clear hv3
    refine (equal_is (e1.ext y3).2.2.2.1 (hA.ext (y1.trans (x2.trans y3))) (by rw [e1.2.1.symm]; exact HLM.out) (by have h1 := HK.out; have h2 := HLA.out; have h3 := HLB.out; omega) false (by rw [e1.2.1.symm]; exact HA.out)).mono ?_
    rintro e w4 ⟨rfl, x4⟩
    have e4_ : Ext w w4 := Ext.trans e3_ x4
    clear g0_0 g0_1 f0
    go_wp2_with fail
    go_ret
    exact ⟨rfl, e4_⟩
  have HA : Hid (decide (dig q.num.natAbs = A) = true) := decide_eq_true ha
  by_cases hd : dig q.den = B
  case neg =>
    obtain rfl : c = false := by rw [← hc, decide_eq_false_iff_not]; rintro ⟨-, -, -, h⟩; exact hd h
    have HD : Hid (decide (dig q.den = B) = false) := decide_eq_false hd
    clear hb0 hs ha hd hc
    go_enter Tryz.func34, Tryz.ntmps34
    go_wp2_with fail
    obtain ⟨v1, hv1⟩ : ∃ W, W = (w.alloc (.cells #[.bool b, .slice pa A.length qa, .slice pb B.length qb] 36)) := ⟨_, rfl⟩
    have y1 : Ext w v1 := by rw [hv1]; exact ((Ext.refl _).alloc _)
    have b0_0 : Hid (At (w.heap.size) 0 (.bool b) v1) := by rw [hv1]; exact At.ext (At.n0 (by rfl)) (Ext.refl _)
    have b0_1 : Hid (At (w.heap.size) 1 (.slice pa A.length qa) v1) := by rw [hv1]; exact At.ext (At.n0 (by rfl)) (Ext.refl _)
    have b0_2 : Hid (At (w.heap.size) 2 (.slice pb B.length qb) v1) := by rw [hv1]; exact At.ext (At.n0 (by rfl)) (Ext.refl _)
    have k0 : Hid (Bx 3 (w.heap.size) v1) := by rw [hv1]; exact Bx.gr (Bx.n0 3 ⟨rfl, by decide⟩ (by decide) noI_s3) (Ext.gr (Ext.refl _))
    have u0 : Hid (w.heap.size < v1.heap.size) := b0_0.out.2
    have e1_ : Ext w v1 := y1
    rw [← hv1]
    clear hv1
    refine (rmake_is ⟨_, (hA.ext y1), rfl, HLA.out⟩ ⟨_, (hB.ext y1), rfl, HLB.out⟩ HB0.out (by have h1 := HK.out; have h2 := HLA.out; have h3 := HLB.out; omega) (by have h1 := HK.out; have h2 := HLA.out; have h3 := HLB.out; omega) HQ.out).mono ?_
    rintro e w2 ⟨sb1, sv1, su1, sm1, sd1, rfl, e1, o1, x2⟩
    have e2_ : Ext w w2 := Ext.trans e1_ x2
    obtain ⟨sp1, sl1, sc1, tp1, tl1, tc1, rfl, rfl⟩ := e1.slice
    have hsb : sb1 = b := e1.1.symm.trans HS.out
    subst sb1
    have g0_0 := (b0_0.out.ext x2).1
    have g0_1 := (b0_1.out.ext x2).1
    have f0 : w.heap.size < w2.heap.size := (b0_0.out.ext x2).2
    go_wp2_with fail
    obtain ⟨v3, hv3⟩ : ∃ W, W = (w2.alloc (.cells #[.bool b, .slice sp1 sl1 sc1, .slice tp1 tl1 tc1] 36)) := ⟨_, rfl⟩
    have y3 : Ext w2 v3 := by rw [hv3]; exact ((Ext.refl _).alloc _)
    have b1_0 : Hid (At (w2.heap.size) 0 (.bool b) v3) := by rw [hv3]; exact At.ext (At.n0 (by rfl)) (Ext.refl _)
    have b1_1 : Hid (At (w2.heap.size) 1 (.slice sp1 sl1 sc1) v3) := by rw [hv3]; exact At.ext (At.n0 (by rfl)) (Ext.refl _)
    have b1_2 : Hid (At (w2.heap.size) 2 (.slice tp1 tl1 tc1) v3) := by rw [hv3]; exact At.ext (At.n0 (by rfl)) (Ext.refl _)
    have k1 : Hid (Bx 3 (w2.heap.size) v3) := by rw [hv3]; exact Bx.gr (Bx.n0 3 ⟨rfl, by decide⟩ (by decide) noI_s3) (Ext.gr (Ext.refl _))
    have u1 : Hid (w2.heap.size < v3.heap.size) := b1_0.out.2
    have e3_ : Ext w v3 := Ext.trans e2_ y3
    rw [← hv3]
    clear hv3
    refine (equal_is (e1.ext y3).2.2.2.1 (hA.ext (y1.trans (x2.trans y3))) (by rw [e1.2.1.symm]; exact HLM.out) (by have h1 := HK.out; have h2 := HLA.out; have h3 := HLB.out; omega) true (by rw [e1.2.1.symm]; exact HA.out)).mono ?_
    rintro e w4 ⟨rfl, x4⟩
    have e4_ : Ext w w4 := Ext.trans e3_ x4
    clear g0_0 g0_1 f0
    have g1_2 := (b1_2.out.ext x4).1
    have g0_2 := (b0_2.out.ext (x2.trans (y3.trans x4))).1
    have f1 : w2.heap.size < w4.heap.size := (b1_0.out.ext x4).2
    have f0 : w.heap.size < w4.heap.size := (b0_0.out.ext (x2.trans (y3.trans x4))).2
    go_wp2_with fail
    refine (equal_is (e1.ext (y3.trans x4)).2.2.2.2 (hB.ext (y1.trans (x2.trans (y3.trans x4)))) (by rw [e1.2.2.1.symm]; exact HLD.out) (by have h1 := HK.out; have h2 := HLA.out; have h3 := HLB.out; omega) false (by rw [e1.2.2.1.symm]; exact HD.out)).mono ?_
    rintro e w5 ⟨rfl, x5⟩
    have e5_ : Ext w w5 := Ext.trans e4_ x5
    clear g1_2 g0_2 f1 f0
    go_wp2_with fail
    go_ret
    exact ⟨rfl, e5_⟩
  case pos =>
    obtain rfl : c = true := by rw [← hc, decide_eq_true_eq]; exact ⟨hb0, hs, ha, hd⟩
    have HD : Hid (decide (dig q.den = B) = true) := decide_eq_true hd
    clear hb0 hs ha hd hc
    go_enter Tryz.func34, Tryz.ntmps34
    go_wp2_with fail
    obtain ⟨v1, hv1⟩ : ∃ W, W = (w.alloc (.cells #[.bool b, .slice pa A.length qa, .slice pb B.length qb] 36)) := ⟨_, rfl⟩
    have y1 : Ext w v1 := by rw [hv1]; exact ((Ext.refl _).alloc _)
    have b0_0 : Hid (At (w.heap.size) 0 (.bool b) v1) := by rw [hv1]; exact At.ext (At.n0 (by rfl)) (Ext.refl _)
    have b0_1 : Hid (At (w.heap.size) 1 (.slice pa A.length qa) v1) := by rw [hv1]; exact At.ext (At.n0 (by rfl)) (Ext.refl _)
    have b0_2 : Hid (At (w.heap.size) 2 (.slice pb B.length qb) v1) := by rw [hv1]; exact At.ext (At.n0 (by rfl)) (Ext.refl _)
    have k0 : Hid (Bx 3 (w.heap.size) v1) := by rw [hv1]; exact Bx.gr (Bx.n0 3 ⟨rfl, by decide⟩ (by decide) noI_s3) (Ext.gr (Ext.refl _))
    have u0 : Hid (w.heap.size < v1.heap.size) := b0_0.out.2
    have e1_ : Ext w v1 := y1
    rw [← hv1]
    clear hv1
    refine (rmake_is ⟨_, (hA.ext y1), rfl, HLA.out⟩ ⟨_, (hB.ext y1), rfl, HLB.out⟩ HB0.out (by have h1 := HK.out; have h2 := HLA.out; have h3 := HLB.out; omega) (by have h1 := HK.out; have h2 := HLA.out; have h3 := HLB.out; omega) HQ.out).mono ?_
    rintro e w2 ⟨sb1, sv1, su1, sm1, sd1, rfl, e1, o1, x2⟩
    have e2_ : Ext w w2 := Ext.trans e1_ x2
    obtain ⟨sp1, sl1, sc1, tp1, tl1, tc1, rfl, rfl⟩ := e1.slice
    have hsb : sb1 = b := e1.1.symm.trans HS.out
    subst sb1
    have g0_0 := (b0_0.out.ext x2).1
    have g0_1 := (b0_1.out.ext x2).1
    have f0 : w.heap.size < w2.heap.size := (b0_0.out.ext x2).2
    go_wp2_with fail
    obtain ⟨v3, hv3⟩ : ∃ W, W = (w2.alloc (.cells #[.bool b, .slice sp1 sl1 sc1, .slice tp1 tl1 tc1] 36)) := ⟨_, rfl⟩
    have y3 : Ext w2 v3 := by rw [hv3]; exact ((Ext.refl _).alloc _)
    have b1_0 : Hid (At (w2.heap.size) 0 (.bool b) v3) := by rw [hv3]; exact At.ext (At.n0 (by rfl)) (Ext.refl _)
    have b1_1 : Hid (At (w2.heap.size) 1 (.slice sp1 sl1 sc1) v3) := by rw [hv3]; exact At.ext (At.n0 (by rfl)) (Ext.refl _)
    have b1_2 : Hid (At (w2.heap.size) 2 (.slice tp1 tl1 tc1) v3) := by rw [hv3]; exact At.ext (At.n0 (by rfl)) (Ext.refl _)
    have k1 : Hid (Bx 3 (w2.heap.size) v3) := by rw [hv3]; exact Bx.gr (Bx.n0 3 ⟨rfl, by decide⟩ (by decide) noI_s3) (Ext.gr (Ext.refl _))
    have u1 : Hid (w2.heap.size < v3.heap.size) := b1_0.out.2
    have e3_ : Ext w v3 := Ext.trans e2_ y3
    rw [← hv3]
    clear hv3
    refine (equal_is (e1.ext y3).2.2.2.1 (hA.ext (y1.trans (x2.trans y3))) (by rw [e1.2.1.symm]; exact HLM.out) (by have h1 := HK.out; have h2 := HLA.out; have h3 := HLB.out; omega) true (by rw [e1.2.1.symm]; exact HA.out)).mono ?_
    rintro e w4 ⟨rfl, x4⟩
    have e4_ : Ext w w4 := Ext.trans e3_ x4
    clear g0_0 g0_1 f0
    have g1_2 := (b1_2.out.ext x4).1
    have g0_2 := (b0_2.out.ext (x2.trans (y3.trans x4))).1
    have f1 : w2.heap.size < w4.heap.size := (b1_0.out.ext x4).2
    have f0 : w.heap.size < w4.heap.size := (b0_0.out.ext (x2.trans (y3.trans x4))).2
    go_wp2_with fail
    refine (equal_is (e1.ext (y3.trans x4)).2.2.2.2 (hB.ext (y1.trans (x2.trans (y3.trans x4)))) (by rw [e1.2.2.1.symm]; exact HLD.out) (by have h1 := HK.out; have h2 := HLA.out; have h3 := HLB.out; omega) true (by rw [e1.2.2.1.symm]; exact HD.out)).mono ?_
    rintro e w5 ⟨rfl, x5⟩
    have e5_ : Ext w w5 := Ext.trans e4_ x5
    clear g1_2 g0_2 f1 f0
    go_wp2_with fail
    go_ret
    exact ⟨rfl, e5_⟩
/-- what is told may be -/
theorem rmay_is {w : World} {b : Bool} {v u : Value} {m d k : Nat} {q : Rat} (h : IsR w b v u m d q) (hk : LenR k q) (hk2 : k ≤ 65535) :
    Calls Tryz.prog 34 #[.agg #[.bool b, v, u]] w fun e w' => e = .returned (.bool true) ∧ Ext w w' := by
  refine rmay_raw (q := q) h.mag h.den ?_ (dig_len_le hk.1) (dig_len_le hk.2) hk.pos hk2 true ?_
  · have := h.num.iv; rw [← h.2.1] at this; rw [this, val_dig, Rat.mkRat_self]
  · rw [decide_eq_true_eq, val_dig]; exact ⟨q.den_nz, h.1, rfl, rfl⟩

set_option maxHeartbeats 4000000 in
set_option maxRecDepth 100000 in
theorem lover_is (w : World) (n d : Int) (hn1 : -9223372036854775808 ≤ n) (hn2 : n ≤ 9223372036854775807) (hd1 : -9223372036854775808 ≤ d) (hd2 : d ≤ 9223372036854775807) (hd : d ≠ 0) {q : Rat} (hq : Rat.divInt n d = q) :
    Calls Tryz.prog 40 #[.int .i64 n, .int .i64 d] w (RetR w q) := by
  have HN1 := Lib.hid hn1
  have HN2 := Lib.hid hn2
  have HD1 := Lib.hid hd1
  have HD2 := Lib.hid hd2
  have HD : Hid (d ≠ 0) := hd
  have HQ := Lib.hid hq
  clear hn1 hn2 hd1 hd2 hd hq
  go_enter Tryz.func40, Tryz.ntmps40
  go_wp2_with fail
  obtain ⟨v1, hv1⟩ : ∃ W, W = (w.alloc (.cells #[.bool false, .slice none 0 0, .slice none 0 0] 36)) := ⟨_, rfl⟩
  have y1 : Ext w v1 := by rw [hv1]; exact ((Ext.refl _).alloc _)
  have b0_0 : Hid (At (w.heap.size) 0 (.bool false) v1) := by rw [hv1]; exact At.ext (At.n0 (by rfl)) (Ext.refl _)
  have b0_1 : Hid (At (w.heap.size) 1 (.slice none 0 0) v1) := by rw [hv1]; exact At.ext (At.n0 (by rfl)) (Ext.refl _)
  have b0_2 : Hid (At (w.heap.size) 2 (.slice none 0 0) v1) := by rw [hv1]; exact At.ext (At.n0 (by rfl)) (Ext.refl _)
  have k0 : Hid (Bx 3 (w.heap.size) v1) := by rw [hv1]; exact Bx.gr (Bx.n0 3 ⟨rfl, by decide⟩ (by decide) noI_s3) (Ext.gr (Ext.refl _))
  have u0 : Hid (w.heap.size < v1.heap.size) := b0_0.out.2
  have e1_ : Ext w v1 := y1
  rw [← hv1]
  clear hv1
  refine (over_is _ n d HN1.out HN2.out HD1.out HD2.out HD.out HQ.out).mono ?_
  rintro e w2 ⟨sb1, sv1, su1, sm1, sd1, rfl, e1, o1, x2⟩
  have e2_ : Ext w w2 := Ext.trans e1_ x2
  obtain ⟨sp1, sl1, sc1, tp1, tl1, tc1, rfl, rfl⟩ := e1.slice
  have g0_0 := (b0_0.out.ext x2).1
  have g0_1 := (b0_1.out.ext x2).1
  have g0_2 := (b0_2.out.ext x2).1
  have z0_0 := (k0.out.gr x2.gr).free 0
  have z0_1 := (k0.out.gr x2.gr).free 1
  have z0_2 := (k0.out.gr x2.gr).free 2
  have f0 : w.heap.size < w2.heap.size := (b0_0.out.ext x2).2
  go_wp2_with fail
  obtain ⟨v3, hv3⟩ : ∃ W, W = (((w2.setCell ⟨w.heap.size, 0, none⟩ (.bool sb1)).setCell ⟨w.heap.size, 1, none⟩ (.slice sp1 sl1 sc1)).setCell ⟨w.heap.size, 2, none⟩ (.slice tp1 tl1 tc1)) := ⟨_, rfl⟩
  have sv3 : v3 = setRow (w.heap.size) 0 [.bool sb1, .slice sp1 sl1 sc1, .slice tp1 tl1 tc1] w2 := hv3
  have uv3 := setRow_bx' (o := 0) (cs := [.bool sb1, .slice sp1 sl1 sc1, .slice tp1 tl1 tc1]) (k0.out.gr x2.gr) (by simp) noI_s3
  have y3 : Gr w2 v3 := by rw [sv3]; exact setRow_gr' (o := 0) (cs := [.bool sb1, .slice sp1 sl1 sc1, .slice tp1 tl1 tc1]) (k0.out.gr x2.gr) (by simp) noI_s3
  have t3 : Hid (∀ t o u, t ≠ (w.heap.size) → At t o u w2 → At t o u v3) := fun t o u h k => by rw [sv3]; exact k.setRow h _ _
  have e3_ : Ext w v3 := by rw [sv3]; exact setRow_below _ _ (by omega) _ _ e2_
  have zz3 : v3.heap.size = w2.heap.size := by rw [sv3, setRow_size]
  have b0_0 : Hid (At (w.heap.size) 0 (.bool sb1) v3) := by rw [sv3]; exact uv3.2.1 0 _ rfl
  have b0_1 : Hid (At (w.heap.size) 1 (.slice sp1 sl1 sc1) v3) := by rw [sv3]; exact uv3.2.1 1 _ rfl
  have b0_2 : Hid (At (w.heap.size) 2 (.slice tp1 tl1 tc1) v3) := by rw [sv3]; exact uv3.2.1 2 _ rfl
  have k0 : Hid (Bx 3 (w.heap.size) v3) := by rw [sv3]; exact uv3.1
  rw [← hv3]
  clear hv3 sv3 uv3
  obtain ⟨v4, hv4⟩ : ∃ W, W = (v3.alloc (.cells #[.bool sb1, .slice sp1 sl1 sc1, .slice tp1 tl1 tc1] 36)) := ⟨_, rfl⟩
  have y4 : Ext v3 v4 := by rw [hv4]; exact ((Ext.refl _).alloc _)
  have b1_0 : Hid (At (w2.heap.size) 0 (.bool sb1) v4) := by rw [← zz3, hv4]; exact At.ext (At.n0 (by rfl)) (Ext.refl _)
  have b1_1 : Hid (At (w2.heap.size) 1 (.slice sp1 sl1 sc1) v4) := by rw [← zz3, hv4]; exact At.ext (At.n0 (by rfl)) (Ext.refl _)
  have b1_2 : Hid (At (w2.heap.size) 2 (.slice tp1 tl1 tc1) v4) := by rw [← zz3, hv4]; exact At.ext (At.n0 (by rfl)) (Ext.refl _)
  have k1 : Hid (Bx 3 (w2.heap.size) v4) := by rw [← zz3, hv4]; exact Bx.gr (Bx.n0 3 ⟨rfl, by decide⟩ (by decide) noI_s3) (Ext.gr (Ext.refl _))
  have u1 : Hid (w2.heap.size < v4.heap.size) := b1_0.out.2
  have e4_ : Ext w v4 := Ext.trans e3_ y4
  rw [← hv4]
  clear hv4
  have c0 := (b0_0.out.ext y4).1
  have c1 := (b0_1.out.ext y4).1
  have c2 := (b0_2.out.ext y4).1
  refine bodyPost_ret (v := .agg #[.bool sb1, .slice sp1 sl1 sc1, .slice tp1 tl1 tc1]) (by simp [results, Tryz.results40, go_sem, c0, c1, c2]) rfl ?_
  exact ⟨_, _, _, _, _, rfl, (e1.gr (y3.trans y4.gr)), ((o1.gr (y3.trans y4.gr)).mono e1_.size), e4_⟩

end Go.Proofs.YtaklejkdmfgplaaGreatDoor

/- The contract of strings.Cut at one byte; the texts of fractions. -/
namespace Go.Proofs.YtaklejkdmfgplaaGreatDoor
open Go Go.RowKit

set_option maxHeartbeats 1000000 in
set_option maxRecDepth 100000 in
theorem indexByte_calls (s : ByteArray) (c : Int) (w : World) :
    Calls Tryz.prog 145 #[.string s, .int .u8 c] w fun e w' => e = .returned (.int .i64 (Lib.indexByte s.data.toList c.toNat.toUInt8)) ∧ w = w' := by
  go_enter Tryz.func145, Tryz.ntmps145
  go_wp2
  rw [run_callFunc_extern Tryz.func154 (by kernel_rfl) (by kernel_rfl) (by kernel_rfl) (e := Extern.BytealgIndexByte.indexByte) (by kernel_rfl), Lib.run_indexByteString]
  simp only [Result.andThen]
  rw [Oper.upon_value]
  go_wp2
  go_ret
  exact ⟨rfl, rfl⟩
set_option maxHeartbeats 1000000 in
set_option maxRecDepth 100000 in
theorem index1_calls (s : ByteArray) (w : World) (i : Int) (hi : Lib.indexByte s.data.toList 47 = i) :
    Calls Tryz.prog 138 #[.string s, .string ⟨#[47]⟩] w fun e w' => e = .returned (.int .i64 i) ∧ w = w' := by
  have HI := Lib.hid hi
  by_cases hb : s.data.toList = [47]
  · have e1 : ([47] == s.toList) = true := by rw [Lib.toList_data, hb]; rfl
    obtain rfl : i = 0 := by rw [← hi, hb]; rfl
    clear hi hb
    go_enter Tryz.func138, Tryz.ntmps138
    go_wp2_with fail
    go_ret
    exact ⟨rfl, rfl⟩
  have e1 : ([47] == s.toList) = false := by rw [beq_eq_false_iff_ne]; rw [Lib.toList_data]; intro e; exact hb e.symm
  clear hi hb
  go_enter Tryz.func138, Tryz.ntmps138
  go_wp2_with fail
  refine (indexByte_calls _ _ _).mono ?_
  rintro e w' ⟨rfl, rfl⟩
  go_wp2_with fail
  go_ret
  exact ⟨by rw [← HI.out]; rfl, rfl⟩
set_option maxHeartbeats 1000000 in
set_option maxRecDepth 100000 in
theorem cut_no (s : ByteArray) (w : World) (hi : Lib.indexByte s.data.toList 47 = -1) :
    Calls Tryz.prog 82 #[.string s, .string ⟨#[47]⟩] w fun e w' => e = .returned (.tuple #[.string s, .string ⟨#[]⟩, .bool false]) ∧ Ext w w' := by
  have HI := Lib.hid hi
  clear hi
  go_enter Tryz.func82, Tryz.ntmps82
  go_wp2_with fail
  refine Calls.mono (R := fun e w' => e = .returned (.tuple #[.string s, .string ⟨#[]⟩, .bool false]) ∧ w = w') ?_ ?_
  · go_enter Tryz.func122, Tryz.ntmps122
    go_wp2_with fail
    refine (index1_calls s w (-1) HI.out).mono ?_
    rintro e w' ⟨rfl, rfl⟩
    go_wp2_with fail
    go_ret3
    exact ⟨rfl, rfl⟩
  rintro e w' ⟨rfl, rfl⟩
  go_wp2_with fail
  go_ret3
  exact ⟨rfl, Ext.refl _⟩
set_option maxHeartbeats 1000000 in
set_option maxRecDepth 100000 in
theorem cut_yes (s : ByteArray) (w : World) (i : Nat) (hs : s.size ≤ 500) (hl : i < s.size) (hi : Lib.indexByte s.data.toList 47 = i) :
    Calls Tryz.prog 82 #[.string s, .string ⟨#[47]⟩] w fun e w' => e = .returned (.tuple #[.string (s.extract 0 i), .string (s.extract (i + 1) s.size), .bool true]) ∧ Ext w w' := by
  have HI := Lib.hid hi
  have h1 : (s.size : Int) ≤ 500 := by omega
  have c1 : (0 : Int) ≤ (i : Int) := by omega
  have c2 : (i : Int) + 1 ≤ s.size := by omega
  have c3 : (0 : Int) ≤ (i : Int) + 1 := by omega
  have c4 : (i : Int) ≤ s.size := by omega
  clear hi hs hl
  go_enter Tryz.func82, Tryz.ntmps82
  go_wp2_with fail
  refine Calls.mono (R := fun e w' => e = .returned (.tuple #[.string (s.extract 0 i), .string (s.extract (i + 1) s.size), .bool true]) ∧ Ext w w') ?_ ?_
  · go_enter Tryz.func122, Tryz.ntmps122
    go_wp2_with fail
    refine (index1_calls s w i HI.out).mono ?_
    rintro e w' ⟨rfl, rfl⟩
    go_wp2_with fail
    go_quiet (fail)
    go_wp2_with fail
    go_ret3
    exact ⟨rfl, (Ext.refl _).drewN _⟩
  rintro e w' ⟨rfl, x⟩
  go_wp2_with fail
  go_ret3
  exact ⟨rfl, x⟩
end Go.Proofs.YtaklejkdmfgplaaGreatDoor

/- The contract of quo.Pow. -/
namespace Go.Proofs.YtaklejkdmfgplaaGreatDoor
open Go Go.RowKit

theorem pow_lt_gen {m n K : Nat} (h : bl m * n < 64 * K) : m ^ n < Bs ^ K := by
  rw [Bs_eq, ← Nat.pow_mul]
  have h1 : m ^ n ≤ (2 ^ bl m) ^ n := Nat.pow_le_pow_left (Nat.le_of_lt (lt_bl m)) n
  rw [← Nat.pow_mul] at h1
  exact Nat.lt_of_le_of_lt h1 (Nat.pow_lt_pow_right (by decide) h)
theorem kp_ex : ∃ b : Nat, b = 16385 := ⟨_, rfl⟩
/-- how many limbs a power has at most -/
noncomputable def Kp : Nat := Classical.choose kp_ex
theorem Kp_def : Kp = 16385 := Classical.choose_spec kp_ex
theorem pow_lt_bs {m n : Nat} (h : bl m * n ≤ 1048576) : m ^ n < Bs ^ Kp := pow_lt_gen (by rw [Kp_def]; omega)
theorem pow_odd {a s N G : Nat} (h : a * s ^ N = G) (ho : N % 2 = 1) : a * s * (s * s) ^ (N / 2) = G := by
  rw [← h]
  conv => rhs; rw [show N = 1 + (N / 2 + N / 2) by omega, Nat.pow_add, Nat.pow_add, Nat.pow_one]
  rw [Nat.mul_pow, Nat.mul_assoc]
theorem pow_even {a s N G : Nat} (h : a * s ^ N = G) (ho : N % 2 = 0) : a * (s * s) ^ (N / 2) = G := by
  rw [← h]
  conv => rhs; rw [show N = N / 2 + N / 2 by omega, Nat.pow_add]
  rw [Nat.mul_pow]
theorem le_of_fac {a s N G : Nat} (h : a * s ^ N = G) (hs : 1 ≤ s) : a ≤ G := by
  rw [← h]; exact Nat.le_mul_of_pos_right _ (Nat.pow_pos hs)
theorem le_of_fac2 {a s N G : Nat} (h : a * s ^ N = G) (ha : 1 ≤ a) (hN : N ≠ 0) : s ≤ G := by
  rw [← h]
  refine Nat.le_trans ?_ (Nat.le_mul_of_pos_left _ ha)
  exact Nat.le_self_pow hN s
/-- the call returns n, and no error -/
def RetN0 (w : World) (n : Nat) (e : Ending) (w' : World) : Prop := ∃ v, e = .returned (.tuple #[v, .int .i64 0]) ∧ OwnL w.heap.size w' v (dig n) ∧ Ext w w'

set_option maxHeartbeats 2000000 in
set_option maxRecDepth 100000 in
theorem pow_n {w : World} {v : Value} {k m : Nat} (h : InN w v k m) (n : Nat) (hk : k ≤ 65535) (hn2 : n ≤ 1048576) (hn : bl m * n ≤ 1048576) : Calls Tryz.prog 87 #[v, .int .i64 (n : Int)] w (RetN0 w (m ^ n)) := by
  obtain ⟨A, hA, hm, hl⟩ := h
  have HG := Lib.hid (pow_lt_bs hn)
  have HLX : Hid (∀ x, x ≤ m ^ n → (dig x).length ≤ 16385) := fun x hx => by rw [← Kp_def]; exact dig_len_le (Nat.lt_of_le_of_lt hx HG.out)
  have HM := Lib.hid hm
  have H1 := Lib.hid (lmax_17 (Nat.le_trans hl hk))
  obtain ⟨b, hb⟩ : ∃ b, bl (val A) = b := ⟨_, rfl⟩
  have HB := Lib.hid hb
  have hni : (n : Int) ≤ 1048576 := by omega
  obtain ⟨pa, pc, rfl, -, -, -⟩ := hA.open
  by_cases h0 : m = 0 ∧ n ≠ 0
  · obtain ⟨rfl, h0⟩ := h0
    have hb0 : b = 0 := by rw [← hb, hm]; rfl
    subst hb0
    have hp : (1 : Int) ≤ (n : Int) := by omega
    have HZ : Hid (0 ^ n = 0) := Nat.zero_pow (by omega)
    clear hm hl hb hn hn2 h0 hk
    go_enter Tryz.func87, Tryz.ntmps87
    go_wp2_with fail
    refine (natlen_calls hA H1.out).mono ?_
    rintro e w1 ⟨rfl, x1⟩
    rw [HB.out]
    go_wp2_with fail
    go_ret2
    exact ⟨_, rfl, by rw [HZ.out, dig_zero]; exact OwnL.nil _ _, by subst x1; exact Ext.refl _⟩
  have hfac : 1 * m ^ n = m ^ n := Nat.one_mul _
  have hpos : n = 0 ∨ 1 ≤ m := by omega
  have HF := Lib.hid hfac
  have HP := Lib.hid hpos
  have hb1 : (0 : Int) ≤ b := by omega
  have hb2 : (b : Int) ≤ 4194240 := by
    have : b ≤ 64 * A.length := by rw [← hb]; exact (bl_le_iff _ _).2 (by rw [Nat.pow_mul, ← Bs_eq]; exact val_lt hA.2)
    omega
  have hdiv : 0 < b → n ≤ 1048576 / b := fun h => by
    rw [Nat.le_div_iff_mul_le h, Nat.mul_comm, ← hb, hm]; exact hn
  have hz : b = 0 → n = 0 := fun h => by
    have : m = 0 := by rw [← hm]; exact (bl_eq_zero _).1 (by rw [hb]; exact h)
    rcases hpos with g | g <;> omega
  have HM2 : Hid (val A = m) := HM.out
  have one_own : ∀ W : World, OwnL W.heap.size (W.alloc (.cells #[.int .u64 1] 54)) (.slice (some ⟨W.heap.size, 0, none⟩) 1 1) (dig 1) := fun W => by
    rw [dig_one one_lt_Bs (by decide)]
    exact own_lit W [1] (by simp [one_lt_Bs]) _ rfl 1 rfl (by rw [Lmax_def]; simp)
  have HO := Lib.hid one_own
  have HBB := Lib.hid hb
  by_cases hb0 : b = 0
  · have hn0 : n = 0 := hz hb0
    subst hn0
    subst hb0
    clear hm hl hb hn hn2 h0 hk hfac hpos hdiv hz one_own
    go_enter Tryz.func87, Tryz.ntmps87
    go_wp2_with fail
    refine (natlen_calls hA H1.out).mono ?_
    rintro e w1 ⟨rfl, rfl⟩
    rw [HB.out]
    go_wp2_with fail
    refine (trim_calls (hA.ext ((Ext.refl w).alloc _)) H1.out).mono ?_
    rintro e w2 ⟨t2, rfl, -, x2⟩
    go_wp2_with fail
    go_loopw [1, 7, 8] (fun v1 v7 v8 wr => v1 = .int .i64 0 ∧ v7 = .slice (some ⟨w.heap.size, 0, none⟩) 1 1 ∧ wr = w2) (fun _ _ _ _ => 0)
    case atStart => exact ⟨rfl, rfl, rfl⟩
    case round =>
      obtain ⟨rfl, rfl, rfl⟩ := hrel
      go_wp2_with fail
      go_ret2
      exact ⟨_, rfl, by rw [Nat.pow_zero]; exact (HO.out w).ext x2, ((Ext.refl w).alloc _).trans x2⟩
  have hb1 : (1 : Int) ≤ b := by omega
  have hm1 : 1 ≤ m := by
    rcases Nat.eq_zero_or_pos m with g | g
    · exact absurd (by rw [← hb, hm, g]; rfl) hb0
    · exact g
  have hle : (n : Int) ≤ 1048576 / (b : Int) := by
    have h1 := hdiv (by omega)
    rw [show (1048576 : Int) / (b : Int) = ((1048576 / b : Nat) : Int) from (Int.natCast_ediv 1048576 b).symm]
    omega
  have HM1 := Lib.hid hm1
  clear hm hl hb hn hn2 h0 hk hfac hpos hdiv hz one_own hb0 hm1
  go_enter Tryz.func87, Tryz.ntmps87
  go_wp2_with fail
  refine (natlen_calls hA H1.out).mono ?_
  rintro e w1 ⟨rfl, rfl⟩
  rw [HB.out]
  go_wp2_with fail
  refine (trim_calls (hA.ext ((Ext.refl w).alloc _)) H1.out).mono ?_
  rintro e w2 ⟨t2, rfl, ht2, x2⟩
  rw [HM.out] at ht2
  go_wp2_with fail
  go_loopw [1, 7, 8] (fun v1 v7 v8 wr => ∃ N a s : Nat, v1 = .int .i64 (N : Int) ∧ Hid (N ≤ n) ∧ Hid (a * s ^ N = m ^ n) ∧ Hid (1 ≤ a ∧ 1 ≤ s) ∧ Hid (OwnL w.heap.size wr v7 (dig a)) ∧ Hid (N ≠ 0 → OwnL w.heap.size wr v8 (dig s)) ∧ Ext w wr) (fun v1 _ _ _ => (intOf v1).toNat)
  case atStart => exact ⟨n, 1, m, rfl, Lib.hid (Nat.le_refl _), HF, Lib.hid ⟨Nat.le_refl _, HM1.out⟩, Lib.hid ((HO.out w).ext x2), Lib.hid fun _ => ht2.mono (by simp), ((Ext.refl w).alloc _).trans x2⟩
  case round =>
    obtain ⟨N, a, s, rfl, hN, hf, hp, ha, hs, hx⟩ := hrel
    have hNi : (N : Int) ≤ 1048576 := by have := hN.out; omega
    clear hle hni hb1 hb2
    by_cases h0 : N = 0
    · subst h0
      go_wp2_with fail
      go_ret2
      exact ⟨_, rfl, by have h := ha.out; have e := hf.out; rw [Nat.pow_zero, Nat.mul_one] at e; rwa [e] at h, hx⟩
    have h1 : (1 : Int) ≤ (N : Int) := by omega
    have HS := Lib.hid (hs.out h0)
    have H0 : Hid (N ≠ 0) := h0
    have la := HLX.out a (le_of_fac hf.out hp.out.2)
    have ls := HLX.out s (le_of_fac2 hf.out hp.out.1 h0)
    have LA := Lib.hid (show (dig a).length + (dig s).length ≤ Lmax by rw [Lmax_def]; omega)
    have LS := Lib.hid (show (dig s).length + (dig s).length ≤ Lmax by rw [Lmax_def]; omega)
    clear la ls
    have hdvd : ((N : Int) / 2) = ((N / 2 : Nat) : Int) := by omega
    have HDV := Lib.hid hdvd
    clear hdvd
    have PM : Hid (1 ≤ a * s ∧ 1 ≤ s * s) := ⟨Nat.mul_pos hp.out.1 hp.out.2, Nat.mul_pos hp.out.2 hp.out.2⟩
    rcases Nat.mod_two_eq_zero_or_one N with hpar | hpar
    · have hpb : ((N : Int) % 2 == 1) = false := by rw [beq_eq_false_iff_ne]; omega
      have hgt : (2 : Int) ≤ (N : Int) := by omega
      have HPAR := Lib.hid hpar
      clear hpar h0
      go_wp2_with fail
      refine (natmul_calls HS.out.limbs HS.out.limbs LS.out).mono ?_
      rintro e w3 ⟨s3, rfl, hs3, x3⟩
      rw [val_dig] at hs3
      go_wp2_with fail
      refine ⟨⟨N / 2, a, s * s, by rw [HDV.out], Lib.hid (by have := hN.out; omega), Lib.hid (pow_even hf.out HPAR.out), Lib.hid ⟨hp.out.1, PM.out.2⟩, Lib.hid (ha.out.ext x3), Lib.hid fun _ => hs3.mono hx.size, hx.trans x3⟩, ?_⟩
      simp [intOf]; omega
    · have hpb : ((N : Int) % 2 == 1) = true := by rw [beq_iff_eq]; omega
      have HPAR := Lib.hid hpar
      by_cases hg : N = 1
      · subst hg
        clear hpar h0
        go_wp2_with fail
        refine (natmul_calls ha.out.limbs HS.out.limbs LA.out).mono ?_
        rintro e w3 ⟨s3, rfl, hs3, x3⟩
        rw [val_dig, val_dig] at hs3
        go_wp2_with fail
        refine ⟨⟨0, a * s, s, rfl, Lib.hid (Nat.zero_le _), Lib.hid (by have := hf.out; rw [Nat.pow_one] at this; rw [Nat.pow_zero, Nat.mul_one]; exact this), Lib.hid ⟨PM.out.1, hp.out.2⟩, Lib.hid (hs3.mono hx.size), Lib.hid fun h => absurd rfl h, hx.trans x3⟩, ?_⟩
        simp [intOf]
      · have hgt : (2 : Int) ≤ (N : Int) := by omega
        clear hpar h0 hg
        go_wp2_with fail
        refine (natmul_calls ha.out.limbs HS.out.limbs LA.out).mono ?_
        rintro e w3 ⟨s3, rfl, hs3, x3⟩
        rw [val_dig, val_dig] at hs3
        go_wp2_with fail
        refine (natmul_calls (HS.out.ext x3).limbs (HS.out.ext x3).limbs LS.out).mono ?_
        rintro e w4 ⟨s4, rfl, hs4, x4⟩
        rw [val_dig] at hs4
        go_wp2_with fail
        refine ⟨⟨N / 2, a * s, s * s, by rw [HDV.out], Lib.hid (by have := hN.out; omega), Lib.hid (pow_odd hf.out HPAR.out), Lib.hid PM.out, Lib.hid ((hs3.ext x4).mono hx.size), Lib.hid fun _ => hs4.mono (hx.trans x3).size, hx.trans (x3.trans x4)⟩, ?_⟩
        simp [intOf]; omega
end Go.Proofs.YtaklejkdmfgplaaGreatDoor
