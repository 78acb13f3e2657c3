/- Facts and contracts, joined: Rat4, Rat5, Cut, Pow. -/
import Derived.Test.YtkfioaoooodmnaaGreatDoorPartD
import Derived.Test.YtkfioaoooodmnaaGreatDoorPartA
import Derived.Test.YtkfioaoooodmnaaGreatDoorPartC
import Derived.Lib.Bytealg
import Derived.Lib.IndexLaws
import Derived.Laws.Externs

/- The contracts of package rat: differences, quotients, halves. -/
namespace Go.Proofs.YtkfioaoooodmnaaGreatDoor
open Go Go.RowKit

set_option maxHeartbeats 4000000 in
set_option maxRecDepth 100000 in
theorem rsub_is {w : World} {ba bb : Bool} {va ua vb ub : Value} {k l : Nat} {a b : Rat} (ha : InR w ba va ua k a) (hb : InR w bb vb ub l b) (hk : k + l ≤ 30000) :
    Calls Tryz.prog 48 #[.agg #[.bool ba, va, ua], .agg #[.bool bb, vb, ub]] w (RetR w (a - b)) := by
  obtain ⟨pa, qa, ra, pa', qa', ra', rfl, rfl⟩ := ha.slice
  obtain ⟨pb, qb, rb, pb', qb', rb', rfl, rfl⟩ := hb.slice
  have HK := Lib.hid hk
  have LA := Lib.hid ha.len
  have LB := Lib.hid hb.len
  clear hk
  rw [Rat.sub_eq_add_neg]
  go_enter Tryz.func48, Tryz.ntmps48
  go_wp2_with fail
  obtain ⟨v1, hv1⟩ : ∃ W, W = (((w.alloc (.cells #[.bool ba, .slice pa qa ra, .slice pa' qa' ra'] 37)).alloc (.cells #[.bool bb, .slice pb qb rb, .slice pb' qb' rb'] 37)).alloc (.cells #[.bool false, .slice none 0 0, .slice none 0 0] 37)) := ⟨_, rfl⟩
  have y1 : Ext w v1 := by rw [hv1]; exact ((((Ext.refl _).alloc _).alloc _).alloc _)
  have b0_0 : Hid (At (w.heap.size) 0 (.bool ba) v1) := by rw [hv1]; exact At.ext (At.n0 (by rfl)) (((Ext.refl _).alloc _).alloc _)
  have b0_1 : Hid (At (w.heap.size) 1 (.slice pa qa ra) v1) := by rw [hv1]; exact At.ext (At.n0 (by rfl)) (((Ext.refl _).alloc _).alloc _)
  have b0_2 : Hid (At (w.heap.size) 2 (.slice pa' qa' ra') v1) := by rw [hv1]; exact At.ext (At.n0 (by rfl)) (((Ext.refl _).alloc _).alloc _)
  have k0 : Hid (Bx 3 (w.heap.size) v1) := by rw [hv1]; exact Bx.gr (Bx.n0 3 ⟨rfl, by decide⟩ (by decide) noI_s3) (Ext.gr (((Ext.refl _).alloc _).alloc _))
  have u0 : Hid (w.heap.size < v1.heap.size) := b0_0.out.2
  have b1_0 : Hid (At (w.heap.size + 1) 0 (.bool bb) v1) := by rw [hv1]; exact At.ext (At.n1 (by rfl)) ((Ext.refl _).alloc _)
  have b1_1 : Hid (At (w.heap.size + 1) 1 (.slice pb qb rb) v1) := by rw [hv1]; exact At.ext (At.n1 (by rfl)) ((Ext.refl _).alloc _)
  have b1_2 : Hid (At (w.heap.size + 1) 2 (.slice pb' qb' rb') v1) := by rw [hv1]; exact At.ext (At.n1 (by rfl)) ((Ext.refl _).alloc _)
  have k1 : Hid (Bx 3 (w.heap.size + 1) v1) := by rw [hv1]; exact Bx.gr (Bx.n1 3 ⟨rfl, by decide⟩ (by decide) noI_s3) (Ext.gr ((Ext.refl _).alloc _))
  have u1 : Hid (w.heap.size + 1 < v1.heap.size) := b1_0.out.2
  have b2_0 : Hid (At (w.heap.size + 1 + 1) 0 (.bool false) v1) := by rw [hv1]; exact At.ext (At.n2 (by rfl)) (Ext.refl _)
  have b2_1 : Hid (At (w.heap.size + 1 + 1) 1 (.slice none 0 0) v1) := by rw [hv1]; exact At.ext (At.n2 (by rfl)) (Ext.refl _)
  have b2_2 : Hid (At (w.heap.size + 1 + 1) 2 (.slice none 0 0) v1) := by rw [hv1]; exact At.ext (At.n2 (by rfl)) (Ext.refl _)
  have k2 : Hid (Bx 3 (w.heap.size + 1 + 1) v1) := by rw [hv1]; exact Bx.gr (Bx.n2 3 ⟨rfl, by decide⟩ (by decide) noI_s3) (Ext.gr (Ext.refl _))
  have u2 : Hid (w.heap.size + 1 + 1 < v1.heap.size) := b2_0.out.2
  have e1_ : Ext w v1 := y1
  rw [← hv1]
  clear hv1
  have hkeep1 : AllAt' ([(w.heap.size, 0, .bool ba), (w.heap.size, 1, .slice pa qa ra), (w.heap.size, 2, .slice pa' qa' ra'), (w.heap.size + 1, 0, .bool bb), (w.heap.size + 1, 1, .slice pb qb rb), (w.heap.size + 1, 2, .slice pb' qb' rb')] : List (Nat × Nat × Value)) v1 := AllAt'.cons b0_0.out (AllAt'.cons b0_1.out (AllAt'.cons b0_2.out (AllAt'.cons b1_0.out (AllAt'.cons b1_1.out (AllAt'.cons b1_2.out (AllAt'.nil _))))))
  have hob1 : ObOk w.heap.size v1 (([(w.heap.size, 0, .bool ba), (w.heap.size, 1, .slice pa qa ra), (w.heap.size, 2, .slice pa' qa' ra'), (w.heap.size + 1, 0, .bool bb), (w.heap.size + 1, 1, .slice pb qb rb), (w.heap.size + 1, 2, .slice pb' qb' rb')] : List (Nat × Nat × Value)).map (·.1)) ([(w.heap.size + 1 + 1, [(0, .bool false), (1, .slice none 0 0), (2, .slice none 0 0)])] : List (Nat × List (Nat × Value))) := ⟨⟨(by omega), b2_0.out.2, ⟨b2_0.out, ⟨b2_1.out, ⟨b2_2.out, trivial⟩⟩⟩, ⟨(by (try dsimp only); omega), ⟨(by (try dsimp only); omega), ⟨(by (try dsimp only); omega), ⟨(by (try dsimp only); omega), ⟨(by (try dsimp only); omega), ⟨(by (try dsimp only); omega), trivial⟩⟩⟩⟩⟩⟩⟩, trivial⟩
  have hne1 : AllNe (([(w.heap.size + 1 + 1, [(0, .bool false), (1, .slice none 0 0), (2, .slice none 0 0)])] : List (Nat × List (Nat × Value))).map (·.1)) := ⟨trivial, trivial⟩
  (try simp only [List.append_eq, List.cons_append, List.nil_append])
  refine wp_region_gen ⟨[5, 6, 7, 8], fun i => false, fun i => ([none, none, none, none, some (.old 0, 3)] : List (Option (BoxRef × Nat))).getD i none, fun i => ([Sg.val (.agg #[.bool ba, .slice pa qa ra, .slice pa' qa' ra']), Sg.val (.agg #[.bool bb, .slice pb qb rb, .slice pb' qb' rb']), Sg.ratO w.heap.size (-b), Sg.ratO w.heap.size (a + (-b)), Sg.any] : List Sg).getD i Sg.any, [(w.heap.size, 0, .bool ba), (w.heap.size, 1, .slice pa qa ra), (w.heap.size, 2, .slice pa' qa' ra'), (w.heap.size + 1, 0, .bool bb), (w.heap.size + 1, 1, .slice pb qb rb), (w.heap.size + 1, 2, .slice pb' qb' rb')], [(w.heap.size + 1 + 1, [(0, .bool false), (1, .slice none 0 0), (2, .slice none 0 0)])]⟩ w.heap.size (by kernel_rfl) (by kernel_rfl) e1_.size ?hfr hkeep1 hob1 hne1 ?hs ?he
  case hfr =>
    intro i v wk hi hst hv
    exact absurd hi (by simp)
  case hs =>
    refine ⟨?_, ?_, ?_, ?_, ?_, trivial⟩
    · refine RStep.op rfl rfl (fun ac wk hp K hK => ?_)
      have t2_ : ac.tmps[2]?.getD undef = .pointer (some ⟨w.heap.size, 0, none⟩) := hp.slot 2 rfl rfl
      have c0_ := hp.cell 0 rfl
      have c1_ := hp.cell 1 rfl
      have c2_ := hp.cell 2 rfl
      have HP := Lib.hid hp
      clear hp
      go_simp
      refine hK.out _ _ ?_ (Ext.refl _) (fun h => absurd h (by simp))
      exact rfl
    · refine RStep.op rfl rfl (fun ac wk hp K hK => ?_)
      have t3_ : ac.tmps[3]?.getD undef = .pointer (some ⟨w.heap.size + 1, 0, none⟩) := hp.slot 3 rfl rfl
      have c0_ := hp.cell 3 rfl
      have c1_ := hp.cell 4 rfl
      have c2_ := hp.cell 5 rfl
      have HP := Lib.hid hp
      clear hp
      go_simp
      refine hK.out _ _ ?_ (Ext.refl _) (fun h => absurd h (by simp))
      exact rfl
    · refine RStep.op rfl rfl (fun ac wk hp K hK => ?_)
      have u1e := hp.get 1 (by decide +kernel) rfl
      have t6_ : ac.tmps[6]?.getD undef = .agg #[.bool bb, .slice pb qb rb, .slice pb' qb' rb'] := slot_is' u1e
      have HP := Lib.hid hp
      clear hp
      go_simp
      refine (rneg_is (hb.gr (y1.gr.trans HP.out.gr)) (by have h1 := HK.out; omega)).mono ?_
      rintro e wk' ⟨sb1, sv1, su1, sm1, sd1, rfl, e1, o1, ix⟩
      obtain ⟨sp1, sl1, sc1, tp1, tl1, tc1, rfl, rfl⟩ := e1.slice
      refine hK.out _ _ ?_ ix (fun h => absurd h (by simp))
      exact ⟨_, _, _, _, _, _, _, _, _, rfl, e1, (o1.mono (Nat.le_trans e1_.size HP.out.gr.size))⟩
    · refine RStep.op rfl rfl (fun ac wk hp K hK => ?_)
      have u0e := hp.get 0 (by decide +kernel) rfl
      have t5_ : ac.tmps[5]?.getD undef = .agg #[.bool ba, .slice pa qa ra, .slice pa' qa' ra'] := slot_is' u0e
      obtain ⟨u2b, u2p, u2n, u2c, u2q, u2k, u2d, u2m, u2l, u2e, u2i, u2o⟩ := hp.get 2 (by decide +kernel) rfl
      have t7_ : ac.tmps[7]?.getD undef = .agg #[.bool u2b, .slice u2p u2n u2c, .slice u2q u2k u2d] := slot_is' u2e
      have HP := Lib.hid hp
      clear hp
      go_simp
      refine (radd_is (ha.gr (y1.gr.trans HP.out.gr)) (u2i.inR (k := l) (LenR.neg (InR.len hb))) (by have h1 := HK.out; omega)).mono ?_
      rintro e wk' ⟨sb2, sv2, su2, sm2, sd2, rfl, e2, o2, ix⟩
      obtain ⟨sp2, sl2, sc2, tp2, tl2, tc2, rfl, rfl⟩ := e2.slice
      refine hK.out _ _ ?_ ix (fun h => absurd h (by simp))
      exact ⟨_, _, _, _, _, _, _, _, _, rfl, e2, (o2.mono (Nat.le_trans e1_.size HP.out.gr.size))⟩
    · refine RStep.so 0 3 (w.heap.size + 1 + 1) rfl rfl rfl (fun ac wk hp => ?_)
      have t4_ : ac.tmps[4]?.getD undef = .pointer (some ⟨w.heap.size + 1 + 1, 0, none⟩) := hp.slot 4 rfl rfl
      obtain ⟨u3b, u3p, u3n, u3c, u3q, u3k, u3d, u3m, u3l, u3e, u3i, u3o⟩ := hp.get 3 (by decide +kernel) rfl
      have t8_ : ac.tmps[8]?.getD undef = .agg #[.bool u3b, .slice u3p u3n u3c, .slice u3q u3k u3d] := slot_is' u3e
      obtain ⟨d0, hd0, -⟩ := Bx.cell (k2.out.gr hp.gr) (o := 0) (by decide)
      have fz0 := Bx.free (k2.out.gr hp.gr) 0
      obtain ⟨d1, hd1, -⟩ := Bx.cell (k2.out.gr hp.gr) (o := 1) (by decide)
      have fz1 := Bx.free (k2.out.gr hp.gr) 1
      obtain ⟨d2, hd2, -⟩ := Bx.cell (k2.out.gr hp.gr) (o := 2) (by decide)
      have fz2 := Bx.free (k2.out.gr hp.gr) 2
      refine ⟨3, [.bool u3b, .slice u3p u3n u3c, .slice u3q u3k u3d], (k2.out.gr hp.gr), by rw [u3e]; rfl, rfl, noI_s3, fun K hK => ?_⟩
      have HK := Lib.hid hK
      clear hK hp
      go_simp
      exact HK.out
  case he =>
    intro ac v2 hM
    have y1_0e := hM.post 0 rfl rfl
    have y1_1e := hM.post 1 rfl rfl
    obtain ⟨y1_2b, y1_2p, y1_2n, y1_2c, y1_2q, y1_2k, y1_2d, y1_2m, y1_2l, y1_2e, y1_2i, y1_2o⟩ := hM.post 2 rfl rfl
    obtain ⟨y1_3b, y1_3p, y1_3n, y1_3c, y1_3q, y1_3k, y1_3d, y1_3m, y1_3l, y1_3e, y1_3i, y1_3o⟩ := hM.post 3 rfl rfl
    have b2_0 : Hid (At (w.heap.size + 1 + 1) 0 (.bool y1_3b) v2) := Lib.hid (hM.boxOld 4 0 3 rfl rfl rfl (cs := [.bool y1_3b, .slice y1_3p y1_3n y1_3c, .slice y1_3q y1_3k y1_3d]) (by rw [y1_3e]; rfl) 0 _ rfl)
    have b2_1 : Hid (At (w.heap.size + 1 + 1) 1 (.slice y1_3p y1_3n y1_3c) v2) := Lib.hid (hM.boxOld 4 0 3 rfl rfl rfl (cs := [.bool y1_3b, .slice y1_3p y1_3n y1_3c, .slice y1_3q y1_3k y1_3d]) (by rw [y1_3e]; rfl) 1 _ rfl)
    have b2_2 : Hid (At (w.heap.size + 1 + 1) 2 (.slice y1_3q y1_3k y1_3d) v2) := Lib.hid (hM.boxOld 4 0 3 rfl rfl rfl (cs := [.bool y1_3b, .slice y1_3p y1_3n y1_3c, .slice y1_3q y1_3k y1_3d]) (by rw [y1_3e]; rfl) 2 _ rfl)
    have b0_0 : Hid (At (w.heap.size) 0 (.bool ba) v2) := Lib.hid (hM.keep.at 0 rfl)
    have b0_1 : Hid (At (w.heap.size) 1 (.slice pa qa ra) v2) := Lib.hid (hM.keep.at 1 rfl)
    have b0_2 : Hid (At (w.heap.size) 2 (.slice pa' qa' ra') v2) := Lib.hid (hM.keep.at 2 rfl)
    have b1_0 : Hid (At (w.heap.size + 1) 0 (.bool bb) v2) := Lib.hid (hM.keep.at 3 rfl)
    have b1_1 : Hid (At (w.heap.size + 1) 1 (.slice pb qb rb) v2) := Lib.hid (hM.keep.at 4 rfl)
    have b1_2 : Hid (At (w.heap.size + 1) 2 (.slice pb' qb' rb') v2) := Lib.hid (hM.keep.at 5 rfl)
    have gv2 : Gr v1 v2 := hM.gr
    have e2_ : Ext w v2 := Ext.below e1_ hM.blw
    have z0_ : sl ac 5 = .agg #[.bool ba, .slice pa qa ra, .slice pa' qa' ra'] := y1_0e
    have z1_ : sl ac 6 = .agg #[.bool bb, .slice pb qb rb, .slice pb' qb' rb'] := y1_1e
    have z2_ : sl ac 7 = .agg #[.bool y1_2b, .slice y1_2p y1_2n y1_2c, .slice y1_2q y1_2k y1_2d] := y1_2e
    have z3_ : sl ac 8 = .agg #[.bool y1_3b, .slice y1_3p y1_3n y1_3c, .slice y1_3q y1_3k y1_3d] := y1_3e
    rw [hM.ag.lay]
    simp only [lay, List.foldl_cons, List.foldl_nil, List.setIfInBounds_toArray, List.set_cons_zero, List.set_cons_succ, z0_, z1_, z2_, z3_]
    clear hM hkeep1 hob1 hne1 z0_ z1_ z2_ z3_ y1_0e y1_1e y1_2e y1_3e
    go_wp2_with fail
    have c0 := b2_0.out.1
    have c1 := b2_1.out.1
    have c2 := b2_2.out.1
    refine bodyPost_ret (v := .agg #[.bool y1_3b, .slice y1_3p y1_3n y1_3c, .slice y1_3q y1_3k y1_3d]) (by simp [results, Tryz.results48, go_sem, c0, c1, c2]) rfl ?_
    exact ⟨_, _, _, _, _, rfl, y1_3i, (y1_3o), e2_⟩

theorem quo_sg {a b : Rat} {s t : Bool} (h1 : decide (a.num < 0) = s) (h2 : decide (b.num < 0) = t) (hb : b ≠ 0) : mkRat (sgI (s != t) (a.num.natAbs * b.den)) (a.den * b.num.natAbs) = a / b := by
  rw [← quo_mk]
  congr 1
  have hn : b.num ≠ 0 := fun h => hb (Rat.num_eq_zero.1 h)
  have e : ∀ x : Int, (0 ≤ x ∧ (x.natAbs : Int) = x) ∨ (x < 0 ∧ (x.natAbs : Int) = -x) := fun x => by omega
  subst h1 h2
  rcases e a.num with ⟨a1, a2⟩ | ⟨a1, a2⟩ <;> rcases Int.lt_or_gt_of_ne hn with c1 | c1
  · rw [Int.sign_eq_neg_one_of_neg c1]; simp [sgI, Int.not_lt.2 a1, c1, a2, Int.mul_neg_one]
  · rw [Int.sign_eq_one_of_pos c1]; simp [sgI, Int.not_lt.2 a1, Int.not_lt.2 (Int.le_of_lt c1), a2]
  · rw [Int.sign_eq_neg_one_of_neg c1]; simp [sgI, a1, c1, a2, Int.mul_neg_one, Int.neg_mul]
  · rw [Int.sign_eq_one_of_pos c1]; simp [sgI, a1, Int.not_lt.2 (Int.le_of_lt c1), a2, Int.neg_mul]

theorem nshl_n {w : World} {v : Value} {k m : Nat} (h : InN w v k m) (n : Int) (hk : k ≤ 65535) (hn : 0 ≤ n ∧ n ≤ 65536) : Calls Tryz.prog 90 #[v, .int .i64 n] w fun e w' => ∃ r, e = .returned (.tuple #[r, .int .i64 0]) ∧ OwnL w.heap.size w' r (dig (m * 2 ^ n.toNat)) ∧ Ext w w' := by
  obtain ⟨A, h1, rfl, h3⟩ := h
  refine (shl_calls h1 (by omega) n).mono ?_
  rintro e w' ⟨r, he, hr, hx⟩
  refine ⟨r, by rw [he, if_pos hn], by rw [if_pos hn] at hr; exact hr, hx⟩
theorem nshl_bad {w : World} {v : Value} {k m : Nat} (h : InN w v k m) (n : Int) (hk : k ≤ 65535) (hn : ¬ (0 ≤ n ∧ n ≤ 65536)) : Calls Tryz.prog 90 #[v, .int .i64 n] w fun e w' => ∃ r, e = .returned (.tuple #[r, .int .i64 1]) ∧ OwnL w.heap.size w' r (dig 0) ∧ Ext w w' := by
  obtain ⟨A, h1, rfl, h3⟩ := h
  refine (shl_calls h1 (by omega) n).mono ?_
  rintro e w' ⟨r, he, hr, hx⟩
  exact ⟨r, by rw [he, if_neg hn], by rw [if_neg hn] at hr; exact hr, hx⟩

end Go.Proofs.YtkfioaoooodmnaaGreatDoor

/- The contracts of rat.equal, rat.Same, rat.May, and of tombolaref06.Is. -/
namespace Go.Proofs.YtkfioaoooodmnaaGreatDoor
open Go Go.RowKit

theorem val_inj {A B : List Nat} (hA : ∀ x ∈ A, x < Bs) (hB : ∀ x ∈ B, x < Bs) (hl : A.length = B.length) (h : val A = val B) : A = B := by
  refine List.ext_getElem hl fun i h1 h2 => ?_
  have e1 := el_val hA i
  have e2 := el_val hB i
  rw [el_of_lt h1] at e1
  rw [el_of_lt h2] at e2
  rw [e1, e2, h]
theorem same_bool {w : World} {v u : Value} {A B : List Nat} (hA : Limbs w v A) (hB : Limbs w u B) (b : Bool) (hb : decide (A = B) = b) :
    Calls Tryz.prog 54 #[v, u] w fun e w' => e = .returned (.bool b) ∧ Ext w w' := by
  subst hb; exact same_calls hA hB

set_option maxHeartbeats 1000000 in
theorem equal_is {w : World} {v u : Value} {A B : List Nat} (hA : Limbs w v A) (hB : Limbs w u B) (hlA : A.length ≤ 65535) (hlB : B.length ≤ 65535) (b : Bool) (hb : decide (A = B) = b) :
    Calls Tryz.prog 71 #[v, u] w fun e w' => e = .returned (.bool b) ∧ Ext w w' := by
  obtain ⟨pa, qa, rfl, -, -, -⟩ := hA.open
  obtain ⟨pb, qb, rfl, -, -, -⟩ := hB.open
  have H1 := Lib.hid (lmax_17 hlA)
  have H2 := Lib.hid (lmax_17 hlB)
  by_cases hl : A.length = B.length
  · have hl' : ((A.length : Int) == (B.length : Int)) = true := by simp [hl]
    obtain ⟨k, hk⟩ : ∃ k, cmpN (val A) (val B) = k := ⟨_, rfl⟩
    obtain ⟨c, hc⟩ : ∃ c, ((k : Int) == 0) = c := ⟨_, rfl⟩
    have HB : Hid (c = b) := by
      show _ = _
      rw [← hc, ← hb, ← hk, Bool.eq_iff_iff, beq_iff_eq, decide_eq_true_eq]
      constructor
      · intro h
        refine val_inj hA.2 hB.2 hl ?_
        unfold cmpN at h
        split at h; · omega
        split at h; · omega
        omega
      · rintro rfl; exact cmpN_eq rfl
    have HK := Lib.hid hk
    have HC := Lib.hid hc
    have HL := Lib.hid hl
    clear hlA hlB hb hk hl hc
    go_enter Tryz.func71, Tryz.ntmps71
    go_wp2_with fail
    refine (cmp_int hA hB H1.out H2.out k HK.out).mono ?_
    rintro e w1 ⟨rfl, rfl⟩
    go_wp2_with fail
    all_goals (go_ret; refine ⟨?_, Ext.refl _⟩)
    all_goals (rw [← HB.out, ← HC.out]; try rfl)
    all_goals (try simp [*])
  · have hl' : ((A.length : Int) == (B.length : Int)) = false := by rw [beq_eq_false_iff_ne]; omega
    have HB : Hid (false = b) := by
      show _ = _
      rw [← hb, eq_comm, decide_eq_false_iff_not]
      rintro rfl; exact hl rfl
    clear hlA hlB hb hl
    go_enter Tryz.func71, Tryz.ntmps71
    go_wp2_with fail
    go_ret
    exact ⟨by rw [HB.out]; rfl, Ext.refl _⟩

set_option maxHeartbeats 4000000 in
set_option maxRecDepth 100000 in
theorem is_raw {w : World} {v1 u1 v2 u2 : Value} {A1 B1 A2 B2 : List Nat} (h1 : Limbs w v1 A1) (g1 : Limbs w u1 B1) (h2 : Limbs w v2 A2) (g2 : Limbs w u2 B2) (b1 b2 : Bool) (c : Bool) (hc : decide (b1 = b2 ∧ A1 = A2 ∧ B1 = B2) = c) :
    Calls Tryz.prog 20 #[.agg #[.bool b1, v1, u1], .agg #[.bool b2, v2, u2]] w fun e w' => e = .returned (.bool c) ∧ Ext w w' := by
  obtain ⟨p1, q1, rfl, -, -, -⟩ := h1.open
  obtain ⟨p1', q1', rfl, -, -, -⟩ := g1.open
  obtain ⟨p2, q2, rfl, -, -, -⟩ := h2.open
  obtain ⟨p2', q2', rfl, -, -, -⟩ := g2.open
  by_cases hb : b1 = b2
  case neg =>
    obtain rfl : c = false := by rw [← hc]; simp [hb]
    have hb' : (b1 == b2) = false := by simpa using hb
    clear hb hc
    go_enter Tryz.func20, Tryz.ntmps20
    go_wp2_with fail
    obtain ⟨v1, hv1⟩ : ∃ W, W = ((w.alloc (.cells #[.bool b1, .slice p1 A1.length q1, .slice p1' B1.length q1'] 37)).alloc (.cells #[.bool b2, .slice p2 A2.length q2, .slice p2' B2.length q2'] 37)) := ⟨_, rfl⟩
    have y1 : Ext w v1 := by rw [hv1]; exact (((Ext.refl _).alloc _).alloc _)
    have b0_0 : Hid (At (w.heap.size) 0 (.bool b1) v1) := by rw [hv1]; exact At.ext (At.n0 (by rfl)) ((Ext.refl _).alloc _)
    have b0_1 : Hid (At (w.heap.size) 1 (.slice p1 A1.length q1) v1) := by rw [hv1]; exact At.ext (At.n0 (by rfl)) ((Ext.refl _).alloc _)
    have b0_2 : Hid (At (w.heap.size) 2 (.slice p1' B1.length q1') v1) := by rw [hv1]; exact At.ext (At.n0 (by rfl)) ((Ext.refl _).alloc _)
    have k0 : Hid (Bx 3 (w.heap.size) v1) := by rw [hv1]; exact Bx.gr (Bx.n0 3 ⟨rfl, by decide⟩ (by decide) noI_s3) (Ext.gr ((Ext.refl _).alloc _))
    have u0 : Hid (w.heap.size < v1.heap.size) := b0_0.out.2
    have b1_0 : Hid (At (w.heap.size + 1) 0 (.bool b2) v1) := by rw [hv1]; exact At.ext (At.n1 (by rfl)) (Ext.refl _)
    have b1_1 : Hid (At (w.heap.size + 1) 1 (.slice p2 A2.length q2) v1) := by rw [hv1]; exact At.ext (At.n1 (by rfl)) (Ext.refl _)
    have b1_2 : Hid (At (w.heap.size + 1) 2 (.slice p2' B2.length q2') v1) := by rw [hv1]; exact At.ext (At.n1 (by rfl)) (Ext.refl _)
    have k1 : Hid (Bx 3 (w.heap.size + 1) v1) := by rw [hv1]; exact Bx.gr (Bx.n1 3 ⟨rfl, by decide⟩ (by decide) noI_s3) (Ext.gr (Ext.refl _))
    have u1 : Hid (w.heap.size + 1 < v1.heap.size) := b1_0.out.2
    have e1_ : Ext w v1 := y1
    rw [← hv1]
    clear hv1
    go_ret
    exact ⟨rfl, e1_⟩
  subst hb
  by_cases ha : A1 = A2
  case neg =>
    obtain rfl : c = false := by rw [← hc]; simp [ha]
    have HA : Hid (decide (A1 = A2) = false) := decide_eq_false ha
    clear ha hc
    go_enter Tryz.func20, Tryz.ntmps20
    go_wp2_with fail
    obtain ⟨v1, hv1⟩ : ∃ W, W = ((w.alloc (.cells #[.bool b1, .slice p1 A1.length q1, .slice p1' B1.length q1'] 37)).alloc (.cells #[.bool b1, .slice p2 A2.length q2, .slice p2' B2.length q2'] 37)) := ⟨_, rfl⟩
    have y1 : Ext w v1 := by rw [hv1]; exact (((Ext.refl _).alloc _).alloc _)
    have b0_0 : Hid (At (w.heap.size) 0 (.bool b1) v1) := by rw [hv1]; exact At.ext (At.n0 (by rfl)) ((Ext.refl _).alloc _)
    have b0_1 : Hid (At (w.heap.size) 1 (.slice p1 A1.length q1) v1) := by rw [hv1]; exact At.ext (At.n0 (by rfl)) ((Ext.refl _).alloc _)
    have b0_2 : Hid (At (w.heap.size) 2 (.slice p1' B1.length q1') v1) := by rw [hv1]; exact At.ext (At.n0 (by rfl)) ((Ext.refl _).alloc _)
    have k0 : Hid (Bx 3 (w.heap.size) v1) := by rw [hv1]; exact Bx.gr (Bx.n0 3 ⟨rfl, by decide⟩ (by decide) noI_s3) (Ext.gr ((Ext.refl _).alloc _))
    have u0 : Hid (w.heap.size < v1.heap.size) := b0_0.out.2
    have b1_0 : Hid (At (w.heap.size + 1) 0 (.bool b1) v1) := by rw [hv1]; exact At.ext (At.n1 (by rfl)) (Ext.refl _)
    have b1_1 : Hid (At (w.heap.size + 1) 1 (.slice p2 A2.length q2) v1) := by rw [hv1]; exact At.ext (At.n1 (by rfl)) (Ext.refl _)
    have b1_2 : Hid (At (w.heap.size + 1) 2 (.slice p2' B2.length q2') v1) := by rw [hv1]; exact At.ext (At.n1 (by rfl)) (Ext.refl _)
    have k1 : Hid (Bx 3 (w.heap.size + 1) v1) := by rw [hv1]; exact Bx.gr (Bx.n1 3 ⟨rfl, by decide⟩ (by decide) noI_s3) (Ext.gr (Ext.refl _))
    have u1 : Hid (w.heap.size + 1 < v1.heap.size) := b1_0.out.2
    have e1_ : Ext w v1 := y1
    rw [← hv1]
    clear hv1
    refine (same_bool (h1.ext y1) (h2.ext y1) false HA.out).mono ?_
    rintro e w2 ⟨rfl, x2⟩
    have e2_ : Ext w w2 := Ext.trans e1_ x2
    go_wp2_with fail
    go_ret
    exact ⟨rfl, e2_⟩
  have HA : Hid (decide (A1 = A2) = true) := decide_eq_true ha
  by_cases hd : B1 = B2
  case neg =>
    obtain rfl : c = false := by rw [← hc]; simp [hd]
    have HB : Hid (decide (B1 = B2) = false) := decide_eq_false hd
    clear ha hd hc
    go_enter Tryz.func20, Tryz.ntmps20
    go_wp2_with fail
    obtain ⟨v1, hv1⟩ : ∃ W, W = ((w.alloc (.cells #[.bool b1, .slice p1 A1.length q1, .slice p1' B1.length q1'] 37)).alloc (.cells #[.bool b1, .slice p2 A2.length q2, .slice p2' B2.length q2'] 37)) := ⟨_, rfl⟩
    have y1 : Ext w v1 := by rw [hv1]; exact (((Ext.refl _).alloc _).alloc _)
    have b0_0 : Hid (At (w.heap.size) 0 (.bool b1) v1) := by rw [hv1]; exact At.ext (At.n0 (by rfl)) ((Ext.refl _).alloc _)
    have b0_1 : Hid (At (w.heap.size) 1 (.slice p1 A1.length q1) v1) := by rw [hv1]; exact At.ext (At.n0 (by rfl)) ((Ext.refl _).alloc _)
    have b0_2 : Hid (At (w.heap.size) 2 (.slice p1' B1.length q1') v1) := by rw [hv1]; exact At.ext (At.n0 (by rfl)) ((Ext.refl _).alloc _)
    have k0 : Hid (Bx 3 (w.heap.size) v1) := by rw [hv1]; exact Bx.gr (Bx.n0 3 ⟨rfl, by decide⟩ (by decide) noI_s3) (Ext.gr ((Ext.refl _).alloc _))
    have u0 : Hid (w.heap.size < v1.heap.size) := b0_0.out.2
    have b1_0 : Hid (At (w.heap.size + 1) 0 (.bool b1) v1) := by rw [hv1]; exact At.ext (At.n1 (by rfl)) (Ext.refl _)
    have b1_1 : Hid (At (w.heap.size + 1) 1 (.slice p2 A2.length q2) v1) := by rw [hv1]; exact At.ext (At.n1 (by rfl)) (Ext.refl _)
    have b1_2 : Hid (At (w.heap.size + 1) 2 (.slice p2' B2.length q2') v1) := by rw [hv1]; exact At.ext (At.n1 (by rfl)) (Ext.refl _)
    have k1 : Hid (Bx 3 (w.heap.size + 1) v1) := by rw [hv1]; exact Bx.gr (Bx.n1 3 ⟨rfl, by decide⟩ (by decide) noI_s3) (Ext.gr (Ext.refl _))
    have u1 : Hid (w.heap.size + 1 < v1.heap.size) := b1_0.out.2
    have e1_ : Ext w v1 := y1
    rw [← hv1]
    clear hv1
    refine (same_bool (h1.ext y1) (h2.ext y1) true HA.out).mono ?_
    rintro e w2 ⟨rfl, x2⟩
    have e2_ : Ext w w2 := Ext.trans e1_ x2
    have g0_2 := (b0_2.out.ext x2).1
    have g1_2 := (b1_2.out.ext x2).1
    have f0 : w.heap.size < w2.heap.size := (b0_0.out.ext x2).2
    have f1 : w.heap.size + 1 < w2.heap.size := (b1_0.out.ext x2).2
    go_wp2_with fail
    refine (same_bool (g1.ext (y1.trans x2)) (g2.ext (y1.trans x2)) false HB.out).mono ?_
    rintro e w3 ⟨rfl, x3⟩
    have e3_ : Ext w w3 := Ext.trans e2_ x3
    clear g0_2 g1_2 f0 f1
    go_wp2_with fail
    go_ret
    exact ⟨rfl, e3_⟩
  case pos =>
    obtain rfl : c = true := by rw [← hc]; simp [ha, hd]
    have HB : Hid (decide (B1 = B2) = true) := decide_eq_true hd
    clear ha hd hc
    go_enter Tryz.func20, Tryz.ntmps20
    go_wp2_with fail
    obtain ⟨v1, hv1⟩ : ∃ W, W = ((w.alloc (.cells #[.bool b1, .slice p1 A1.length q1, .slice p1' B1.length q1'] 37)).alloc (.cells #[.bool b1, .slice p2 A2.length q2, .slice p2' B2.length q2'] 37)) := ⟨_, rfl⟩
    have y1 : Ext w v1 := by rw [hv1]; exact (((Ext.refl _).alloc _).alloc _)
    have b0_0 : Hid (At (w.heap.size) 0 (.bool b1) v1) := by rw [hv1]; exact At.ext (At.n0 (by rfl)) ((Ext.refl _).alloc _)
    have b0_1 : Hid (At (w.heap.size) 1 (.slice p1 A1.length q1) v1) := by rw [hv1]; exact At.ext (At.n0 (by rfl)) ((Ext.refl _).alloc _)
    have b0_2 : Hid (At (w.heap.size) 2 (.slice p1' B1.length q1') v1) := by rw [hv1]; exact At.ext (At.n0 (by rfl)) ((Ext.refl _).alloc _)
    have k0 : Hid (Bx 3 (w.heap.size) v1) := by rw [hv1]; exact Bx.gr (Bx.n0 3 ⟨rfl, by decide⟩ (by decide) noI_s3) (Ext.gr ((Ext.refl _).alloc _))
    have u0 : Hid (w.heap.size < v1.heap.size) := b0_0.out.2
    have b1_0 : Hid (At (w.heap.size + 1) 0 (.bool b1) v1) := by rw [hv1]; exact At.ext (At.n1 (by rfl)) (Ext.refl _)
    have b1_1 : Hid (At (w.heap.size + 1) 1 (.slice p2 A2.length q2) v1) := by rw [hv1]; exact At.ext (At.n1 (by rfl)) (Ext.refl _)
    have b1_2 : Hid (At (w.heap.size + 1) 2 (.slice p2' B2.length q2') v1) := by rw [hv1]; exact At.ext (At.n1 (by rfl)) (Ext.refl _)
    have k1 : Hid (Bx 3 (w.heap.size + 1) v1) := by rw [hv1]; exact Bx.gr (Bx.n1 3 ⟨rfl, by decide⟩ (by decide) noI_s3) (Ext.gr (Ext.refl _))
    have u1 : Hid (w.heap.size + 1 < v1.heap.size) := b1_0.out.2
    have e1_ : Ext w v1 := y1
    rw [← hv1]
    clear hv1
    refine (same_bool (h1.ext y1) (h2.ext y1) true HA.out).mono ?_
    rintro e w2 ⟨rfl, x2⟩
    have e2_ : Ext w w2 := Ext.trans e1_ x2
    have g0_2 := (b0_2.out.ext x2).1
    have g1_2 := (b1_2.out.ext x2).1
    have f0 : w.heap.size < w2.heap.size := (b0_0.out.ext x2).2
    have f1 : w.heap.size + 1 < w2.heap.size := (b1_0.out.ext x2).2
    go_wp2_with fail
    refine (same_bool (g1.ext (y1.trans x2)) (g2.ext (y1.trans x2)) true HB.out).mono ?_
    rintro e w3 ⟨rfl, x3⟩
    have e3_ : Ext w w3 := Ext.trans e2_ x3
    clear g0_2 g1_2 f0 f1
    go_wp2_with fail
    go_ret
    exact ⟨rfl, e3_⟩

theorem isR_eq {w w' : World} {b1 b2 : Bool} {v1 u1 v2 u2 : Value} {m1 d1 m2 d2 : Nat} {p q : Rat} (h : IsR w b1 v1 u1 m1 d1 p) (g : IsR w' b2 v2 u2 m2 d2 q) : decide (b1 = b2 ∧ dig m1 = dig m2 ∧ dig d1 = dig d2) = decide (p = q) := by
  rw [Bool.eq_iff_iff, decide_eq_true_eq, decide_eq_true_eq]
  constructor
  · rintro ⟨e1, e2, e3⟩
    have e2 : m1 = m2 := by rw [← val_dig m1, e2, val_dig]
    have e3 : d1 = d2 := by rw [← val_dig d1, e3, val_dig]
    have e4 : p.num < 0 ↔ q.num < 0 := by
      have := h.1.trans (e1.trans g.1.symm); simpa using this
    have e5 := h.2.1
    have e6 := g.2.1
    refine Rat.ext (by omega) ?_
    rw [h.2.2.1, g.2.2.1, e3]
  · rintro rfl
    refine ⟨h.1.symm.trans g.1, ?_, ?_⟩
    · rw [← h.2.1, ← g.2.1]
    · rw [← h.2.2.1, ← g.2.2.1]
/-- the reference's comparison, by the fractions -/
theorem is_is {w : World} {b1 b2 : Bool} {v1 u1 v2 u2 : Value} {m1 d1 m2 d2 : Nat} {p q : Rat} (h : IsR w b1 v1 u1 m1 d1 p) (g : IsR w b2 v2 u2 m2 d2 q) (c : Bool) (hc : decide (p = q) = c) :
    Calls Tryz.prog 20 #[.agg #[.bool b1, v1, u1], .agg #[.bool b2, v2, u2]] w fun e w' => e = .returned (.bool c) ∧ Ext w w' :=
  is_raw h.2.2.2.1 h.2.2.2.2 g.2.2.2.1 g.2.2.2.2 b1 b2 c ((isR_eq h g).trans hc)

set_option maxHeartbeats 4000000 in
set_option maxRecDepth 100000 in
theorem rsame_calls {w : World} {ba bb : Bool} {va ua vb ub : Value} {k l : Nat} {a b : Rat} (ha : InR w ba va ua k a) (hb : InR w bb vb ub l b) (hk : k + l ≤ 30000) (c : Bool) (hc : decide (a = b) = c) :
    Calls Tryz.prog 34 #[.agg #[.bool ba, va, ua], .agg #[.bool bb, vb, ub]] w fun e w' => e = .returned (.bool c) ∧ Ext w w' := by
  obtain ⟨s, hs⟩ : ∃ s, cmpR a b = s := ⟨_, rfl⟩
  have HC : Hid ((s == 0) = c) := by
    show _ = _
    rw [← hs, ← hc, Bool.eq_iff_iff, beq_iff_eq, decide_eq_true_eq, cmpR_eq]
  have HS := Lib.hid hs
  have HK := Lib.hid hk
  obtain ⟨pa, qa, ra, pa', qa', ra', rfl, rfl⟩ := ha.slice
  obtain ⟨pb, qb, rb, pb', qb', rb', rfl, rfl⟩ := hb.slice
  clear hs hc hk
  go_enter Tryz.func34, Tryz.ntmps34
  go_wp2_with fail
  obtain ⟨v1, hv1⟩ : ∃ W, W = ((w.alloc (.cells #[.bool ba, .slice pa qa ra, .slice pa' qa' ra'] 37)).alloc (.cells #[.bool bb, .slice pb qb rb, .slice pb' qb' rb'] 37)) := ⟨_, rfl⟩
  have y1 : Ext w v1 := by rw [hv1]; exact (((Ext.refl _).alloc _).alloc _)
  have b0_0 : Hid (At (w.heap.size) 0 (.bool ba) v1) := by rw [hv1]; exact At.ext (At.n0 (by rfl)) ((Ext.refl _).alloc _)
  have b0_1 : Hid (At (w.heap.size) 1 (.slice pa qa ra) v1) := by rw [hv1]; exact At.ext (At.n0 (by rfl)) ((Ext.refl _).alloc _)
  have b0_2 : Hid (At (w.heap.size) 2 (.slice pa' qa' ra') v1) := by rw [hv1]; exact At.ext (At.n0 (by rfl)) ((Ext.refl _).alloc _)
  have k0 : Hid (Bx 3 (w.heap.size) v1) := by rw [hv1]; exact Bx.gr (Bx.n0 3 ⟨rfl, by decide⟩ (by decide) noI_s3) (Ext.gr ((Ext.refl _).alloc _))
  have u0 : Hid (w.heap.size < v1.heap.size) := b0_0.out.2
  have b1_0 : Hid (At (w.heap.size + 1) 0 (.bool bb) v1) := by rw [hv1]; exact At.ext (At.n1 (by rfl)) (Ext.refl _)
  have b1_1 : Hid (At (w.heap.size + 1) 1 (.slice pb qb rb) v1) := by rw [hv1]; exact At.ext (At.n1 (by rfl)) (Ext.refl _)
  have b1_2 : Hid (At (w.heap.size + 1) 2 (.slice pb' qb' rb') v1) := by rw [hv1]; exact At.ext (At.n1 (by rfl)) (Ext.refl _)
  have k1 : Hid (Bx 3 (w.heap.size + 1) v1) := by rw [hv1]; exact Bx.gr (Bx.n1 3 ⟨rfl, by decide⟩ (by decide) noI_s3) (Ext.gr (Ext.refl _))
  have u1 : Hid (w.heap.size + 1 < v1.heap.size) := b1_0.out.2
  have e1_ : Ext w v1 := y1
  rw [← hv1]
  clear hv1
  refine (rcmp_is (ha.ext y1) (hb.ext y1) HK.out HS.out).mono ?_
  rintro e w2 ⟨rfl, x2⟩
  have e2_ : Ext w w2 := Ext.trans e1_ x2
  go_wp2_with fail
  go_ret
  refine ⟨?_, e2_⟩
  rw [← HC.out]; rfl

end Go.Proofs.YtkfioaoooodmnaaGreatDoor

/- The contract of strings.Cut at one byte; the texts of fractions. -/
namespace Go.Proofs.YtkfioaoooodmnaaGreatDoor
open Go Go.RowKit

set_option maxHeartbeats 1000000 in
set_option maxRecDepth 100000 in
theorem indexByte_calls (s : ByteArray) (c : Int) (w : World) :
    Calls Tryz.prog 196 #[.string s, .int .u8 c] w fun e w' => e = .returned (.int .i64 (Lib.indexByte s.data.toList c.toNat.toUInt8)) ∧ w = w' := by
  go_enter Tryz.func196, Tryz.ntmps196
  go_wp2
  rw [run_callFunc_extern Tryz.func197 (by kernel_rfl) (by kernel_rfl) (by kernel_rfl) (e := Extern.BytealgIndexByte.indexByte) (by kernel_rfl), Lib.run_indexByteString]
  simp only [Result.andThen]
  rw [Oper.upon_value]
  go_wp2
  go_ret
  exact ⟨rfl, rfl⟩
end Go.Proofs.YtkfioaoooodmnaaGreatDoor

/- The contract of quo.Pow. -/
namespace Go.Proofs.YtkfioaoooodmnaaGreatDoor
open Go Go.RowKit

theorem pow_lt_gen {m n K : Nat} (h : bl m * n < 64 * K) : m ^ n < Bs ^ K := by
  rw [Bs_eq, ← Nat.pow_mul]
  have h1 : m ^ n ≤ (2 ^ bl m) ^ n := Nat.pow_le_pow_left (Nat.le_of_lt (lt_bl m)) n
  rw [← Nat.pow_mul] at h1
  exact Nat.lt_of_le_of_lt h1 (Nat.pow_lt_pow_right (by decide) h)
theorem kp_ex : ∃ b : Nat, b = 16385 := ⟨_, rfl⟩
/-- how many limbs a power has at most -/
noncomputable def Kp : Nat := Classical.choose kp_ex
theorem Kp_def : Kp = 16385 := Classical.choose_spec kp_ex
theorem pow_lt_bs {m n : Nat} (h : bl m * n ≤ 1048576) : m ^ n < Bs ^ Kp := pow_lt_gen (by rw [Kp_def]; omega)
theorem pow_odd {a s N G : Nat} (h : a * s ^ N = G) (ho : N % 2 = 1) : a * s * (s * s) ^ (N / 2) = G := by
  rw [← h]
  conv => rhs; rw [show N = 1 + (N / 2 + N / 2) by omega, Nat.pow_add, Nat.pow_add, Nat.pow_one]
  rw [Nat.mul_pow, Nat.mul_assoc]
theorem pow_even {a s N G : Nat} (h : a * s ^ N = G) (ho : N % 2 = 0) : a * (s * s) ^ (N / 2) = G := by
  rw [← h]
  conv => rhs; rw [show N = N / 2 + N / 2 by omega, Nat.pow_add]
  rw [Nat.mul_pow]
theorem le_of_fac {a s N G : Nat} (h : a * s ^ N = G) (hs : 1 ≤ s) : a ≤ G := by
  rw [← h]; exact Nat.le_mul_of_pos_right _ (Nat.pow_pos hs)
theorem le_of_fac2 {a s N G : Nat} (h : a * s ^ N = G) (ha : 1 ≤ a) (hN : N ≠ 0) : s ≤ G := by
  rw [← h]
  refine Nat.le_trans ?_ (Nat.le_mul_of_pos_left _ ha)
  exact Nat.le_self_pow hN s
/-- the call returns n, and no error -/
def RetN0 (w : World) (n : Nat) (e : Ending) (w' : World) : Prop := ∃ v, e = .returned (.tuple #[v, .int .i64 0]) ∧ OwnL w.heap.size w' v (dig n) ∧ Ext w w'

end Go.Proofs.YtkfioaoooodmnaaGreatDoor
