/- The contracts of tombolaref06.plus, Add. -/
import Derived.Test.YtkfioaoooodmnaaGreatRefOver
namespace Go.Proofs.YtkfioaoooodmnaaGreat
open Go Go.RowKit

theorem nadd02 {w : World} {v u : Value} {k l x y : Nat} (h : InN w v k x) (g : InN w u l y) (hk : k + l ≤ 60000) : Calls Tryz.prog 30 #[v, u] w (RetN w (x + y)) := by
  obtain ⟨A, h1, rfl, h3⟩ := h
  obtain ⟨B, g1, rfl, g3⟩ := g
  exact refadd_calls h1 g1 (by omega) (by omega)
theorem nmul02 {w : World} {v u : Value} {k l x y : Nat} (h : InN w v k x) (g : InN w u l y) (hk : k + l ≤ 60000) : Calls Tryz.prog 51 #[v, u] w (RetN w (x * y)) := by
  obtain ⟨A, h1, rfl, h3⟩ := h
  obtain ⟨B, g1, rfl, g3⟩ := g
  exact refmul_calls h1 g1 (by omega) (by omega)
theorem ncmp02 {w : World} {v u : Value} {k l x y : Nat} (h : InN w v k x) (g : InN w u l y) (hk : k + l ≤ 60000) (s : Int) (hs : cmpN x y = s) : Calls Tryz.prog 83 #[v, u] w fun e w' => e = .returned (.int .i64 s) ∧ Ext w w' := by
  obtain ⟨A, h1, rfl, h3⟩ := h
  obtain ⟨B, g1, rfl, g3⟩ := g
  exact refcmp_int h1 g1 (by omega) (by omega) s hs
theorem nsub02 {w : World} {v u : Value} {k l x y : Nat} (h : InN w v k x) (g : InN w u l y) (hk : k + l ≤ 60000) (hle : y ≤ x) : Calls Tryz.prog 84 #[v, u] w fun e w' => ∃ r, e = .returned (.tuple #[r, .int .i64 0]) ∧ OwnL w.heap.size w' r (dig (x - y)) ∧ Ext w w' := by
  obtain ⟨A, h1, rfl, h3⟩ := h
  obtain ⟨B, g1, rfl, g3⟩ := g
  refine (refsub_calls h1 g1 (by omega) (by omega)).mono ?_
  rintro e w' ⟨r, h4, h5, h6⟩
  exact ⟨r, by rw [h4, if_neg (by omega)], h5, h6⟩
theorem lt_add {a b k l : Nat} (h1 : a < Bs ^ k) (h2 : b < Bs ^ l) : a + b < Bs ^ (max k l + 1) := by
  have e1 := Nat.lt_of_lt_of_le h1 (Nat.pow_le_pow_right Bs_pos (Nat.le_max_left k l))
  have e2 := Nat.lt_of_lt_of_le h2 (Nat.pow_le_pow_right Bs_pos (Nat.le_max_right k l))
  have e3 := Nat.mul_le_mul_left (Bs ^ max k l) two_le_Bs
  rw [Nat.pow_succ]
  generalize Bs ^ max k l * Bs = z at e3 ⊢
  generalize Bs ^ max k l = y at *
  omega
theorem lenI_by {x : Int} {d k : Nat} (h : x.natAbs * d < Bs ^ k) : LenI k (x * (d : Nat)) := by
  unfold LenI; rw [Int.natAbs_mul, Int.natAbs_natCast]; exact h
theorem isI_by {w : World} {v : Value} {b : Bool} {x : Int} {d : Nat} (hb : decide (x < 0) = b) (hd : d ≠ 0) (h : Limbs w v (dig (x.natAbs * d))) : IsI w b v (x.natAbs * d) (x * (d : Nat)) := by
  refine ⟨?_, by rw [Int.natAbs_mul, Int.natAbs_natCast], h⟩
  rw [← hb, decide_eq_decide]
  have hd' : (0 : Int) < (d : Nat) := by omega
  exact ⟨fun h => by
    rcases Int.lt_or_le x 0 with h1 | h1
    · exact h1
    · exact absurd h (Int.not_lt.2 (Int.mul_nonneg h1 (Int.le_of_lt hd'))), fun h => Int.mul_neg_of_neg_of_pos h hd'⟩

set_option maxHeartbeats 4000000 in
set_option maxRecDepth 100000 in
theorem plus06 {w : World} {b b' : Bool} {v u : Value} {k l : Nat} {x y : Int} (hx : InI w b v k x) (hy : InI w b' u l y) (hk : k + l ≤ 50000) :
    Calls Tryz.prog 54 #[.agg #[.bool b, v], .agg #[.bool b', u]] w (RetZ w (x + y)) := by
  obtain ⟨A, hA, rfl, hlA⟩ := hx
  obtain ⟨B, hB, rfl, hlB⟩ := hy
  obtain ⟨pa, qa, rfl, -, -, -⟩ := hA.open
  obtain ⟨pb, qb, rfl, -, -, -⟩ := hB.open
  have HLA := Lib.hid hlA
  have HLB := Lib.hid hlB
  have HK := Lib.hid hk
  clear hlA hlB hk
  by_cases hb : b = b'
  · subst hb
    have HZ : Hid (sgI b (val A + val B) = iv b A + iv b B) := by show _ = _; unfold sgI iv; cases b <;> simp <;> omega
    go_enter Tryz.func54, Tryz.ntmps54
    go_wp2_with fail
    obtain ⟨v1, hv1⟩ : ∃ W, W = (((w.alloc (.cells #[.bool b, .slice pa A.length qa] 25)).alloc (.cells #[.bool b, .slice pb B.length qb] 25)).alloc (.cells #[.bool false, .slice none 0 0] 25)) := ⟨_, rfl⟩
    have y1 : Ext w v1 := by rw [hv1]; exact ((((Ext.refl _).alloc _).alloc _).alloc _)
    have b0_0 : Hid (At (w.heap.size) 0 (.bool b) v1) := by rw [hv1]; exact At.ext (At.n0 (by rfl)) (((Ext.refl _).alloc _).alloc _)
    have b0_1 : Hid (At (w.heap.size) 1 (.slice pa A.length qa) v1) := by rw [hv1]; exact At.ext (At.n0 (by rfl)) (((Ext.refl _).alloc _).alloc _)
    have k0 : Hid (Bx 2 (w.heap.size) v1) := by rw [hv1]; exact Bx.gr (Bx.n0 2 ⟨rfl, by decide⟩ (by decide) noI_s2) (Ext.gr (((Ext.refl _).alloc _).alloc _))
    have u0 : Hid (w.heap.size < v1.heap.size) := b0_0.out.2
    have b1_0 : Hid (At (w.heap.size + 1) 0 (.bool b) v1) := by rw [hv1]; exact At.ext (At.n1 (by rfl)) ((Ext.refl _).alloc _)
    have b1_1 : Hid (At (w.heap.size + 1) 1 (.slice pb B.length qb) v1) := by rw [hv1]; exact At.ext (At.n1 (by rfl)) ((Ext.refl _).alloc _)
    have k1 : Hid (Bx 2 (w.heap.size + 1) v1) := by rw [hv1]; exact Bx.gr (Bx.n1 2 ⟨rfl, by decide⟩ (by decide) noI_s2) (Ext.gr ((Ext.refl _).alloc _))
    have u1 : Hid (w.heap.size + 1 < v1.heap.size) := b1_0.out.2
    have b2_0 : Hid (At (w.heap.size + 1 + 1) 0 (.bool false) v1) := by rw [hv1]; exact At.ext (At.n2 (by rfl)) (Ext.refl _)
    have b2_1 : Hid (At (w.heap.size + 1 + 1) 1 (.slice none 0 0) v1) := by rw [hv1]; exact At.ext (At.n2 (by rfl)) (Ext.refl _)
    have k2 : Hid (Bx 2 (w.heap.size + 1 + 1) v1) := by rw [hv1]; exact Bx.gr (Bx.n2 2 ⟨rfl, by decide⟩ (by decide) noI_s2) (Ext.gr (Ext.refl _))
    have u2 : Hid (w.heap.size + 1 + 1 < v1.heap.size) := b2_0.out.2
    have e1_ : Ext w v1 := y1
    rw [← hv1]
    clear hv1
    have hkeep1 : AllAt' ([(w.heap.size, 0, .bool b), (w.heap.size, 1, .slice pa A.length qa), (w.heap.size + 1, 0, .bool b), (w.heap.size + 1, 1, .slice pb B.length qb)] : List (Nat × Nat × Value)) v1 := AllAt'.cons b0_0.out (AllAt'.cons b0_1.out (AllAt'.cons b1_0.out (AllAt'.cons b1_1.out (AllAt'.nil _))))
    have hob1 : ObOk w.heap.size v1 (([(w.heap.size, 0, .bool b), (w.heap.size, 1, .slice pa A.length qa), (w.heap.size + 1, 0, .bool b), (w.heap.size + 1, 1, .slice pb B.length qb)] : List (Nat × Nat × Value)).map (·.1)) ([(w.heap.size + 1 + 1, [(0, .bool false), (1, .slice none 0 0)])] : List (Nat × List (Nat × Value))) := ⟨⟨(by omega), b2_0.out.2, ⟨b2_0.out, ⟨b2_1.out, trivial⟩⟩, ⟨(by (try dsimp only); omega), ⟨(by (try dsimp only); omega), ⟨(by (try dsimp only); omega), ⟨(by (try dsimp only); omega), trivial⟩⟩⟩⟩⟩, trivial⟩
    have hne1 : AllNe (([(w.heap.size + 1 + 1, [(0, .bool false), (1, .slice none 0 0)])] : List (Nat × List (Nat × Value))).map (·.1)) := ⟨trivial, trivial⟩
    (try simp only [List.append_eq, List.cons_append, List.nil_append])
    refine wp_region_gen ⟨[14, 15, 16, 17, 18, 19, 20, 21], fun i => false, fun i => ([none, none, none, none, none, none, none, none, some (.old 0, 7)] : List (Option (BoxRef × Nat))).getD i none, fun i => ([Sg.val (.pointer (some ⟨w.heap.size, 0, none⟩)), Sg.val (.bool b), Sg.val (.pointer (some ⟨w.heap.size, 1, none⟩)), Sg.val (.slice pa A.length qa), Sg.val (.pointer (some ⟨w.heap.size + 1, 1, none⟩)), Sg.val (.slice pb B.length qb), Sg.natO w.heap.size ((val A) + (val B)), Sg.intO w.heap.size (iv b A + iv b B), Sg.any] : List Sg).getD i Sg.any, [(w.heap.size, 0, .bool b), (w.heap.size, 1, .slice pa A.length qa), (w.heap.size + 1, 0, .bool b), (w.heap.size + 1, 1, .slice pb B.length qb)], [(w.heap.size + 1 + 1, [(0, .bool false), (1, .slice none 0 0)])]⟩ w.heap.size (by kernel_rfl) (by kernel_rfl) e1_.size ?hfr hkeep1 hob1 hne1 ?hs ?he
    case hfr =>
      intro i v wk hi hst hv
      exact absurd hi (by simp)
    case hs =>
      refine ⟨?_, ?_, ?_, ?_, ?_, ?_, ?_, ?_, ?_, trivial⟩
      · refine RStep.op rfl rfl (fun ac wk hp K hK => ?_)
        have t2_ : ac.tmps[2]?.getD undef = .pointer (some ⟨w.heap.size, 0, none⟩) := hp.slot 2 rfl rfl
        have HP := Lib.hid hp
        clear hp
        go_simp
        refine hK.out _ _ ?_ (Ext.refl _) (fun h => absurd h (by simp))
        exact rfl
      · refine RStep.op rfl rfl (fun ac wk hp K hK => ?_)
        have u0e := hp.get 0 (by decide +kernel) rfl
        have t14_ : ac.tmps[14]?.getD undef = .pointer (some ⟨w.heap.size, 0, none⟩) := slot_is' u0e
        have c0_ := hp.cell 0 rfl
        have HP := Lib.hid hp
        clear hp
        go_simp
        refine hK.out _ _ ?_ (Ext.refl _) (fun h => absurd h (by simp))
        exact rfl
      · refine RStep.op rfl rfl (fun ac wk hp K hK => ?_)
        have t2_ : ac.tmps[2]?.getD undef = .pointer (some ⟨w.heap.size, 0, none⟩) := hp.slot 2 rfl rfl
        have HP := Lib.hid hp
        clear hp
        go_simp
        refine hK.out _ _ ?_ (Ext.refl _) (fun h => absurd h (by simp))
        exact rfl
      · refine RStep.op rfl rfl (fun ac wk hp K hK => ?_)
        have u2e := hp.get 2 (by decide +kernel) rfl
        have t16_ : ac.tmps[16]?.getD undef = .pointer (some ⟨w.heap.size, 1, none⟩) := slot_is' u2e
        have c0_ := hp.cell 1 rfl
        have HP := Lib.hid hp
        clear hp
        go_simp
        refine hK.out _ _ ?_ (Ext.refl _) (fun h => absurd h (by simp))
        exact rfl
      · refine RStep.op rfl rfl (fun ac wk hp K hK => ?_)
        have t3_ : ac.tmps[3]?.getD undef = .pointer (some ⟨w.heap.size + 1, 0, none⟩) := hp.slot 3 rfl rfl
        have HP := Lib.hid hp
        clear hp
        go_simp
        refine hK.out _ _ ?_ (Ext.refl _) (fun h => absurd h (by simp))
        exact rfl
      · refine RStep.op rfl rfl (fun ac wk hp K hK => ?_)
        have u4e := hp.get 4 (by decide +kernel) rfl
        have t18_ : ac.tmps[18]?.getD undef = .pointer (some ⟨w.heap.size + 1, 1, none⟩) := slot_is' u4e
        have c0_ := hp.cell 3 rfl
        have HP := Lib.hid hp
        clear hp
        go_simp
        refine hK.out _ _ ?_ (Ext.refl _) (fun h => absurd h (by simp))
        exact rfl
      · refine RStep.op rfl rfl (fun ac wk hp K hK => ?_)
        have u3e := hp.get 3 (by decide +kernel) rfl
        have t17_ : ac.tmps[17]?.getD undef = .slice pa A.length qa := slot_is' u3e
        have u5e := hp.get 5 (by decide +kernel) rfl
        have t19_ : ac.tmps[19]?.getD undef = .slice pb B.length qb := slot_is' u5e
        have HP := Lib.hid hp
        clear hp
        go_simp
        refine (nadd02 ⟨_, (hA.gr (y1.gr.trans HP.out.gr)), rfl, HLA.out⟩ ⟨_, (hB.gr (y1.gr.trans HP.out.gr)), rfl, HLB.out⟩ (by have h1 := HK.out; omega)).mono ?_
        rintro e wk' ⟨sv1, rfl, o1, ix⟩
        obtain ⟨sp1, sl1, sc1, rfl⟩ := o1.slice'
        refine hK.out _ _ ?_ ix (fun h => absurd h (by simp))
        exact ⟨_, _, _, rfl, (o1.mono (Nat.le_trans e1_.size HP.out.gr.size))⟩
      · refine RStep.op rfl rfl (fun ac wk hp K hK => ?_)
        have u1e := hp.get 1 (by decide +kernel) rfl
        have t15_ : ac.tmps[15]?.getD undef = .bool b := slot_is' u1e
        obtain ⟨u6p, u6n, u6c, u6e, u6o⟩ := hp.get 6 (by decide +kernel) rfl
        have t20_ : ac.tmps[20]?.getD undef = .slice u6p u6n u6c := slot_is' u6e
        have HP := Lib.hid hp
        clear hp
        go_simp
        refine (sign06_n (Limbs.inN (k := (max k l + 1)) u6o.limbs (lt_add (lenN_raw hA HLA.out) (lenN_raw hB HLB.out))) b (by have h1 := HK.out; omega) HZ.out).mono ?_
        rintro e wk' ⟨sb2, sv2, sm2, rfl, e2, o2, ix⟩
        obtain ⟨sp2, sl2, sc2, rfl⟩ := e2.slice
        refine hK.out _ _ ?_ ix (fun h => absurd h (by simp))
        exact ⟨_, _, _, _, _, rfl, e2, (o2.mono (Nat.le_trans e1_.size HP.out.gr.size))⟩
      · refine RStep.so 0 7 (w.heap.size + 1 + 1) rfl rfl rfl (fun ac wk hp => ?_)
        have t4_ : ac.tmps[4]?.getD undef = .pointer (some ⟨w.heap.size + 1 + 1, 0, none⟩) := hp.slot 4 rfl rfl
        obtain ⟨u7b, u7p, u7n, u7c, u7m, u7e, u7i, u7o⟩ := hp.get 7 (by decide +kernel) rfl
        have t21_ : ac.tmps[21]?.getD undef = .agg #[.bool u7b, .slice u7p u7n u7c] := slot_is' u7e
        obtain ⟨d0, hd0, -⟩ := Bx.cell (k2.out.gr hp.gr) (o := 0) (by decide)
        have fz0 := Bx.free (k2.out.gr hp.gr) 0
        obtain ⟨d1, hd1, -⟩ := Bx.cell (k2.out.gr hp.gr) (o := 1) (by decide)
        have fz1 := Bx.free (k2.out.gr hp.gr) 1
        refine ⟨2, [.bool u7b, .slice u7p u7n u7c], (k2.out.gr hp.gr), by rw [u7e]; rfl, rfl, noI_s2, fun K hK => ?_⟩
        have HK := Lib.hid hK
        clear hK hp
        go_simp
        exact HK.out
    case he =>
      intro ac v2 hM
      have y1_0e := hM.post 0 rfl rfl
      have y1_1e := hM.post 1 rfl rfl
      have y1_2e := hM.post 2 rfl rfl
      have y1_3e := hM.post 3 rfl rfl
      have y1_4e := hM.post 4 rfl rfl
      have y1_5e := hM.post 5 rfl rfl
      obtain ⟨y1_6p, y1_6n, y1_6c, y1_6e, y1_6o⟩ := hM.post 6 rfl rfl
      obtain ⟨y1_7b, y1_7p, y1_7n, y1_7c, y1_7m, y1_7e, y1_7i, y1_7o⟩ := hM.post 7 rfl rfl
      have b2_0 : Hid (At (w.heap.size + 1 + 1) 0 (.bool y1_7b) v2) := Lib.hid (hM.boxOld 8 0 7 rfl rfl rfl (cs := [.bool y1_7b, .slice y1_7p y1_7n y1_7c]) (by rw [y1_7e]; rfl) 0 _ rfl)
      have b2_1 : Hid (At (w.heap.size + 1 + 1) 1 (.slice y1_7p y1_7n y1_7c) v2) := Lib.hid (hM.boxOld 8 0 7 rfl rfl rfl (cs := [.bool y1_7b, .slice y1_7p y1_7n y1_7c]) (by rw [y1_7e]; rfl) 1 _ rfl)
      have b0_0 : Hid (At (w.heap.size) 0 (.bool b) v2) := Lib.hid (hM.keep.at 0 rfl)
      have b0_1 : Hid (At (w.heap.size) 1 (.slice pa A.length qa) v2) := Lib.hid (hM.keep.at 1 rfl)
      have b1_0 : Hid (At (w.heap.size + 1) 0 (.bool b) v2) := Lib.hid (hM.keep.at 2 rfl)
      have b1_1 : Hid (At (w.heap.size + 1) 1 (.slice pb B.length qb) v2) := Lib.hid (hM.keep.at 3 rfl)
      have gv2 : Gr v1 v2 := hM.gr
      have e2_ : Ext w v2 := Ext.below e1_ hM.blw
      have z0_ : sl ac 14 = .pointer (some ⟨w.heap.size, 0, none⟩) := y1_0e
      have z1_ : sl ac 15 = .bool b := y1_1e
      have z2_ : sl ac 16 = .pointer (some ⟨w.heap.size, 1, none⟩) := y1_2e
      have z3_ : sl ac 17 = .slice pa A.length qa := y1_3e
      have z4_ : sl ac 18 = .pointer (some ⟨w.heap.size + 1, 1, none⟩) := y1_4e
      have z5_ : sl ac 19 = .slice pb B.length qb := y1_5e
      have z6_ : sl ac 20 = .slice y1_6p y1_6n y1_6c := y1_6e
      have z7_ : sl ac 21 = .agg #[.bool y1_7b, .slice y1_7p y1_7n y1_7c] := y1_7e
      rw [hM.ag.lay]
      simp only [lay, List.foldl_cons, List.foldl_nil, List.setIfInBounds_toArray, List.set_cons_zero, List.set_cons_succ, z0_, z1_, z2_, z3_, z4_, z5_, z6_, z7_]
      clear hM hkeep1 hob1 hne1 z0_ z1_ z2_ z3_ z4_ z5_ z6_ z7_ y1_0e y1_1e y1_2e y1_3e y1_4e y1_5e y1_6e y1_7e
      go_wp2_with fail
      have c0 := b2_0.out.1
      have c1 := b2_1.out.1
      refine bodyPost_ret (v := .agg #[.bool y1_7b, .slice y1_7p y1_7n y1_7c]) (by simp [results, Tryz.results54, go_sem, c0, c1]) rfl ?_
      exact ⟨_, _, _, rfl, y1_7i, (y1_7o), e2_⟩
  have hbb : (b == b') = false := beq_eq_false_iff_ne.2 hb
  by_cases hc : val B ≤ val A
  · obtain ⟨s, hs, hs0⟩ : ∃ s : Int, cmpN (val A) (val B) = s ∧ 0 ≤ s := by
      rcases Nat.lt_or_eq_of_le hc with h | h
      · exact ⟨1, cmpN_gt h, by decide⟩
      · exact ⟨0, cmpN_eq h.symm, by decide⟩
    have HS := Lib.hid hs
    have HLE := Lib.hid hc
    have HZ : Hid (sgI b (val A - val B) = iv b A + iv b' B) := by show _ = _; unfold sgI iv; cases b <;> cases b' <;> simp at hb ⊢ <;> omega
    clear hc hs hb
    go_enter Tryz.func54, Tryz.ntmps54
    go_wp2_with fail
    obtain ⟨v1, hv1⟩ : ∃ W, W = (((w.alloc (.cells #[.bool b, .slice pa A.length qa] 25)).alloc (.cells #[.bool b', .slice pb B.length qb] 25)).alloc (.cells #[.bool false, .slice none 0 0] 25)) := ⟨_, rfl⟩
    have y1 : Ext w v1 := by rw [hv1]; exact ((((Ext.refl _).alloc _).alloc _).alloc _)
    have b0_0 : Hid (At (w.heap.size) 0 (.bool b) v1) := by rw [hv1]; exact At.ext (At.n0 (by rfl)) (((Ext.refl _).alloc _).alloc _)
    have b0_1 : Hid (At (w.heap.size) 1 (.slice pa A.length qa) v1) := by rw [hv1]; exact At.ext (At.n0 (by rfl)) (((Ext.refl _).alloc _).alloc _)
    have k0 : Hid (Bx 2 (w.heap.size) v1) := by rw [hv1]; exact Bx.gr (Bx.n0 2 ⟨rfl, by decide⟩ (by decide) noI_s2) (Ext.gr (((Ext.refl _).alloc _).alloc _))
    have u0 : Hid (w.heap.size < v1.heap.size) := b0_0.out.2
    have b1_0 : Hid (At (w.heap.size + 1) 0 (.bool b') v1) := by rw [hv1]; exact At.ext (At.n1 (by rfl)) ((Ext.refl _).alloc _)
    have b1_1 : Hid (At (w.heap.size + 1) 1 (.slice pb B.length qb) v1) := by rw [hv1]; exact At.ext (At.n1 (by rfl)) ((Ext.refl _).alloc _)
    have k1 : Hid (Bx 2 (w.heap.size + 1) v1) := by rw [hv1]; exact Bx.gr (Bx.n1 2 ⟨rfl, by decide⟩ (by decide) noI_s2) (Ext.gr ((Ext.refl _).alloc _))
    have u1 : Hid (w.heap.size + 1 < v1.heap.size) := b1_0.out.2
    have b2_0 : Hid (At (w.heap.size + 1 + 1) 0 (.bool false) v1) := by rw [hv1]; exact At.ext (At.n2 (by rfl)) (Ext.refl _)
    have b2_1 : Hid (At (w.heap.size + 1 + 1) 1 (.slice none 0 0) v1) := by rw [hv1]; exact At.ext (At.n2 (by rfl)) (Ext.refl _)
    have k2 : Hid (Bx 2 (w.heap.size + 1 + 1) v1) := by rw [hv1]; exact Bx.gr (Bx.n2 2 ⟨rfl, by decide⟩ (by decide) noI_s2) (Ext.gr (Ext.refl _))
    have u2 : Hid (w.heap.size + 1 + 1 < v1.heap.size) := b2_0.out.2
    have e1_ : Ext w v1 := y1
    rw [← hv1]
    clear hv1
    refine (ncmp02 ⟨_, (hA.ext y1), rfl, HLA.out⟩ ⟨_, (hB.ext y1), rfl, HLB.out⟩ (by have h1 := HK.out; omega) s HS.out).mono ?_
    rintro e w2 ⟨rfl, x2⟩
    have e2_ : Ext w w2 := Ext.trans e1_ x2
    have g0_1 := (b0_1.out.ext x2).1
    have g1_1 := (b1_1.out.ext x2).1
    have f0 : w.heap.size < w2.heap.size := (b0_0.out.ext x2).2
    have f1 : w.heap.size + 1 < w2.heap.size := (b1_0.out.ext x2).2
    have ff0 : w.heap.size < w2.heap.size + 1 := Nat.lt_succ_of_lt f0
    have ff1 : w.heap.size + 1 < w2.heap.size + 1 := Nat.lt_succ_of_lt f1
    go_wp2_with fail
    refine (nsub02 ⟨_, (hA.ext (y1.trans x2)), rfl, HLA.out⟩ ⟨_, (hB.ext (y1.trans x2)), rfl, HLB.out⟩ (by have h1 := HK.out; omega) HLE.out).mono ?_
    rintro e w3 ⟨sv2, rfl, o2, x3⟩
    have e3_ : Ext w w3 := Ext.trans e2_ x3
    obtain ⟨sp2, sl2, sc2, rfl⟩ := o2.slice'
    clear g0_1 g1_1 f0 f1 ff0 ff1
    have g0_0 := (b0_0.out.ext (x2.trans x3)).1
    have f0 : w.heap.size < w3.heap.size := (b0_0.out.ext (x2.trans x3)).2
    have ff0 : w.heap.size < w3.heap.size + 1 := Nat.lt_succ_of_lt f0
    go_wp2_with fail
    refine (sign06_n (Limbs.inN (k := k) o2.limbs (Nat.lt_of_le_of_lt (Nat.sub_le _ _) (lenN_raw hA HLA.out))) b (by have h1 := HK.out; omega) HZ.out).mono ?_
    rintro e w4 ⟨sb3, sv3, sm3, rfl, e3, o3, x4⟩
    have e4_ : Ext w w4 := Ext.trans e3_ x4
    obtain ⟨sp3, sl3, sc3, rfl⟩ := e3.slice
    clear g0_0 f0 ff0
    have g2_0 := (b2_0.out.ext (x2.trans (x3.trans x4))).1
    have g2_1 := (b2_1.out.ext (x2.trans (x3.trans x4))).1
    have z2_0 := (k2.out.gr (x2.gr.trans (x3.gr.trans x4.gr))).free 0
    have z2_1 := (k2.out.gr (x2.gr.trans (x3.gr.trans x4.gr))).free 1
    have f2 : w.heap.size + 1 + 1 < w4.heap.size := (b2_0.out.ext (x2.trans (x3.trans x4))).2
    have ff2 : w.heap.size + 1 + 1 < w4.heap.size + 1 := Nat.lt_succ_of_lt f2
    go_wp2_with fail
    obtain ⟨v5, hv5⟩ : ∃ W, W = ((w4.setCell ⟨w.heap.size + 1 + 1, 0, none⟩ (.bool sb3)).setCell ⟨w.heap.size + 1 + 1, 1, none⟩ (.slice sp3 sl3 sc3)) := ⟨_, rfl⟩
    have sv5 : v5 = setRow (w.heap.size + 1 + 1) 0 [.bool sb3, .slice sp3 sl3 sc3] w4 := hv5
    have uv5 := setRow_bx' (o := 0) (cs := [.bool sb3, .slice sp3 sl3 sc3]) (k2.out.gr (x2.gr.trans (x3.gr.trans x4.gr))) (by simp) noI_s2
    have y5 : Gr w4 v5 := by rw [sv5]; exact setRow_gr' (o := 0) (cs := [.bool sb3, .slice sp3 sl3 sc3]) (k2.out.gr (x2.gr.trans (x3.gr.trans x4.gr))) (by simp) noI_s2
    have t5 : Hid (∀ t o u, t ≠ (w.heap.size + 1 + 1) → At t o u w4 → At t o u v5) := fun t o u h k => by rw [sv5]; exact k.setRow h _ _
    have e5_ : Ext w v5 := by rw [sv5]; exact setRow_below _ _ (by omega) _ _ e4_
    have b2_0 : Hid (At (w.heap.size + 1 + 1) 0 (.bool sb3) v5) := by rw [sv5]; exact uv5.2.1 0 _ rfl
    have b2_1 : Hid (At (w.heap.size + 1 + 1) 1 (.slice sp3 sl3 sc3) v5) := by rw [sv5]; exact uv5.2.1 1 _ rfl
    have k2 : Hid (Bx 2 (w.heap.size + 1 + 1) v5) := by rw [sv5]; exact uv5.1
    rw [← hv5]
    clear hv5 sv5 uv5
    have c0 := b2_0.out.1
    have c1 := b2_1.out.1
    refine bodyPost_ret (v := .agg #[.bool sb3, .slice sp3 sl3 sc3]) (by simp [results, Tryz.results54, go_sem, c0, c1]) rfl ?_
    exact ⟨_, _, _, rfl, (e3.gr y5), ((o3.gr y5).mono e3_.size), e5_⟩
  · have HS : Hid (cmpN (val A) (val B) = -1) := cmpN_lt (by omega)
    have HLE : Hid (val A ≤ val B) := by show _ ≤ _; omega
    have HZ : Hid (sgI b' (val B - val A) = iv b A + iv b' B) := by show _ = _; unfold sgI iv; cases b <;> cases b' <;> simp at hb ⊢ <;> omega
    clear hc hb
    go_enter Tryz.func54, Tryz.ntmps54
    go_wp2_with fail
    obtain ⟨v1, hv1⟩ : ∃ W, W = (((w.alloc (.cells #[.bool b, .slice pa A.length qa] 25)).alloc (.cells #[.bool b', .slice pb B.length qb] 25)).alloc (.cells #[.bool false, .slice none 0 0] 25)) := ⟨_, rfl⟩
    have y1 : Ext w v1 := by rw [hv1]; exact ((((Ext.refl _).alloc _).alloc _).alloc _)
    have b0_0 : Hid (At (w.heap.size) 0 (.bool b) v1) := by rw [hv1]; exact At.ext (At.n0 (by rfl)) (((Ext.refl _).alloc _).alloc _)
    have b0_1 : Hid (At (w.heap.size) 1 (.slice pa A.length qa) v1) := by rw [hv1]; exact At.ext (At.n0 (by rfl)) (((Ext.refl _).alloc _).alloc _)
    have k0 : Hid (Bx 2 (w.heap.size) v1) := by rw [hv1]; exact Bx.gr (Bx.n0 2 ⟨rfl, by decide⟩ (by decide) noI_s2) (Ext.gr (((Ext.refl _).alloc _).alloc _))
    have u0 : Hid (w.heap.size < v1.heap.size) := b0_0.out.2
    have b1_0 : Hid (At (w.heap.size + 1) 0 (.bool b') v1) := by rw [hv1]; exact At.ext (At.n1 (by rfl)) ((Ext.refl _).alloc _)
    have b1_1 : Hid (At (w.heap.size + 1) 1 (.slice pb B.length qb) v1) := by rw [hv1]; exact At.ext (At.n1 (by rfl)) ((Ext.refl _).alloc _)
    have k1 : Hid (Bx 2 (w.heap.size + 1) v1) := by rw [hv1]; exact Bx.gr (Bx.n1 2 ⟨rfl, by decide⟩ (by decide) noI_s2) (Ext.gr ((Ext.refl _).alloc _))
    have u1 : Hid (w.heap.size + 1 < v1.heap.size) := b1_0.out.2
    have b2_0 : Hid (At (w.heap.size + 1 + 1) 0 (.bool false) v1) := by rw [hv1]; exact At.ext (At.n2 (by rfl)) (Ext.refl _)
    have b2_1 : Hid (At (w.heap.size + 1 + 1) 1 (.slice none 0 0) v1) := by rw [hv1]; exact At.ext (At.n2 (by rfl)) (Ext.refl _)
    have k2 : Hid (Bx 2 (w.heap.size + 1 + 1) v1) := by rw [hv1]; exact Bx.gr (Bx.n2 2 ⟨rfl, by decide⟩ (by decide) noI_s2) (Ext.gr (Ext.refl _))
    have u2 : Hid (w.heap.size + 1 + 1 < v1.heap.size) := b2_0.out.2
    have e1_ : Ext w v1 := y1
    rw [← hv1]
    clear hv1
    refine (ncmp02 ⟨_, (hA.ext y1), rfl, HLA.out⟩ ⟨_, (hB.ext y1), rfl, HLB.out⟩ (by have h1 := HK.out; omega) (-1) HS.out).mono ?_
    rintro e w2 ⟨rfl, x2⟩
    have e2_ : Ext w w2 := Ext.trans e1_ x2
    have g1_1 := (b1_1.out.ext x2).1
    have g0_1 := (b0_1.out.ext x2).1
    have f1 : w.heap.size + 1 < w2.heap.size := (b1_0.out.ext x2).2
    have f0 : w.heap.size < w2.heap.size := (b0_0.out.ext x2).2
    have ff1 : w.heap.size + 1 < w2.heap.size + 1 := Nat.lt_succ_of_lt f1
    have ff0 : w.heap.size < w2.heap.size + 1 := Nat.lt_succ_of_lt f0
    go_wp2_with fail
    refine (nsub02 ⟨_, (hB.ext (y1.trans x2)), rfl, HLB.out⟩ ⟨_, (hA.ext (y1.trans x2)), rfl, HLA.out⟩ (by have h1 := HK.out; omega) HLE.out).mono ?_
    rintro e w3 ⟨sv2, rfl, o2, x3⟩
    have e3_ : Ext w w3 := Ext.trans e2_ x3
    obtain ⟨sp2, sl2, sc2, rfl⟩ := o2.slice'
    clear g1_1 g0_1 f1 f0 ff1 ff0
    have g1_0 := (b1_0.out.ext (x2.trans x3)).1
    have f1 : w.heap.size + 1 < w3.heap.size := (b1_0.out.ext (x2.trans x3)).2
    have ff1 : w.heap.size + 1 < w3.heap.size + 1 := Nat.lt_succ_of_lt f1
    go_wp2_with fail
    refine (sign06_n (Limbs.inN (k := l) o2.limbs (Nat.lt_of_le_of_lt (Nat.sub_le _ _) (lenN_raw hB HLB.out))) b' (by have h1 := HK.out; omega) HZ.out).mono ?_
    rintro e w4 ⟨sb3, sv3, sm3, rfl, e3, o3, x4⟩
    have e4_ : Ext w w4 := Ext.trans e3_ x4
    obtain ⟨sp3, sl3, sc3, rfl⟩ := e3.slice
    clear g1_0 f1 ff1
    have g2_0 := (b2_0.out.ext (x2.trans (x3.trans x4))).1
    have g2_1 := (b2_1.out.ext (x2.trans (x3.trans x4))).1
    have z2_0 := (k2.out.gr (x2.gr.trans (x3.gr.trans x4.gr))).free 0
    have z2_1 := (k2.out.gr (x2.gr.trans (x3.gr.trans x4.gr))).free 1
    have f2 : w.heap.size + 1 + 1 < w4.heap.size := (b2_0.out.ext (x2.trans (x3.trans x4))).2
    have ff2 : w.heap.size + 1 + 1 < w4.heap.size + 1 := Nat.lt_succ_of_lt f2
    go_wp2_with fail
    obtain ⟨v5, hv5⟩ : ∃ W, W = ((w4.setCell ⟨w.heap.size + 1 + 1, 0, none⟩ (.bool sb3)).setCell ⟨w.heap.size + 1 + 1, 1, none⟩ (.slice sp3 sl3 sc3)) := ⟨_, rfl⟩
    have sv5 : v5 = setRow (w.heap.size + 1 + 1) 0 [.bool sb3, .slice sp3 sl3 sc3] w4 := hv5
    have uv5 := setRow_bx' (o := 0) (cs := [.bool sb3, .slice sp3 sl3 sc3]) (k2.out.gr (x2.gr.trans (x3.gr.trans x4.gr))) (by simp) noI_s2
    have y5 : Gr w4 v5 := by rw [sv5]; exact setRow_gr' (o := 0) (cs := [.bool sb3, .slice sp3 sl3 sc3]) (k2.out.gr (x2.gr.trans (x3.gr.trans x4.gr))) (by simp) noI_s2
    have t5 : Hid (∀ t o u, t ≠ (w.heap.size + 1 + 1) → At t o u w4 → At t o u v5) := fun t o u h k => by rw [sv5]; exact k.setRow h _ _
    have e5_ : Ext w v5 := by rw [sv5]; exact setRow_below _ _ (by omega) _ _ e4_
    have b2_0 : Hid (At (w.heap.size + 1 + 1) 0 (.bool sb3) v5) := by rw [sv5]; exact uv5.2.1 0 _ rfl
    have b2_1 : Hid (At (w.heap.size + 1 + 1) 1 (.slice sp3 sl3 sc3) v5) := by rw [sv5]; exact uv5.2.1 1 _ rfl
    have k2 : Hid (Bx 2 (w.heap.size + 1 + 1) v5) := by rw [sv5]; exact uv5.1
    rw [← hv5]
    clear hv5 sv5 uv5
    have c0 := b2_0.out.1
    have c1 := b2_1.out.1
    refine bodyPost_ret (v := .agg #[.bool sb3, .slice sp3 sl3 sc3]) (by simp [results, Tryz.results54, go_sem, c0, c1]) rfl ?_
    exact ⟨_, _, _, rfl, (e3.gr y5), ((o3.gr y5).mono e3_.size), e5_⟩

set_option maxHeartbeats 4000000 in
set_option maxRecDepth 100000 in
theorem add06_is {w : World} {ba bb : Bool} {va ua vb ub : Value} {k l : Nat} {a b : Rat} (ha : InR w ba va ua k a) (hb : InR w bb vb ub l b) (hk : k + l ≤ 490) :
    Calls Tryz.prog 26 #[.agg #[.bool ba, va, ua], .agg #[.bool bb, vb, ub]] w (RetR w (a + b)) := by
  obtain ⟨pa, qa, ra, pa', qa', ra', rfl, rfl⟩ := ha.slice
  obtain ⟨pb, qb, rb, pb', qb', rb', rfl, rfl⟩ := hb.slice
  have HK := Lib.hid hk
  have LA := Lib.hid ha.len
  have LB := Lib.hid hb.len
  clear hk
  go_enter Tryz.func26, Tryz.ntmps26
  go_wp2_with fail
  obtain ⟨v1, hv1⟩ : ∃ W, W = (((w.alloc (.cells #[.bool ba, .slice pa qa ra, .slice pa' qa' ra'] 27)).alloc (.cells #[.bool bb, .slice pb qb rb, .slice pb' qb' rb'] 27)).alloc (.cells #[.bool false, .slice none 0 0, .slice none 0 0] 27)) := ⟨_, rfl⟩
  have y1 : Ext w v1 := by rw [hv1]; exact ((((Ext.refl _).alloc _).alloc _).alloc _)
  have b0_0 : Hid (At (w.heap.size) 0 (.bool ba) v1) := by rw [hv1]; exact At.ext (At.n0 (by rfl)) (((Ext.refl _).alloc _).alloc _)
  have b0_1 : Hid (At (w.heap.size) 1 (.slice pa qa ra) v1) := by rw [hv1]; exact At.ext (At.n0 (by rfl)) (((Ext.refl _).alloc _).alloc _)
  have b0_2 : Hid (At (w.heap.size) 2 (.slice pa' qa' ra') v1) := by rw [hv1]; exact At.ext (At.n0 (by rfl)) (((Ext.refl _).alloc _).alloc _)
  have k0 : Hid (Bx 3 (w.heap.size) v1) := by rw [hv1]; exact Bx.gr (Bx.n0 3 ⟨rfl, by decide⟩ (by decide) noI_s3) (Ext.gr (((Ext.refl _).alloc _).alloc _))
  have u0 : Hid (w.heap.size < v1.heap.size) := b0_0.out.2
  have b1_0 : Hid (At (w.heap.size + 1) 0 (.bool bb) v1) := by rw [hv1]; exact At.ext (At.n1 (by rfl)) ((Ext.refl _).alloc _)
  have b1_1 : Hid (At (w.heap.size + 1) 1 (.slice pb qb rb) v1) := by rw [hv1]; exact At.ext (At.n1 (by rfl)) ((Ext.refl _).alloc _)
  have b1_2 : Hid (At (w.heap.size + 1) 2 (.slice pb' qb' rb') v1) := by rw [hv1]; exact At.ext (At.n1 (by rfl)) ((Ext.refl _).alloc _)
  have k1 : Hid (Bx 3 (w.heap.size + 1) v1) := by rw [hv1]; exact Bx.gr (Bx.n1 3 ⟨rfl, by decide⟩ (by decide) noI_s3) (Ext.gr ((Ext.refl _).alloc _))
  have u1 : Hid (w.heap.size + 1 < v1.heap.size) := b1_0.out.2
  have b2_0 : Hid (At (w.heap.size + 1 + 1) 0 (.bool false) v1) := by rw [hv1]; exact At.ext (At.n2 (by rfl)) (Ext.refl _)
  have b2_1 : Hid (At (w.heap.size + 1 + 1) 1 (.slice none 0 0) v1) := by rw [hv1]; exact At.ext (At.n2 (by rfl)) (Ext.refl _)
  have b2_2 : Hid (At (w.heap.size + 1 + 1) 2 (.slice none 0 0) v1) := by rw [hv1]; exact At.ext (At.n2 (by rfl)) (Ext.refl _)
  have k2 : Hid (Bx 3 (w.heap.size + 1 + 1) v1) := by rw [hv1]; exact Bx.gr (Bx.n2 3 ⟨rfl, by decide⟩ (by decide) noI_s3) (Ext.gr (Ext.refl _))
  have u2 : Hid (w.heap.size + 1 + 1 < v1.heap.size) := b2_0.out.2
  have e1_ : Ext w v1 := y1
  rw [← hv1]
  clear hv1
  have hkeep1 : AllAt' ([(w.heap.size + 1 + 1, 0, .bool false), (w.heap.size + 1 + 1, 1, .slice none 0 0), (w.heap.size + 1 + 1, 2, .slice none 0 0)] : List (Nat × Nat × Value)) v1 := AllAt'.cons b2_0.out (AllAt'.cons b2_1.out (AllAt'.cons b2_2.out (AllAt'.nil _)))
  have hob1 : ObOk w.heap.size v1 (([(w.heap.size + 1 + 1, 0, .bool false), (w.heap.size + 1 + 1, 1, .slice none 0 0), (w.heap.size + 1 + 1, 2, .slice none 0 0)] : List (Nat × Nat × Value)).map (·.1)) ([(w.heap.size, [(0, .bool ba), (1, .slice pa qa ra), (2, .slice pa' qa' ra')]), (w.heap.size + 1, [(0, .bool bb), (1, .slice pb qb rb), (2, .slice pb' qb' rb')])] : List (Nat × List (Nat × Value))) := ⟨⟨(by omega), b0_0.out.2, ⟨b0_0.out, ⟨b0_1.out, ⟨b0_2.out, trivial⟩⟩⟩, ⟨(by (try dsimp only); omega), ⟨(by (try dsimp only); omega), ⟨(by (try dsimp only); omega), trivial⟩⟩⟩⟩, ⟨⟨(by omega), b1_0.out.2, ⟨b1_0.out, ⟨b1_1.out, ⟨b1_2.out, trivial⟩⟩⟩, ⟨(by (try dsimp only); omega), ⟨(by (try dsimp only); omega), ⟨(by (try dsimp only); omega), trivial⟩⟩⟩⟩, trivial⟩⟩
  have hne1 : AllNe (([(w.heap.size, [(0, .bool ba), (1, .slice pa qa ra), (2, .slice pa' qa' ra')]), (w.heap.size + 1, [(0, .bool bb), (1, .slice pb qb rb), (2, .slice pb' qb' rb')])] : List (Nat × List (Nat × Value))).map (·.1)) := ⟨⟨(by (try dsimp only); omega), trivial⟩, ⟨trivial, trivial⟩⟩
  (try simp only [List.append_eq, List.cons_append, List.nil_append])
  refine wp_region_gen ⟨[9, 10, 11, 12], fun i => false, fun i => ([none, none, none, none, some (.old 0, 1), some (.old 1, 3)] : List (Option (BoxRef × Nat))).getD i none, fun i => ([Sg.val (.agg #[.bool ba, .slice pa qa ra, .slice pa' qa' ra']), Sg.ratO w.heap.size a, Sg.val (.agg #[.bool bb, .slice pb qb rb, .slice pb' qb' rb']), Sg.ratO w.heap.size b, Sg.any, Sg.any] : List Sg).getD i Sg.any, [(w.heap.size + 1 + 1, 0, .bool false), (w.heap.size + 1 + 1, 1, .slice none 0 0), (w.heap.size + 1 + 1, 2, .slice none 0 0)], [(w.heap.size, [(0, .bool ba), (1, .slice pa qa ra), (2, .slice pa' qa' ra')]), (w.heap.size + 1, [(0, .bool bb), (1, .slice pb qb rb), (2, .slice pb' qb' rb')])]⟩ w.heap.size (by kernel_rfl) (by kernel_rfl) e1_.size ?hfr hkeep1 hob1 hne1 ?hs ?he
  case hfr =>
    intro i v wk hi hst hv
    exact absurd hi (by simp)
  case hs =>
    refine ⟨?_, ?_, ?_, ?_, ?_, ?_, trivial⟩
    · refine RStep.op rfl rfl (fun ac wk hp K hK => ?_)
      have t2_ : ac.tmps[2]?.getD undef = .pointer (some ⟨w.heap.size, 0, none⟩) := hp.slot 2 rfl rfl
      have c0_ := hp.ocell 4 0 (by decide) rfl (by decide +kernel) rfl
      have c1_ := hp.ocell 4 1 (by decide) rfl (by decide +kernel) rfl
      have c2_ := hp.ocell 4 2 (by decide) rfl (by decide +kernel) rfl
      have HP := Lib.hid hp
      clear hp
      go_simp
      refine hK.out _ _ ?_ (Ext.refl _) (fun h => absurd h (by simp))
      exact rfl
    · refine RStep.op rfl rfl (fun ac wk hp K hK => ?_)
      have u0e := hp.get 0 (by decide +kernel) rfl
      have t9_ : ac.tmps[9]?.getD undef = .agg #[.bool ba, .slice pa qa ra, .slice pa' qa' ra'] := slot_is' u0e
      have HP := Lib.hid hp
      clear hp
      go_simp
      refine (count06_is (ha.gr (y1.gr.trans HP.out.gr)) (by have h1 := HK.out; omega)).mono ?_
      rintro e wk' ⟨sb1, sv1, su1, sm1, sd1, rfl, e1, o1, ix⟩
      obtain ⟨sp1, sl1, sc1, tp1, tl1, tc1, rfl, rfl⟩ := e1.slice
      refine hK.out _ _ ?_ ix (fun h => absurd h (by simp))
      exact ⟨_, _, _, _, _, _, _, _, _, rfl, e1, (o1.mono (Nat.le_trans e1_.size HP.out.gr.size))⟩
    · refine RStep.op rfl rfl (fun ac wk hp K hK => ?_)
      have t3_ : ac.tmps[3]?.getD undef = .pointer (some ⟨w.heap.size + 1, 0, none⟩) := hp.slot 3 rfl rfl
      have c0_ := hp.ocell 5 0 (by decide) rfl (by decide +kernel) rfl
      have c1_ := hp.ocell 5 1 (by decide) rfl (by decide +kernel) rfl
      have c2_ := hp.ocell 5 2 (by decide) rfl (by decide +kernel) rfl
      have HP := Lib.hid hp
      clear hp
      go_simp
      refine hK.out _ _ ?_ (Ext.refl _) (fun h => absurd h (by simp))
      exact rfl
    · refine RStep.op rfl rfl (fun ac wk hp K hK => ?_)
      have u2e := hp.get 2 (by decide +kernel) rfl
      have t11_ : ac.tmps[11]?.getD undef = .agg #[.bool bb, .slice pb qb rb, .slice pb' qb' rb'] := slot_is' u2e
      have HP := Lib.hid hp
      clear hp
      go_simp
      refine (count06_is (hb.gr (y1.gr.trans HP.out.gr)) (by have h1 := HK.out; omega)).mono ?_
      rintro e wk' ⟨sb2, sv2, su2, sm2, sd2, rfl, e2, o2, ix⟩
      obtain ⟨sp2, sl2, sc2, tp2, tl2, tc2, rfl, rfl⟩ := e2.slice
      refine hK.out _ _ ?_ ix (fun h => absurd h (by simp))
      exact ⟨_, _, _, _, _, _, _, _, _, rfl, e2, (o2.mono (Nat.le_trans e1_.size HP.out.gr.size))⟩
    · refine RStep.so 0 1 (w.heap.size) rfl rfl rfl (fun ac wk hp => ?_)
      have t2_ : ac.tmps[2]?.getD undef = .pointer (some ⟨w.heap.size, 0, none⟩) := hp.slot 2 rfl rfl
      obtain ⟨u1b, u1p, u1n, u1c, u1q, u1k, u1d, u1m, u1l, u1e, u1i, u1o⟩ := hp.get 1 (by decide +kernel) rfl
      have t10_ : ac.tmps[10]?.getD undef = .agg #[.bool u1b, .slice u1p u1n u1c, .slice u1q u1k u1d] := slot_is' u1e
      obtain ⟨d0, hd0, -⟩ := Bx.cell (k0.out.gr hp.gr) (o := 0) (by decide)
      have fz0 := Bx.free (k0.out.gr hp.gr) 0
      obtain ⟨d1, hd1, -⟩ := Bx.cell (k0.out.gr hp.gr) (o := 1) (by decide)
      have fz1 := Bx.free (k0.out.gr hp.gr) 1
      obtain ⟨d2, hd2, -⟩ := Bx.cell (k0.out.gr hp.gr) (o := 2) (by decide)
      have fz2 := Bx.free (k0.out.gr hp.gr) 2
      refine ⟨3, [.bool u1b, .slice u1p u1n u1c, .slice u1q u1k u1d], (k0.out.gr hp.gr), by rw [u1e]; rfl, rfl, noI_s3, fun K hK => ?_⟩
      have HK := Lib.hid hK
      clear hK hp
      go_simp
      exact HK.out
    · refine RStep.so 1 3 (w.heap.size + 1) rfl rfl rfl (fun ac wk hp => ?_)
      have t3_ : ac.tmps[3]?.getD undef = .pointer (some ⟨w.heap.size + 1, 0, none⟩) := hp.slot 3 rfl rfl
      obtain ⟨u3b, u3p, u3n, u3c, u3q, u3k, u3d, u3m, u3l, u3e, u3i, u3o⟩ := hp.get 3 (by decide +kernel) rfl
      have t12_ : ac.tmps[12]?.getD undef = .agg #[.bool u3b, .slice u3p u3n u3c, .slice u3q u3k u3d] := slot_is' u3e
      obtain ⟨d0, hd0, -⟩ := Bx.cell (k1.out.gr hp.gr) (o := 0) (by decide)
      have fz0 := Bx.free (k1.out.gr hp.gr) 0
      obtain ⟨d1, hd1, -⟩ := Bx.cell (k1.out.gr hp.gr) (o := 1) (by decide)
      have fz1 := Bx.free (k1.out.gr hp.gr) 1
      obtain ⟨d2, hd2, -⟩ := Bx.cell (k1.out.gr hp.gr) (o := 2) (by decide)
      have fz2 := Bx.free (k1.out.gr hp.gr) 2
      refine ⟨3, [.bool u3b, .slice u3p u3n u3c, .slice u3q u3k u3d], (k1.out.gr hp.gr), by rw [u3e]; rfl, rfl, noI_s3, fun K hK => ?_⟩
      have HK := Lib.hid hK
      clear hK hp
      go_simp
      exact HK.out
  case he =>
    intro ac v2 hM
    have y1_0e := hM.post 0 rfl rfl
    obtain ⟨y1_1b, y1_1p, y1_1n, y1_1c, y1_1q, y1_1k, y1_1d, y1_1m, y1_1l, y1_1e, y1_1i, y1_1o⟩ := hM.post 1 rfl rfl
    have y1_2e := hM.post 2 rfl rfl
    obtain ⟨y1_3b, y1_3p, y1_3n, y1_3c, y1_3q, y1_3k, y1_3d, y1_3m, y1_3l, y1_3e, y1_3i, y1_3o⟩ := hM.post 3 rfl rfl
    have b0_0 : Hid (At (w.heap.size) 0 (.bool y1_1b) v2) := Lib.hid (hM.boxOld 4 0 1 rfl rfl rfl (cs := [.bool y1_1b, .slice y1_1p y1_1n y1_1c, .slice y1_1q y1_1k y1_1d]) (by rw [y1_1e]; rfl) 0 _ rfl)
    have b0_1 : Hid (At (w.heap.size) 1 (.slice y1_1p y1_1n y1_1c) v2) := Lib.hid (hM.boxOld 4 0 1 rfl rfl rfl (cs := [.bool y1_1b, .slice y1_1p y1_1n y1_1c, .slice y1_1q y1_1k y1_1d]) (by rw [y1_1e]; rfl) 1 _ rfl)
    have b0_2 : Hid (At (w.heap.size) 2 (.slice y1_1q y1_1k y1_1d) v2) := Lib.hid (hM.boxOld 4 0 1 rfl rfl rfl (cs := [.bool y1_1b, .slice y1_1p y1_1n y1_1c, .slice y1_1q y1_1k y1_1d]) (by rw [y1_1e]; rfl) 2 _ rfl)
    have b1_0 : Hid (At (w.heap.size + 1) 0 (.bool y1_3b) v2) := Lib.hid (hM.boxOld 5 1 3 rfl rfl rfl (cs := [.bool y1_3b, .slice y1_3p y1_3n y1_3c, .slice y1_3q y1_3k y1_3d]) (by rw [y1_3e]; rfl) 0 _ rfl)
    have b1_1 : Hid (At (w.heap.size + 1) 1 (.slice y1_3p y1_3n y1_3c) v2) := Lib.hid (hM.boxOld 5 1 3 rfl rfl rfl (cs := [.bool y1_3b, .slice y1_3p y1_3n y1_3c, .slice y1_3q y1_3k y1_3d]) (by rw [y1_3e]; rfl) 1 _ rfl)
    have b1_2 : Hid (At (w.heap.size + 1) 2 (.slice y1_3q y1_3k y1_3d) v2) := Lib.hid (hM.boxOld 5 1 3 rfl rfl rfl (cs := [.bool y1_3b, .slice y1_3p y1_3n y1_3c, .slice y1_3q y1_3k y1_3d]) (by rw [y1_3e]; rfl) 2 _ rfl)
    have b2_0 : Hid (At (w.heap.size + 1 + 1) 0 (.bool false) v2) := Lib.hid (hM.keep.at 0 rfl)
    have b2_1 : Hid (At (w.heap.size + 1 + 1) 1 (.slice none 0 0) v2) := Lib.hid (hM.keep.at 1 rfl)
    have b2_2 : Hid (At (w.heap.size + 1 + 1) 2 (.slice none 0 0) v2) := Lib.hid (hM.keep.at 2 rfl)
    have gv2 : Gr v1 v2 := hM.gr
    have e2_ : Ext w v2 := Ext.below e1_ hM.blw
    have z0_ : sl ac 9 = .agg #[.bool ba, .slice pa qa ra, .slice pa' qa' ra'] := y1_0e
    have z1_ : sl ac 10 = .agg #[.bool y1_1b, .slice y1_1p y1_1n y1_1c, .slice y1_1q y1_1k y1_1d] := y1_1e
    have z2_ : sl ac 11 = .agg #[.bool bb, .slice pb qb rb, .slice pb' qb' rb'] := y1_2e
    have z3_ : sl ac 12 = .agg #[.bool y1_3b, .slice y1_3p y1_3n y1_3c, .slice y1_3q y1_3k y1_3d] := y1_3e
    rw [hM.ag.lay]
    simp only [lay, List.foldl_cons, List.foldl_nil, List.setIfInBounds_toArray, List.set_cons_zero, List.set_cons_succ, z0_, z1_, z2_, z3_]
    clear hM hkeep1 hob1 hne1 z0_ z1_ z2_ z3_ y1_0e y1_1e y1_2e y1_3e
    go_wp2_with fail
    have hkeep2 : AllAt' ([(w.heap.size, 0, .bool y1_1b), (w.heap.size, 1, .slice y1_1p y1_1n y1_1c), (w.heap.size, 2, .slice y1_1q y1_1k y1_1d), (w.heap.size + 1, 0, .bool y1_3b), (w.heap.size + 1, 1, .slice y1_3p y1_3n y1_3c), (w.heap.size + 1, 2, .slice y1_3q y1_3k y1_3d), (w.heap.size + 1 + 1, 0, .bool false), (w.heap.size + 1 + 1, 1, .slice none 0 0), (w.heap.size + 1 + 1, 2, .slice none 0 0)] : List (Nat × Nat × Value)) v2 := AllAt'.cons b0_0.out (AllAt'.cons b0_1.out (AllAt'.cons b0_2.out (AllAt'.cons b1_0.out (AllAt'.cons b1_1.out (AllAt'.cons b1_2.out (AllAt'.cons b2_0.out (AllAt'.cons b2_1.out (AllAt'.cons b2_2.out (AllAt'.nil _)))))))))
    have hob2 : ObOk w.heap.size v2 (([(w.heap.size, 0, .bool y1_1b), (w.heap.size, 1, .slice y1_1p y1_1n y1_1c), (w.heap.size, 2, .slice y1_1q y1_1k y1_1d), (w.heap.size + 1, 0, .bool y1_3b), (w.heap.size + 1, 1, .slice y1_3p y1_3n y1_3c), (w.heap.size + 1, 2, .slice y1_3q y1_3k y1_3d), (w.heap.size + 1 + 1, 0, .bool false), (w.heap.size + 1 + 1, 1, .slice none 0 0), (w.heap.size + 1 + 1, 2, .slice none 0 0)] : List (Nat × Nat × Value)).map (·.1)) ([] : List (Nat × List (Nat × Value))) := trivial
    have hne2 : AllNe (([] : List (Nat × List (Nat × Value))).map (·.1)) := trivial
    (try simp only [List.append_eq, List.cons_append, List.nil_append])
    refine wp_region_gen ⟨[13, 14, 15, 16, 17, 18, 19, 20, 21, 22, 5], fun i => i == 10, fun i => ([none, none, none, none, none, none, none, none, none, none, none, some (.op 10, 9)] : List (Option (BoxRef × Nat))).getD i none, fun i => ([Sg.val (.pointer (some ⟨w.heap.size, 0, none⟩)), Sg.val (.pointer (some ⟨w.heap.size, 0, none⟩)), Sg.val (.bool y1_1b), Sg.val (.pointer (some ⟨w.heap.size, 0, none⟩)), Sg.val (.pointer (some ⟨w.heap.size, 1, none⟩)), Sg.val (.slice y1_1p y1_1n y1_1c), Sg.val (.pointer (some ⟨w.heap.size + 1, 2, none⟩)), Sg.val (.slice y1_3q y1_3k y1_3d), Sg.natO w.heap.size ((a).num.natAbs * (b).den), Sg.intO w.heap.size ((a).num * ((b).den : Nat)), Sg.box 2 v2.heap.size, Sg.any] : List Sg).getD i Sg.any, [(w.heap.size, 0, .bool y1_1b), (w.heap.size, 1, .slice y1_1p y1_1n y1_1c), (w.heap.size, 2, .slice y1_1q y1_1k y1_1d), (w.heap.size + 1, 0, .bool y1_3b), (w.heap.size + 1, 1, .slice y1_3p y1_3n y1_3c), (w.heap.size + 1, 2, .slice y1_3q y1_3k y1_3d), (w.heap.size + 1 + 1, 0, .bool false), (w.heap.size + 1 + 1, 1, .slice none 0 0), (w.heap.size + 1 + 1, 2, .slice none 0 0)], []⟩ w.heap.size (by kernel_rfl) (by kernel_rfl) e2_.size ?hfr hkeep2 hob2 hne2 ?hs ?he
    case hfr =>
      intro i v wk hi hst hv
      have : i = 10 := by simpa [or_assoc] using hi
      subst this; obtain ⟨s, rfl, -, hb⟩ := hv; exact hb.lt
    case hs =>
      refine ⟨?_, ?_, ?_, ?_, ?_, ?_, ?_, ?_, ?_, ?_, ?_, ?_, trivial⟩
      · refine RStep.op rfl rfl (fun ac wk hp K hK => ?_)
        have t2_ : ac.tmps[2]?.getD undef = .pointer (some ⟨w.heap.size, 0, none⟩) := hp.slot 2 rfl rfl
        have HP := Lib.hid hp
        clear hp
        go_simp
        refine hK.out _ _ ?_ (Ext.refl _) (fun h => absurd h (by simp))
        exact rfl
      · refine RStep.op rfl rfl (fun ac wk hp K hK => ?_)
        have u0e := hp.get 0 (by decide +kernel) rfl
        have t13_ : ac.tmps[13]?.getD undef = .pointer (some ⟨w.heap.size, 0, none⟩) := slot_is' u0e
        have HP := Lib.hid hp
        clear hp
        go_simp
        refine hK.out _ _ ?_ (Ext.refl _) (fun h => absurd h (by simp))
        exact rfl
      · refine RStep.op rfl rfl (fun ac wk hp K hK => ?_)
        have u1e := hp.get 1 (by decide +kernel) rfl
        have t14_ : ac.tmps[14]?.getD undef = .pointer (some ⟨w.heap.size, 0, none⟩) := slot_is' u1e
        have c0_ := hp.cell 0 rfl
        have HP := Lib.hid hp
        clear hp
        go_simp
        refine hK.out _ _ ?_ (Ext.refl _) (fun h => absurd h (by simp))
        exact rfl
      · refine RStep.op rfl rfl (fun ac wk hp K hK => ?_)
        have t2_ : ac.tmps[2]?.getD undef = .pointer (some ⟨w.heap.size, 0, none⟩) := hp.slot 2 rfl rfl
        have HP := Lib.hid hp
        clear hp
        go_simp
        refine hK.out _ _ ?_ (Ext.refl _) (fun h => absurd h (by simp))
        exact rfl
      · refine RStep.op rfl rfl (fun ac wk hp K hK => ?_)
        have u3e := hp.get 3 (by decide +kernel) rfl
        have t16_ : ac.tmps[16]?.getD undef = .pointer (some ⟨w.heap.size, 0, none⟩) := slot_is' u3e
        have HP := Lib.hid hp
        clear hp
        go_simp
        refine hK.out _ _ ?_ (Ext.refl _) (fun h => absurd h (by simp))
        exact rfl
      · refine RStep.op rfl rfl (fun ac wk hp K hK => ?_)
        have u4e := hp.get 4 (by decide +kernel) rfl
        have t17_ : ac.tmps[17]?.getD undef = .pointer (some ⟨w.heap.size, 1, none⟩) := slot_is' u4e
        have c0_ := hp.cell 1 rfl
        have HP := Lib.hid hp
        clear hp
        go_simp
        refine hK.out _ _ ?_ (Ext.refl _) (fun h => absurd h (by simp))
        exact rfl
      · refine RStep.op rfl rfl (fun ac wk hp K hK => ?_)
        have t3_ : ac.tmps[3]?.getD undef = .pointer (some ⟨w.heap.size + 1, 0, none⟩) := hp.slot 3 rfl rfl
        have HP := Lib.hid hp
        clear hp
        go_simp
        refine hK.out _ _ ?_ (Ext.refl _) (fun h => absurd h (by simp))
        exact rfl
      · refine RStep.op rfl rfl (fun ac wk hp K hK => ?_)
        have u6e := hp.get 6 (by decide +kernel) rfl
        have t19_ : ac.tmps[19]?.getD undef = .pointer (some ⟨w.heap.size + 1, 2, none⟩) := slot_is' u6e
        have c0_ := hp.cell 5 rfl
        have HP := Lib.hid hp
        clear hp
        go_simp
        refine hK.out _ _ ?_ (Ext.refl _) (fun h => absurd h (by simp))
        exact rfl
      · refine RStep.op rfl rfl (fun ac wk hp K hK => ?_)
        have u5e := hp.get 5 (by decide +kernel) rfl
        have t18_ : ac.tmps[18]?.getD undef = .slice y1_1p y1_1n y1_1c := slot_is' u5e
        have u7e := hp.get 7 (by decide +kernel) rfl
        have t20_ : ac.tmps[20]?.getD undef = .slice y1_3q y1_3k y1_3d := slot_is' u7e
        have HP := Lib.hid hp
        clear hp
        go_simp
        refine (nmul02 (Limbs.inN (k := k) (y1_1i.gr HP.out.gr).mag LA.out.1) (Limbs.inN (k := l) (y1_3i.gr HP.out.gr).den LB.out.2) (by have h1 := HK.out; omega)).mono ?_
        rintro e wk' ⟨sv3, rfl, o3, ix⟩
        obtain ⟨sp3, sl3, sc3, rfl⟩ := o3.slice'
        refine hK.out _ _ ?_ ix (fun h => absurd h (by simp))
        exact ⟨_, _, _, rfl, (o3.mono (Nat.le_trans e2_.size HP.out.gr.size))⟩
      · refine RStep.op rfl rfl (fun ac wk hp K hK => ?_)
        have u2e := hp.get 2 (by decide +kernel) rfl
        have t15_ : ac.tmps[15]?.getD undef = .bool y1_1b := slot_is' u2e
        obtain ⟨u8p, u8n, u8c, u8e, u8o⟩ := hp.get 8 (by decide +kernel) rfl
        have t21_ : ac.tmps[21]?.getD undef = .slice u8p u8n u8c := slot_is' u8e
        have HP := Lib.hid hp
        clear hp
        go_simp
        refine hK.out _ _ ?_ (Ext.refl _) (fun h => absurd h (by simp))
        exact ⟨_, _, _, _, _, rfl, isI_by (y1_1i.gr HP.out.gr).1 (Rat.den_nz _) u8o.limbs, u8o⟩
      · refine RStep.op rfl rfl (fun ac wk hp K hK => ?_)
        have hsz := hp.gr.size
        clear hp
        go_simp
        exact hK.out _ _ ⟨_, rfl, hsz, Bx.new 2 ⟨rfl, by decide⟩ (by decide) noI_s2⟩ ((Ext.refl _).alloc _) (fun _ => rfl)
      · refine RStep.st 10 9 rfl rfl (fun ac wk hp => ?_)
        obtain ⟨u10s, u10e, u10l, u10b⟩ := hp.get 10 (by decide +kernel) rfl
        have t5_ : ac.tmps[5]?.getD undef = .pointer (some ⟨u10s, 0, none⟩) := slot_is' u10e
        obtain ⟨u9b, u9p, u9n, u9c, u9m, u9e, u9i, u9o⟩ := hp.get 9 (by decide +kernel) rfl
        have t22_ : ac.tmps[22]?.getD undef = .agg #[.bool u9b, .slice u9p u9n u9c] := slot_is' u9e
        obtain ⟨d0, hd0, -⟩ := Bx.cell u10b (o := 0) (by decide)
        have fz0 := Bx.free u10b 0
        obtain ⟨d1, hd1, -⟩ := Bx.cell u10b (o := 1) (by decide)
        have fz1 := Bx.free u10b 1
        refine ⟨u10s, 2, [.bool u9b, .slice u9p u9n u9c], u10e, u10b, by rw [u9e]; rfl, rfl, noI_s2, fun K hK => ?_⟩
        have HK := Lib.hid hK
        clear hK hp
        go_simp
        exact HK.out
    case he =>
      intro ac v3 hM
      have y2_0e := hM.post 0 rfl rfl
      have y2_1e := hM.post 1 rfl rfl
      have y2_2e := hM.post 2 rfl rfl
      have y2_3e := hM.post 3 rfl rfl
      have y2_4e := hM.post 4 rfl rfl
      have y2_5e := hM.post 5 rfl rfl
      have y2_6e := hM.post 6 rfl rfl
      have y2_7e := hM.post 7 rfl rfl
      obtain ⟨y2_8p, y2_8n, y2_8c, y2_8e, y2_8o⟩ := hM.post 8 rfl rfl
      obtain ⟨y2_9b, y2_9p, y2_9n, y2_9c, y2_9m, y2_9e, y2_9i, y2_9o⟩ := hM.post 9 rfl rfl
      obtain ⟨y2_10s, y2_10e, y2_10l, y2_10b⟩ := hM.post 10 rfl rfl
      have l3 := Lib.hid y2_10l
      have k3 := Lib.hid y2_10b
      have u3 := Lib.hid (Bx.lt y2_10b)
      have b3_0 : Hid (At (y2_10s) 0 (.bool y2_9b) v3) := Lib.hid (hM.boxOp 11 10 9 rfl rfl y2_10e (cs := [.bool y2_9b, .slice y2_9p y2_9n y2_9c]) (by rw [y2_9e]; rfl) 0 _ rfl)
      have b3_1 : Hid (At (y2_10s) 1 (.slice y2_9p y2_9n y2_9c) v3) := Lib.hid (hM.boxOp 11 10 9 rfl rfl y2_10e (cs := [.bool y2_9b, .slice y2_9p y2_9n y2_9c]) (by rw [y2_9e]; rfl) 1 _ rfl)
      have b0_0 : Hid (At (w.heap.size) 0 (.bool y1_1b) v3) := Lib.hid (hM.keep.at 0 rfl)
      have b0_1 : Hid (At (w.heap.size) 1 (.slice y1_1p y1_1n y1_1c) v3) := Lib.hid (hM.keep.at 1 rfl)
      have b0_2 : Hid (At (w.heap.size) 2 (.slice y1_1q y1_1k y1_1d) v3) := Lib.hid (hM.keep.at 2 rfl)
      have b1_0 : Hid (At (w.heap.size + 1) 0 (.bool y1_3b) v3) := Lib.hid (hM.keep.at 3 rfl)
      have b1_1 : Hid (At (w.heap.size + 1) 1 (.slice y1_3p y1_3n y1_3c) v3) := Lib.hid (hM.keep.at 4 rfl)
      have b1_2 : Hid (At (w.heap.size + 1) 2 (.slice y1_3q y1_3k y1_3d) v3) := Lib.hid (hM.keep.at 5 rfl)
      have b2_0 : Hid (At (w.heap.size + 1 + 1) 0 (.bool false) v3) := Lib.hid (hM.keep.at 6 rfl)
      have b2_1 : Hid (At (w.heap.size + 1 + 1) 1 (.slice none 0 0) v3) := Lib.hid (hM.keep.at 7 rfl)
      have b2_2 : Hid (At (w.heap.size + 1 + 1) 2 (.slice none 0 0) v3) := Lib.hid (hM.keep.at 8 rfl)
      have gv3 : Gr v2 v3 := hM.gr
      have e3_ : Ext w v3 := Ext.below e2_ hM.blw
      have z0_ : sl ac 13 = .pointer (some ⟨w.heap.size, 0, none⟩) := y2_0e
      have z1_ : sl ac 14 = .pointer (some ⟨w.heap.size, 0, none⟩) := y2_1e
      have z2_ : sl ac 15 = .bool y1_1b := y2_2e
      have z3_ : sl ac 16 = .pointer (some ⟨w.heap.size, 0, none⟩) := y2_3e
      have z4_ : sl ac 17 = .pointer (some ⟨w.heap.size, 1, none⟩) := y2_4e
      have z5_ : sl ac 18 = .slice y1_1p y1_1n y1_1c := y2_5e
      have z6_ : sl ac 19 = .pointer (some ⟨w.heap.size + 1, 2, none⟩) := y2_6e
      have z7_ : sl ac 20 = .slice y1_3q y1_3k y1_3d := y2_7e
      have z8_ : sl ac 21 = .slice y2_8p y2_8n y2_8c := y2_8e
      have z9_ : sl ac 22 = .agg #[.bool y2_9b, .slice y2_9p y2_9n y2_9c] := y2_9e
      have z10_ : sl ac 5 = .pointer (some ⟨y2_10s, 0, none⟩) := y2_10e
      rw [hM.ag.lay]
      simp only [lay, List.foldl_cons, List.foldl_nil, List.setIfInBounds_toArray, List.set_cons_zero, List.set_cons_succ, z0_, z1_, z2_, z3_, z4_, z5_, z6_, z7_, z8_, z9_, z10_]
      clear hM hkeep2 hob2 hne2 z0_ z1_ z2_ z3_ z4_ z5_ z6_ z7_ z8_ z9_ z10_ y2_0e y2_1e y2_2e y2_3e y2_4e y2_5e y2_6e y2_7e y2_8e y2_9e y2_10e
      go_wp2_with fail
      have hkeep3 : AllAt' ([(w.heap.size, 0, .bool y1_1b), (w.heap.size, 1, .slice y1_1p y1_1n y1_1c), (w.heap.size, 2, .slice y1_1q y1_1k y1_1d), (w.heap.size + 1, 0, .bool y1_3b), (w.heap.size + 1, 1, .slice y1_3p y1_3n y1_3c), (w.heap.size + 1, 2, .slice y1_3q y1_3k y1_3d), (w.heap.size + 1 + 1, 0, .bool false), (w.heap.size + 1 + 1, 1, .slice none 0 0), (w.heap.size + 1 + 1, 2, .slice none 0 0), (y2_10s, 0, .bool y2_9b), (y2_10s, 1, .slice y2_9p y2_9n y2_9c)] : List (Nat × Nat × Value)) v3 := AllAt'.cons b0_0.out (AllAt'.cons b0_1.out (AllAt'.cons b0_2.out (AllAt'.cons b1_0.out (AllAt'.cons b1_1.out (AllAt'.cons b1_2.out (AllAt'.cons b2_0.out (AllAt'.cons b2_1.out (AllAt'.cons b2_2.out (AllAt'.cons b3_0.out (AllAt'.cons b3_1.out (AllAt'.nil _)))))))))))
      have hob3 : ObOk w.heap.size v3 (([(w.heap.size, 0, .bool y1_1b), (w.heap.size, 1, .slice y1_1p y1_1n y1_1c), (w.heap.size, 2, .slice y1_1q y1_1k y1_1d), (w.heap.size + 1, 0, .bool y1_3b), (w.heap.size + 1, 1, .slice y1_3p y1_3n y1_3c), (w.heap.size + 1, 2, .slice y1_3q y1_3k y1_3d), (w.heap.size + 1 + 1, 0, .bool false), (w.heap.size + 1 + 1, 1, .slice none 0 0), (w.heap.size + 1 + 1, 2, .slice none 0 0), (y2_10s, 0, .bool y2_9b), (y2_10s, 1, .slice y2_9p y2_9n y2_9c)] : List (Nat × Nat × Value)).map (·.1)) ([] : List (Nat × List (Nat × Value))) := trivial
      have hne3 : AllNe (([] : List (Nat × List (Nat × Value))).map (·.1)) := trivial
      (try simp only [List.append_eq, List.cons_append, List.nil_append])
      refine wp_region_gen ⟨[23, 24, 25, 26, 27, 28, 29, 30, 31, 32, 6], fun i => i == 10, fun i => ([none, none, none, none, none, none, none, none, none, none, none, some (.op 10, 9)] : List (Option (BoxRef × Nat))).getD i none, fun i => ([Sg.val (.pointer (some ⟨w.heap.size + 1, 0, none⟩)), Sg.val (.pointer (some ⟨w.heap.size + 1, 0, none⟩)), Sg.val (.bool y1_3b), Sg.val (.pointer (some ⟨w.heap.size + 1, 0, none⟩)), Sg.val (.pointer (some ⟨w.heap.size + 1, 1, none⟩)), Sg.val (.slice y1_3p y1_3n y1_3c), Sg.val (.pointer (some ⟨w.heap.size, 2, none⟩)), Sg.val (.slice y1_1q y1_1k y1_1d), Sg.natO w.heap.size ((b).num.natAbs * (a).den), Sg.intO w.heap.size ((b).num * ((a).den : Nat)), Sg.box 2 v3.heap.size, Sg.any] : List Sg).getD i Sg.any, [(w.heap.size, 0, .bool y1_1b), (w.heap.size, 1, .slice y1_1p y1_1n y1_1c), (w.heap.size, 2, .slice y1_1q y1_1k y1_1d), (w.heap.size + 1, 0, .bool y1_3b), (w.heap.size + 1, 1, .slice y1_3p y1_3n y1_3c), (w.heap.size + 1, 2, .slice y1_3q y1_3k y1_3d), (w.heap.size + 1 + 1, 0, .bool false), (w.heap.size + 1 + 1, 1, .slice none 0 0), (w.heap.size + 1 + 1, 2, .slice none 0 0), (y2_10s, 0, .bool y2_9b), (y2_10s, 1, .slice y2_9p y2_9n y2_9c)], []⟩ w.heap.size (by kernel_rfl) (by kernel_rfl) e3_.size ?hfr hkeep3 hob3 hne3 ?hs ?he
      case hfr =>
        intro i v wk hi hst hv
        have : i = 10 := by simpa [or_assoc] using hi
        subst this; obtain ⟨s, rfl, -, hb⟩ := hv; exact hb.lt
      case hs =>
        refine ⟨?_, ?_, ?_, ?_, ?_, ?_, ?_, ?_, ?_, ?_, ?_, ?_, trivial⟩
        · refine RStep.op rfl rfl (fun ac wk hp K hK => ?_)
          have t3_ : ac.tmps[3]?.getD undef = .pointer (some ⟨w.heap.size + 1, 0, none⟩) := hp.slot 3 rfl rfl
          have HP := Lib.hid hp
          clear hp
          go_simp
          refine hK.out _ _ ?_ (Ext.refl _) (fun h => absurd h (by simp))
          exact rfl
        · refine RStep.op rfl rfl (fun ac wk hp K hK => ?_)
          have u0e := hp.get 0 (by decide +kernel) rfl
          have t23_ : ac.tmps[23]?.getD undef = .pointer (some ⟨w.heap.size + 1, 0, none⟩) := slot_is' u0e
          have HP := Lib.hid hp
          clear hp
          go_simp
          refine hK.out _ _ ?_ (Ext.refl _) (fun h => absurd h (by simp))
          exact rfl
        · refine RStep.op rfl rfl (fun ac wk hp K hK => ?_)
          have u1e := hp.get 1 (by decide +kernel) rfl
          have t24_ : ac.tmps[24]?.getD undef = .pointer (some ⟨w.heap.size + 1, 0, none⟩) := slot_is' u1e
          have c0_ := hp.cell 3 rfl
          have HP := Lib.hid hp
          clear hp
          go_simp
          refine hK.out _ _ ?_ (Ext.refl _) (fun h => absurd h (by simp))
          exact rfl
        · refine RStep.op rfl rfl (fun ac wk hp K hK => ?_)
          have t3_ : ac.tmps[3]?.getD undef = .pointer (some ⟨w.heap.size + 1, 0, none⟩) := hp.slot 3 rfl rfl
          have HP := Lib.hid hp
          clear hp
          go_simp
          refine hK.out _ _ ?_ (Ext.refl _) (fun h => absurd h (by simp))
          exact rfl
        · refine RStep.op rfl rfl (fun ac wk hp K hK => ?_)
          have u3e := hp.get 3 (by decide +kernel) rfl
          have t26_ : ac.tmps[26]?.getD undef = .pointer (some ⟨w.heap.size + 1, 0, none⟩) := slot_is' u3e
          have HP := Lib.hid hp
          clear hp
          go_simp
          refine hK.out _ _ ?_ (Ext.refl _) (fun h => absurd h (by simp))
          exact rfl
        · refine RStep.op rfl rfl (fun ac wk hp K hK => ?_)
          have u4e := hp.get 4 (by decide +kernel) rfl
          have t27_ : ac.tmps[27]?.getD undef = .pointer (some ⟨w.heap.size + 1, 1, none⟩) := slot_is' u4e
          have c0_ := hp.cell 4 rfl
          have HP := Lib.hid hp
          clear hp
          go_simp
          refine hK.out _ _ ?_ (Ext.refl _) (fun h => absurd h (by simp))
          exact rfl
        · refine RStep.op rfl rfl (fun ac wk hp K hK => ?_)
          have t2_ : ac.tmps[2]?.getD undef = .pointer (some ⟨w.heap.size, 0, none⟩) := hp.slot 2 rfl rfl
          have HP := Lib.hid hp
          clear hp
          go_simp
          refine hK.out _ _ ?_ (Ext.refl _) (fun h => absurd h (by simp))
          exact rfl
        · refine RStep.op rfl rfl (fun ac wk hp K hK => ?_)
          have u6e := hp.get 6 (by decide +kernel) rfl
          have t29_ : ac.tmps[29]?.getD undef = .pointer (some ⟨w.heap.size, 2, none⟩) := slot_is' u6e
          have c0_ := hp.cell 2 rfl
          have HP := Lib.hid hp
          clear hp
          go_simp
          refine hK.out _ _ ?_ (Ext.refl _) (fun h => absurd h (by simp))
          exact rfl
        · refine RStep.op rfl rfl (fun ac wk hp K hK => ?_)
          have u5e := hp.get 5 (by decide +kernel) rfl
          have t28_ : ac.tmps[28]?.getD undef = .slice y1_3p y1_3n y1_3c := slot_is' u5e
          have u7e := hp.get 7 (by decide +kernel) rfl
          have t30_ : ac.tmps[30]?.getD undef = .slice y1_1q y1_1k y1_1d := slot_is' u7e
          have HP := Lib.hid hp
          clear hp
          go_simp
          refine (nmul02 (Limbs.inN (k := l) (y1_3i.gr (gv3.trans HP.out.gr)).mag LB.out.1) (Limbs.inN (k := k) (y1_1i.gr (gv3.trans HP.out.gr)).den LA.out.2) (by have h1 := HK.out; omega)).mono ?_
          rintro e wk' ⟨sv4, rfl, o4, ix⟩
          obtain ⟨sp4, sl4, sc4, rfl⟩ := o4.slice'
          refine hK.out _ _ ?_ ix (fun h => absurd h (by simp))
          exact ⟨_, _, _, rfl, (o4.mono (Nat.le_trans e3_.size HP.out.gr.size))⟩
        · refine RStep.op rfl rfl (fun ac wk hp K hK => ?_)
          have u2e := hp.get 2 (by decide +kernel) rfl
          have t25_ : ac.tmps[25]?.getD undef = .bool y1_3b := slot_is' u2e
          obtain ⟨u8p, u8n, u8c, u8e, u8o⟩ := hp.get 8 (by decide +kernel) rfl
          have t31_ : ac.tmps[31]?.getD undef = .slice u8p u8n u8c := slot_is' u8e
          have HP := Lib.hid hp
          clear hp
          go_simp
          refine hK.out _ _ ?_ (Ext.refl _) (fun h => absurd h (by simp))
          exact ⟨_, _, _, _, _, rfl, isI_by (y1_3i.gr (gv3.trans HP.out.gr)).1 (Rat.den_nz _) u8o.limbs, u8o⟩
        · refine RStep.op rfl rfl (fun ac wk hp K hK => ?_)
          have hsz := hp.gr.size
          clear hp
          go_simp
          exact hK.out _ _ ⟨_, rfl, hsz, Bx.new 2 ⟨rfl, by decide⟩ (by decide) noI_s2⟩ ((Ext.refl _).alloc _) (fun _ => rfl)
        · refine RStep.st 10 9 rfl rfl (fun ac wk hp => ?_)
          obtain ⟨u10s, u10e, u10l, u10b⟩ := hp.get 10 (by decide +kernel) rfl
          have t6_ : ac.tmps[6]?.getD undef = .pointer (some ⟨u10s, 0, none⟩) := slot_is' u10e
          obtain ⟨u9b, u9p, u9n, u9c, u9m, u9e, u9i, u9o⟩ := hp.get 9 (by decide +kernel) rfl
          have t32_ : ac.tmps[32]?.getD undef = .agg #[.bool u9b, .slice u9p u9n u9c] := slot_is' u9e
          obtain ⟨d0, hd0, -⟩ := Bx.cell u10b (o := 0) (by decide)
          have fz0 := Bx.free u10b 0
          obtain ⟨d1, hd1, -⟩ := Bx.cell u10b (o := 1) (by decide)
          have fz1 := Bx.free u10b 1
          refine ⟨u10s, 2, [.bool u9b, .slice u9p u9n u9c], u10e, u10b, by rw [u9e]; rfl, rfl, noI_s2, fun K hK => ?_⟩
          have HK := Lib.hid hK
          clear hK hp
          go_simp
          exact HK.out
      case he =>
        intro ac v4 hM
        have y3_0e := hM.post 0 rfl rfl
        have y3_1e := hM.post 1 rfl rfl
        have y3_2e := hM.post 2 rfl rfl
        have y3_3e := hM.post 3 rfl rfl
        have y3_4e := hM.post 4 rfl rfl
        have y3_5e := hM.post 5 rfl rfl
        have y3_6e := hM.post 6 rfl rfl
        have y3_7e := hM.post 7 rfl rfl
        obtain ⟨y3_8p, y3_8n, y3_8c, y3_8e, y3_8o⟩ := hM.post 8 rfl rfl
        obtain ⟨y3_9b, y3_9p, y3_9n, y3_9c, y3_9m, y3_9e, y3_9i, y3_9o⟩ := hM.post 9 rfl rfl
        obtain ⟨y3_10s, y3_10e, y3_10l, y3_10b⟩ := hM.post 10 rfl rfl
        have l4 := Lib.hid y3_10l
        have k4 := Lib.hid y3_10b
        have u4 := Lib.hid (Bx.lt y3_10b)
        have b4_0 : Hid (At (y3_10s) 0 (.bool y3_9b) v4) := Lib.hid (hM.boxOp 11 10 9 rfl rfl y3_10e (cs := [.bool y3_9b, .slice y3_9p y3_9n y3_9c]) (by rw [y3_9e]; rfl) 0 _ rfl)
        have b4_1 : Hid (At (y3_10s) 1 (.slice y3_9p y3_9n y3_9c) v4) := Lib.hid (hM.boxOp 11 10 9 rfl rfl y3_10e (cs := [.bool y3_9b, .slice y3_9p y3_9n y3_9c]) (by rw [y3_9e]; rfl) 1 _ rfl)
        have b0_0 : Hid (At (w.heap.size) 0 (.bool y1_1b) v4) := Lib.hid (hM.keep.at 0 rfl)
        have b0_1 : Hid (At (w.heap.size) 1 (.slice y1_1p y1_1n y1_1c) v4) := Lib.hid (hM.keep.at 1 rfl)
        have b0_2 : Hid (At (w.heap.size) 2 (.slice y1_1q y1_1k y1_1d) v4) := Lib.hid (hM.keep.at 2 rfl)
        have b1_0 : Hid (At (w.heap.size + 1) 0 (.bool y1_3b) v4) := Lib.hid (hM.keep.at 3 rfl)
        have b1_1 : Hid (At (w.heap.size + 1) 1 (.slice y1_3p y1_3n y1_3c) v4) := Lib.hid (hM.keep.at 4 rfl)
        have b1_2 : Hid (At (w.heap.size + 1) 2 (.slice y1_3q y1_3k y1_3d) v4) := Lib.hid (hM.keep.at 5 rfl)
        have b2_0 : Hid (At (w.heap.size + 1 + 1) 0 (.bool false) v4) := Lib.hid (hM.keep.at 6 rfl)
        have b2_1 : Hid (At (w.heap.size + 1 + 1) 1 (.slice none 0 0) v4) := Lib.hid (hM.keep.at 7 rfl)
        have b2_2 : Hid (At (w.heap.size + 1 + 1) 2 (.slice none 0 0) v4) := Lib.hid (hM.keep.at 8 rfl)
        have b3_0 : Hid (At (y2_10s) 0 (.bool y2_9b) v4) := Lib.hid (hM.keep.at 9 rfl)
        have b3_1 : Hid (At (y2_10s) 1 (.slice y2_9p y2_9n y2_9c) v4) := Lib.hid (hM.keep.at 10 rfl)
        have gv4 : Gr v3 v4 := hM.gr
        have e4_ : Ext w v4 := Ext.below e3_ hM.blw
        have z0_ : sl ac 23 = .pointer (some ⟨w.heap.size + 1, 0, none⟩) := y3_0e
        have z1_ : sl ac 24 = .pointer (some ⟨w.heap.size + 1, 0, none⟩) := y3_1e
        have z2_ : sl ac 25 = .bool y1_3b := y3_2e
        have z3_ : sl ac 26 = .pointer (some ⟨w.heap.size + 1, 0, none⟩) := y3_3e
        have z4_ : sl ac 27 = .pointer (some ⟨w.heap.size + 1, 1, none⟩) := y3_4e
        have z5_ : sl ac 28 = .slice y1_3p y1_3n y1_3c := y3_5e
        have z6_ : sl ac 29 = .pointer (some ⟨w.heap.size, 2, none⟩) := y3_6e
        have z7_ : sl ac 30 = .slice y1_1q y1_1k y1_1d := y3_7e
        have z8_ : sl ac 31 = .slice y3_8p y3_8n y3_8c := y3_8e
        have z9_ : sl ac 32 = .agg #[.bool y3_9b, .slice y3_9p y3_9n y3_9c] := y3_9e
        have z10_ : sl ac 6 = .pointer (some ⟨y3_10s, 0, none⟩) := y3_10e
        rw [hM.ag.lay]
        simp only [lay, List.foldl_cons, List.foldl_nil, List.setIfInBounds_toArray, List.set_cons_zero, List.set_cons_succ, z0_, z1_, z2_, z3_, z4_, z5_, z6_, z7_, z8_, z9_, z10_]
        clear hM hkeep3 hob3 hne3 z0_ z1_ z2_ z3_ z4_ z5_ z6_ z7_ z8_ z9_ z10_ y3_0e y3_1e y3_2e y3_3e y3_4e y3_5e y3_6e y3_7e y3_8e y3_9e y3_10e
        go_wp2_with fail
        have hkeep4 : AllAt' ([(w.heap.size, 0, .bool y1_1b), (w.heap.size, 1, .slice y1_1p y1_1n y1_1c), (w.heap.size, 2, .slice y1_1q y1_1k y1_1d), (w.heap.size + 1, 0, .bool y1_3b), (w.heap.size + 1, 1, .slice y1_3p y1_3n y1_3c), (w.heap.size + 1, 2, .slice y1_3q y1_3k y1_3d), (w.heap.size + 1 + 1, 0, .bool false), (w.heap.size + 1 + 1, 1, .slice none 0 0), (w.heap.size + 1 + 1, 2, .slice none 0 0), (y2_10s, 0, .bool y2_9b), (y2_10s, 1, .slice y2_9p y2_9n y2_9c), (y3_10s, 0, .bool y3_9b), (y3_10s, 1, .slice y3_9p y3_9n y3_9c)] : List (Nat × Nat × Value)) v4 := AllAt'.cons b0_0.out (AllAt'.cons b0_1.out (AllAt'.cons b0_2.out (AllAt'.cons b1_0.out (AllAt'.cons b1_1.out (AllAt'.cons b1_2.out (AllAt'.cons b2_0.out (AllAt'.cons b2_1.out (AllAt'.cons b2_2.out (AllAt'.cons b3_0.out (AllAt'.cons b3_1.out (AllAt'.cons b4_0.out (AllAt'.cons b4_1.out (AllAt'.nil _)))))))))))))
        have hob4 : ObOk w.heap.size v4 (([(w.heap.size, 0, .bool y1_1b), (w.heap.size, 1, .slice y1_1p y1_1n y1_1c), (w.heap.size, 2, .slice y1_1q y1_1k y1_1d), (w.heap.size + 1, 0, .bool y1_3b), (w.heap.size + 1, 1, .slice y1_3p y1_3n y1_3c), (w.heap.size + 1, 2, .slice y1_3q y1_3k y1_3d), (w.heap.size + 1 + 1, 0, .bool false), (w.heap.size + 1 + 1, 1, .slice none 0 0), (w.heap.size + 1 + 1, 2, .slice none 0 0), (y2_10s, 0, .bool y2_9b), (y2_10s, 1, .slice y2_9p y2_9n y2_9c), (y3_10s, 0, .bool y3_9b), (y3_10s, 1, .slice y3_9p y3_9n y3_9c)] : List (Nat × Nat × Value)).map (·.1)) ([] : List (Nat × List (Nat × Value))) := trivial
        have hne4 : AllNe (([] : List (Nat × List (Nat × Value))).map (·.1)) := trivial
        (try simp only [List.append_eq, List.cons_append, List.nil_append])
        refine wp_region_gen ⟨[34, 35, 36, 37, 38, 39, 40, 41, 42, 33, 43, 44, 7, 8], fun i => i == 12, fun i => ([none, none, none, none, none, none, none, none, none, none, none, none, none, some (.op 12, 10), none] : List (Option (BoxRef × Nat))).getD i none, fun i => ([Sg.intO w.heap.size ((a).num * ((b).den : Nat)), Sg.intO w.heap.size ((b).num * ((a).den : Nat)), Sg.intO w.heap.size (((a).num * ((b).den : Nat)) + ((b).num * ((a).den : Nat))), Sg.val (.pointer (some ⟨w.heap.size, 2, none⟩)), Sg.val (.slice y1_1q y1_1k y1_1d), Sg.val (.pointer (some ⟨w.heap.size + 1, 2, none⟩)), Sg.val (.slice y1_3q y1_3k y1_3d), Sg.natO w.heap.size ((a).den * (b).den), Sg.two (Sg.ratO w.heap.size (a + b)) (Sg.val (.int .i64 0)), Sg.two (Sg.ratO w.heap.size (a + b)) (Sg.val (.int .i64 0)), Sg.ratO w.heap.size (a + b), Sg.val (.int .i64 0), Sg.box 3 v4.heap.size, Sg.any, Sg.val (.int .i64 0)] : List Sg).getD i Sg.any, [(w.heap.size, 0, .bool y1_1b), (w.heap.size, 1, .slice y1_1p y1_1n y1_1c), (w.heap.size, 2, .slice y1_1q y1_1k y1_1d), (w.heap.size + 1, 0, .bool y1_3b), (w.heap.size + 1, 1, .slice y1_3p y1_3n y1_3c), (w.heap.size + 1, 2, .slice y1_3q y1_3k y1_3d), (w.heap.size + 1 + 1, 0, .bool false), (w.heap.size + 1 + 1, 1, .slice none 0 0), (w.heap.size + 1 + 1, 2, .slice none 0 0), (y2_10s, 0, .bool y2_9b), (y2_10s, 1, .slice y2_9p y2_9n y2_9c), (y3_10s, 0, .bool y3_9b), (y3_10s, 1, .slice y3_9p y3_9n y3_9c)], []⟩ w.heap.size (by kernel_rfl) (by kernel_rfl) e4_.size ?hfr hkeep4 hob4 hne4 ?hs ?he
        case hfr =>
          intro i v wk hi hst hv
          have : i = 12 := by simpa [or_assoc] using hi
          subst this; obtain ⟨s, rfl, -, hb⟩ := hv; exact hb.lt
        case hs =>
          refine ⟨?_, ?_, ?_, ?_, ?_, ?_, ?_, ?_, ?_, ?_, ?_, ?_, ?_, ?_, ?_, trivial⟩
          · refine RStep.op rfl rfl (fun ac wk hp K hK => ?_)
            have t5_ : ac.tmps[5]?.getD undef = .pointer (some ⟨y2_10s, 0, none⟩) := hp.slot 5 rfl rfl
            have c0_ := hp.cell 9 rfl
            have c1_ := hp.cell 10 rfl
            have HP := Lib.hid hp
            clear hp
            go_simp
            refine hK.out _ _ ?_ (Ext.refl _) (fun h => absurd h (by simp))
            exact ⟨_, _, _, _, _, rfl, (y2_9i.gr (gv4.trans HP.out.gr)), (y2_9o.gr (gv4.trans HP.out.gr))⟩
          · refine RStep.op rfl rfl (fun ac wk hp K hK => ?_)
            have t6_ : ac.tmps[6]?.getD undef = .pointer (some ⟨y3_10s, 0, none⟩) := hp.slot 6 rfl rfl
            have c0_ := hp.cell 11 rfl
            have c1_ := hp.cell 12 rfl
            have HP := Lib.hid hp
            clear hp
            go_simp
            refine hK.out _ _ ?_ (Ext.refl _) (fun h => absurd h (by simp))
            exact ⟨_, _, _, _, _, rfl, (y3_9i.gr HP.out.gr), (y3_9o.gr HP.out.gr)⟩
          · refine RStep.op rfl rfl (fun ac wk hp K hK => ?_)
            obtain ⟨u0b, u0p, u0n, u0c, u0m, u0e, u0i, u0o⟩ := hp.get 0 (by decide +kernel) rfl
            have t34_ : ac.tmps[34]?.getD undef = .agg #[.bool u0b, .slice u0p u0n u0c] := slot_is' u0e
            obtain ⟨u1b, u1p, u1n, u1c, u1m, u1e, u1i, u1o⟩ := hp.get 1 (by decide +kernel) rfl
            have t35_ : ac.tmps[35]?.getD undef = .agg #[.bool u1b, .slice u1p u1n u1c] := slot_is' u1e
            have HP := Lib.hid hp
            clear hp
            go_simp
            refine (plus06 (u0i.inI (k := (k + l)) (lenI_by (lt_mul LA.out.1 LB.out.2))) (u1i.inI (k := (l + k)) (lenI_by (lt_mul LB.out.1 LA.out.2))) (by have h1 := HK.out; omega)).mono ?_
            rintro e wk' ⟨sb5, sv5, sm5, rfl, e5, o5, ix⟩
            obtain ⟨sp5, sl5, sc5, rfl⟩ := e5.slice
            refine hK.out _ _ ?_ ix (fun h => absurd h (by simp))
            exact ⟨_, _, _, _, _, rfl, e5, (o5.mono (Nat.le_trans e4_.size HP.out.gr.size))⟩
          · refine RStep.op rfl rfl (fun ac wk hp K hK => ?_)
            have t2_ : ac.tmps[2]?.getD undef = .pointer (some ⟨w.heap.size, 0, none⟩) := hp.slot 2 rfl rfl
            have HP := Lib.hid hp
            clear hp
            go_simp
            refine hK.out _ _ ?_ (Ext.refl _) (fun h => absurd h (by simp))
            exact rfl
          · refine RStep.op rfl rfl (fun ac wk hp K hK => ?_)
            have u3e := hp.get 3 (by decide +kernel) rfl
            have t37_ : ac.tmps[37]?.getD undef = .pointer (some ⟨w.heap.size, 2, none⟩) := slot_is' u3e
            have c0_ := hp.cell 2 rfl
            have HP := Lib.hid hp
            clear hp
            go_simp
            refine hK.out _ _ ?_ (Ext.refl _) (fun h => absurd h (by simp))
            exact rfl
          · refine RStep.op rfl rfl (fun ac wk hp K hK => ?_)
            have t3_ : ac.tmps[3]?.getD undef = .pointer (some ⟨w.heap.size + 1, 0, none⟩) := hp.slot 3 rfl rfl
            have HP := Lib.hid hp
            clear hp
            go_simp
            refine hK.out _ _ ?_ (Ext.refl _) (fun h => absurd h (by simp))
            exact rfl
          · refine RStep.op rfl rfl (fun ac wk hp K hK => ?_)
            have u5e := hp.get 5 (by decide +kernel) rfl
            have t39_ : ac.tmps[39]?.getD undef = .pointer (some ⟨w.heap.size + 1, 2, none⟩) := slot_is' u5e
            have c0_ := hp.cell 5 rfl
            have HP := Lib.hid hp
            clear hp
            go_simp
            refine hK.out _ _ ?_ (Ext.refl _) (fun h => absurd h (by simp))
            exact rfl
          · refine RStep.op rfl rfl (fun ac wk hp K hK => ?_)
            have u4e := hp.get 4 (by decide +kernel) rfl
            have t38_ : ac.tmps[38]?.getD undef = .slice y1_1q y1_1k y1_1d := slot_is' u4e
            have u6e := hp.get 6 (by decide +kernel) rfl
            have t40_ : ac.tmps[40]?.getD undef = .slice y1_3q y1_3k y1_3d := slot_is' u6e
            have HP := Lib.hid hp
            clear hp
            go_simp
            refine (nmul02 (Limbs.inN (k := k) (y1_1i.gr ((gv3.trans gv4).trans HP.out.gr)).den LA.out.2) (Limbs.inN (k := l) (y1_3i.gr ((gv3.trans gv4).trans HP.out.gr)).den LB.out.2) (by have h1 := HK.out; omega)).mono ?_
            rintro e wk' ⟨sv6, rfl, o6, ix⟩
            obtain ⟨sp6, sl6, sc6, rfl⟩ := o6.slice'
            refine hK.out _ _ ?_ ix (fun h => absurd h (by simp))
            exact ⟨_, _, _, rfl, (o6.mono (Nat.le_trans e4_.size HP.out.gr.size))⟩
          · refine RStep.op rfl rfl (fun ac wk hp K hK => ?_)
            obtain ⟨u2b, u2p, u2n, u2c, u2m, u2e, u2i, u2o⟩ := hp.get 2 (by decide +kernel) rfl
            have t36_ : ac.tmps[36]?.getD undef = .agg #[.bool u2b, .slice u2p u2n u2c] := slot_is' u2e
            obtain ⟨u7p, u7n, u7c, u7e, u7o⟩ := hp.get 7 (by decide +kernel) rfl
            have t41_ : ac.tmps[41]?.getD undef = .slice u7p u7n u7c := slot_is' u7e
            have HP := Lib.hid hp
            clear hp
            go_simp
            refine (rmake06_is (q := (a + b)) (u2i.inI (k := (max (k + l) (l + k) + 1)) (LenI.add (LenI.mono (lenI_by (lt_mul LA.out.1 LB.out.2)) (Nat.le_max_left _ _)) (LenI.mono (lenI_by (lt_mul LB.out.1 LA.out.2)) (Nat.le_max_right _ _)))) (Limbs.inN (k := (k + l)) u7o.limbs (lt_mul LA.out.2 LB.out.2)) (Nat.mul_ne_zero a.den_nz b.den_nz) (by have h1 := HK.out; omega) (by have h1 := HK.out; omega) (Rat.add_def' a b).symm).mono ?_
            rintro e wk' ⟨sb7, sv7, su7, sm7, sd7, rfl, e7, o7, ix⟩
            obtain ⟨sp7, sl7, sc7, tp7, tl7, tc7, rfl, rfl⟩ := e7.slice
            refine hK.out _ _ ?_ ix (fun h => absurd h (by simp))
            exact ⟨_, _, rfl, ⟨_, _, _, _, _, _, _, _, _, rfl, e7, (o7.mono (Nat.le_trans e4_.size HP.out.gr.size))⟩, rfl⟩
          · refine RStep.op rfl rfl (fun ac wk hp K hK => ?_)
            obtain ⟨_, _, u8e, ⟨u8xb, u8xp, u8xn, u8xc, u8xq, u8xk, u8xd, u8xm, u8xl, rfl, u8xi, u8xo⟩, rfl⟩ := hp.get 8 (by decide +kernel) rfl
            have t42_ : ac.tmps[42]?.getD undef = .tuple #[.agg #[.bool u8xb, .slice u8xp u8xn u8xc, .slice u8xq u8xk u8xd], .int .i64 0] := slot_is' u8e
            have HP := Lib.hid hp
            clear hp
            go_simp
            refine hK.out _ _ ?_ (Ext.refl _) (fun h => absurd h (by simp))
            exact ⟨_, _, rfl, ⟨_, _, _, _, _, _, _, _, _, rfl, u8xi, u8xo⟩, rfl⟩
          · refine RStep.op rfl rfl (fun ac wk hp K hK => ?_)
            obtain ⟨_, _, u9e, ⟨u9xb, u9xp, u9xn, u9xc, u9xq, u9xk, u9xd, u9xm, u9xl, rfl, u9xi, u9xo⟩, rfl⟩ := hp.get 9 (by decide +kernel) rfl
            have t33_ : ac.tmps[33]?.getD undef = .tuple #[.agg #[.bool u9xb, .slice u9xp u9xn u9xc, .slice u9xq u9xk u9xd], .int .i64 0] := slot_is' u9e
            have HP := Lib.hid hp
            clear hp
            go_simp
            refine hK.out _ _ ?_ (Ext.refl _) (fun h => absurd h (by simp))
            exact ⟨_, _, _, _, _, _, _, _, _, rfl, u9xi, u9xo⟩
          · refine RStep.op rfl rfl (fun ac wk hp K hK => ?_)
            obtain ⟨_, _, u9e, ⟨u9xb, u9xp, u9xn, u9xc, u9xq, u9xk, u9xd, u9xm, u9xl, rfl, u9xi, u9xo⟩, rfl⟩ := hp.get 9 (by decide +kernel) rfl
            have t33_ : ac.tmps[33]?.getD undef = .tuple #[.agg #[.bool u9xb, .slice u9xp u9xn u9xc, .slice u9xq u9xk u9xd], .int .i64 0] := slot_is' u9e
            have HP := Lib.hid hp
            clear hp
            go_simp
            refine hK.out _ _ ?_ (Ext.refl _) (fun h => absurd h (by simp))
            exact rfl
          · refine RStep.op rfl rfl (fun ac wk hp K hK => ?_)
            have hsz := hp.gr.size
            clear hp
            go_simp
            exact hK.out _ _ ⟨_, rfl, hsz, Bx.new 3 ⟨rfl, by decide⟩ (by decide) noI_s3⟩ ((Ext.refl _).alloc _) (fun _ => rfl)
          · refine RStep.st 12 10 rfl rfl (fun ac wk hp => ?_)
            obtain ⟨u12s, u12e, u12l, u12b⟩ := hp.get 12 (by decide +kernel) rfl
            have t7_ : ac.tmps[7]?.getD undef = .pointer (some ⟨u12s, 0, none⟩) := slot_is' u12e
            obtain ⟨u10b, u10p, u10n, u10c, u10q, u10k, u10d, u10m, u10l, u10e, u10i, u10o⟩ := hp.get 10 (by decide +kernel) rfl
            have t43_ : ac.tmps[43]?.getD undef = .agg #[.bool u10b, .slice u10p u10n u10c, .slice u10q u10k u10d] := slot_is' u10e
            obtain ⟨d0, hd0, -⟩ := Bx.cell u12b (o := 0) (by decide)
            have fz0 := Bx.free u12b 0
            obtain ⟨d1, hd1, -⟩ := Bx.cell u12b (o := 1) (by decide)
            have fz1 := Bx.free u12b 1
            obtain ⟨d2, hd2, -⟩ := Bx.cell u12b (o := 2) (by decide)
            have fz2 := Bx.free u12b 2
            refine ⟨u12s, 3, [.bool u10b, .slice u10p u10n u10c, .slice u10q u10k u10d], u12e, u12b, by rw [u10e]; rfl, rfl, noI_s3, fun K hK => ?_⟩
            have HK := Lib.hid hK
            clear hK hp
            go_simp
            exact HK.out
          · refine RStep.op rfl rfl (fun ac wk hp K hK => ?_)
            have u11e := hp.get 11 (by decide +kernel) rfl
            have t44_ : ac.tmps[44]?.getD undef = .int .i64 0 := slot_is' u11e
            have HP := Lib.hid hp
            clear hp
            go_simp
            refine hK.out _ _ ?_ (Ext.refl _) (fun h => absurd h (by simp))
            exact rfl
        case he =>
          intro ac v5 hM
          obtain ⟨y4_0b, y4_0p, y4_0n, y4_0c, y4_0m, y4_0e, y4_0i, y4_0o⟩ := hM.post 0 rfl rfl
          obtain ⟨y4_1b, y4_1p, y4_1n, y4_1c, y4_1m, y4_1e, y4_1i, y4_1o⟩ := hM.post 1 rfl rfl
          obtain ⟨y4_2b, y4_2p, y4_2n, y4_2c, y4_2m, y4_2e, y4_2i, y4_2o⟩ := hM.post 2 rfl rfl
          have y4_3e := hM.post 3 rfl rfl
          have y4_4e := hM.post 4 rfl rfl
          have y4_5e := hM.post 5 rfl rfl
          have y4_6e := hM.post 6 rfl rfl
          obtain ⟨y4_7p, y4_7n, y4_7c, y4_7e, y4_7o⟩ := hM.post 7 rfl rfl
          obtain ⟨_, _, y4_8e, ⟨y4_8xb, y4_8xp, y4_8xn, y4_8xc, y4_8xq, y4_8xk, y4_8xd, y4_8xm, y4_8xl, rfl, y4_8xi, y4_8xo⟩, rfl⟩ := hM.post 8 rfl rfl
          obtain ⟨_, _, y4_9e, ⟨y4_9xb, y4_9xp, y4_9xn, y4_9xc, y4_9xq, y4_9xk, y4_9xd, y4_9xm, y4_9xl, rfl, y4_9xi, y4_9xo⟩, rfl⟩ := hM.post 9 rfl rfl
          obtain ⟨y4_10b, y4_10p, y4_10n, y4_10c, y4_10q, y4_10k, y4_10d, y4_10m, y4_10l, y4_10e, y4_10i, y4_10o⟩ := hM.post 10 rfl rfl
          have y4_11e := hM.post 11 rfl rfl
          obtain ⟨y4_12s, y4_12e, y4_12l, y4_12b⟩ := hM.post 12 rfl rfl
          have l5 := Lib.hid y4_12l
          have k5 := Lib.hid y4_12b
          have u5 := Lib.hid (Bx.lt y4_12b)
          have y4_14e := hM.post 14 rfl rfl
          have b5_0 : Hid (At (y4_12s) 0 (.bool y4_10b) v5) := Lib.hid (hM.boxOp 13 12 10 rfl rfl y4_12e (cs := [.bool y4_10b, .slice y4_10p y4_10n y4_10c, .slice y4_10q y4_10k y4_10d]) (by rw [y4_10e]; rfl) 0 _ rfl)
          have b5_1 : Hid (At (y4_12s) 1 (.slice y4_10p y4_10n y4_10c) v5) := Lib.hid (hM.boxOp 13 12 10 rfl rfl y4_12e (cs := [.bool y4_10b, .slice y4_10p y4_10n y4_10c, .slice y4_10q y4_10k y4_10d]) (by rw [y4_10e]; rfl) 1 _ rfl)
          have b5_2 : Hid (At (y4_12s) 2 (.slice y4_10q y4_10k y4_10d) v5) := Lib.hid (hM.boxOp 13 12 10 rfl rfl y4_12e (cs := [.bool y4_10b, .slice y4_10p y4_10n y4_10c, .slice y4_10q y4_10k y4_10d]) (by rw [y4_10e]; rfl) 2 _ rfl)
          have b0_0 : Hid (At (w.heap.size) 0 (.bool y1_1b) v5) := Lib.hid (hM.keep.at 0 rfl)
          have b0_1 : Hid (At (w.heap.size) 1 (.slice y1_1p y1_1n y1_1c) v5) := Lib.hid (hM.keep.at 1 rfl)
          have b0_2 : Hid (At (w.heap.size) 2 (.slice y1_1q y1_1k y1_1d) v5) := Lib.hid (hM.keep.at 2 rfl)
          have b1_0 : Hid (At (w.heap.size + 1) 0 (.bool y1_3b) v5) := Lib.hid (hM.keep.at 3 rfl)
          have b1_1 : Hid (At (w.heap.size + 1) 1 (.slice y1_3p y1_3n y1_3c) v5) := Lib.hid (hM.keep.at 4 rfl)
          have b1_2 : Hid (At (w.heap.size + 1) 2 (.slice y1_3q y1_3k y1_3d) v5) := Lib.hid (hM.keep.at 5 rfl)
          have b2_0 : Hid (At (w.heap.size + 1 + 1) 0 (.bool false) v5) := Lib.hid (hM.keep.at 6 rfl)
          have b2_1 : Hid (At (w.heap.size + 1 + 1) 1 (.slice none 0 0) v5) := Lib.hid (hM.keep.at 7 rfl)
          have b2_2 : Hid (At (w.heap.size + 1 + 1) 2 (.slice none 0 0) v5) := Lib.hid (hM.keep.at 8 rfl)
          have b3_0 : Hid (At (y2_10s) 0 (.bool y2_9b) v5) := Lib.hid (hM.keep.at 9 rfl)
          have b3_1 : Hid (At (y2_10s) 1 (.slice y2_9p y2_9n y2_9c) v5) := Lib.hid (hM.keep.at 10 rfl)
          have b4_0 : Hid (At (y3_10s) 0 (.bool y3_9b) v5) := Lib.hid (hM.keep.at 11 rfl)
          have b4_1 : Hid (At (y3_10s) 1 (.slice y3_9p y3_9n y3_9c) v5) := Lib.hid (hM.keep.at 12 rfl)
          have gv5 : Gr v4 v5 := hM.gr
          have e5_ : Ext w v5 := Ext.below e4_ hM.blw
          have z0_ : sl ac 34 = .agg #[.bool y4_0b, .slice y4_0p y4_0n y4_0c] := y4_0e
          have z1_ : sl ac 35 = .agg #[.bool y4_1b, .slice y4_1p y4_1n y4_1c] := y4_1e
          have z2_ : sl ac 36 = .agg #[.bool y4_2b, .slice y4_2p y4_2n y4_2c] := y4_2e
          have z3_ : sl ac 37 = .pointer (some ⟨w.heap.size, 2, none⟩) := y4_3e
          have z4_ : sl ac 38 = .slice y1_1q y1_1k y1_1d := y4_4e
          have z5_ : sl ac 39 = .pointer (some ⟨w.heap.size + 1, 2, none⟩) := y4_5e
          have z6_ : sl ac 40 = .slice y1_3q y1_3k y1_3d := y4_6e
          have z7_ : sl ac 41 = .slice y4_7p y4_7n y4_7c := y4_7e
          have z8_ : sl ac 42 = .tuple #[.agg #[.bool y4_8xb, .slice y4_8xp y4_8xn y4_8xc, .slice y4_8xq y4_8xk y4_8xd], .int .i64 0] := y4_8e
          have z9_ : sl ac 33 = .tuple #[.agg #[.bool y4_9xb, .slice y4_9xp y4_9xn y4_9xc, .slice y4_9xq y4_9xk y4_9xd], .int .i64 0] := y4_9e
          have z10_ : sl ac 43 = .agg #[.bool y4_10b, .slice y4_10p y4_10n y4_10c, .slice y4_10q y4_10k y4_10d] := y4_10e
          have z11_ : sl ac 44 = .int .i64 0 := y4_11e
          have z12_ : sl ac 7 = .pointer (some ⟨y4_12s, 0, none⟩) := y4_12e
          have z14_ : sl ac 8 = .int .i64 0 := y4_14e
          rw [hM.ag.lay]
          simp only [lay, List.foldl_cons, List.foldl_nil, List.setIfInBounds_toArray, List.set_cons_zero, List.set_cons_succ, z0_, z1_, z2_, z3_, z4_, z5_, z6_, z7_, z8_, z9_, z10_, z11_, z12_, z14_]
          clear hM hkeep4 hob4 hne4 z0_ z1_ z2_ z3_ z4_ z5_ z6_ z7_ z8_ z9_ z10_ z11_ z12_ z14_ y4_0e y4_1e y4_2e y4_3e y4_4e y4_5e y4_6e y4_7e y4_8e y4_9e y4_10e y4_11e y4_12e y4_14e
          have g5_0 := b5_0.out.1
          have g5_1 := b5_1.out.1
          have g5_2 := b5_2.out.1
          have g2_0 := b2_0.out.1
          have g2_1 := b2_1.out.1
          have g2_2 := b2_2.out.1
          have z2_0 := (k2.out.gr (gv2.trans (gv3.trans (gv4.trans gv5)))).free 0
          have z2_1 := (k2.out.gr (gv2.trans (gv3.trans (gv4.trans gv5)))).free 1
          have z2_2 := (k2.out.gr (gv2.trans (gv3.trans (gv4.trans gv5)))).free 2
          have f5 : y4_12s < v5.heap.size := b5_0.out.2
          have f2 : w.heap.size + 1 + 1 < v5.heap.size := b2_0.out.2
          have n2_5 : w.heap.size + 1 + 1 ≠ y4_12s := (by (try dsimp only); have h1 := u2.out; have h2 := (gv2.trans (gv3.trans gv4)).size; have h3 := l5.out; omega)
          have n5_2 : y4_12s ≠ w.heap.size + 1 + 1 := Ne.symm n2_5
          have ff5 : y4_12s < v5.heap.size + 1 := Nat.lt_succ_of_lt f5
          have ff2 : w.heap.size + 1 + 1 < v5.heap.size + 1 := Nat.lt_succ_of_lt f2
          go_wp2_with fail
          obtain ⟨v6, hv6⟩ : ∃ W, W = (((v5.setCell ⟨w.heap.size + 1 + 1, 0, none⟩ (.bool y4_10b)).setCell ⟨w.heap.size + 1 + 1, 1, none⟩ (.slice y4_10p y4_10n y4_10c)).setCell ⟨w.heap.size + 1 + 1, 2, none⟩ (.slice y4_10q y4_10k y4_10d)) := ⟨_, rfl⟩
          have sv6 : v6 = setRow (w.heap.size + 1 + 1) 0 [.bool y4_10b, .slice y4_10p y4_10n y4_10c, .slice y4_10q y4_10k y4_10d] v5 := hv6
          have uv6 := setRow_bx' (o := 0) (cs := [.bool y4_10b, .slice y4_10p y4_10n y4_10c, .slice y4_10q y4_10k y4_10d]) (k2.out.gr (gv2.trans (gv3.trans (gv4.trans gv5)))) (by simp) noI_s3
          have y6 : Gr v5 v6 := by rw [sv6]; exact setRow_gr' (o := 0) (cs := [.bool y4_10b, .slice y4_10p y4_10n y4_10c, .slice y4_10q y4_10k y4_10d]) (k2.out.gr (gv2.trans (gv3.trans (gv4.trans gv5)))) (by simp) noI_s3
          have t6 : Hid (∀ t o u, t ≠ (w.heap.size + 1 + 1) → At t o u v5 → At t o u v6) := fun t o u h k => by rw [sv6]; exact k.setRow h _ _
          have e6_ : Ext w v6 := by rw [sv6]; exact setRow_below _ _ (by omega) _ _ e5_
          have b2_0 : Hid (At (w.heap.size + 1 + 1) 0 (.bool y4_10b) v6) := by rw [sv6]; exact uv6.2.1 0 _ rfl
          have b2_1 : Hid (At (w.heap.size + 1 + 1) 1 (.slice y4_10p y4_10n y4_10c) v6) := by rw [sv6]; exact uv6.2.1 1 _ rfl
          have b2_2 : Hid (At (w.heap.size + 1 + 1) 2 (.slice y4_10q y4_10k y4_10d) v6) := by rw [sv6]; exact uv6.2.1 2 _ rfl
          have k2 : Hid (Bx 3 (w.heap.size + 1 + 1) v6) := by rw [sv6]; exact uv6.1
          rw [← hv6]
          clear hv6 sv6 uv6
          have c0 := b2_0.out.1
          have c1 := b2_1.out.1
          have c2 := b2_2.out.1
          refine bodyPost_ret (v := .agg #[.bool y4_10b, .slice y4_10p y4_10n y4_10c, .slice y4_10q y4_10k y4_10d]) (by simp [results, Tryz.results26, go_sem, c0, c1, c2]) rfl ?_
          exact ⟨_, _, _, _, _, rfl, (y4_10i.gr y6), ((y4_10o.gr y6)), e6_⟩

end Go.Proofs.YtkfioaoooodmnaaGreat
