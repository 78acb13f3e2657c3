/- PermRows answers true at all draws, rows, numbers. -/
import Derived.Test.YtkfioaoooodmnaaGreatDoorRefPermD
import Derived.Test.YtkfioaoooodmnaaGreatDoorRefPCost
import Derived.Test.YtkfioaoooodmnaaGreatDoorPermDr
namespace Go.Proofs.YtkfioaoooodmnaaGreatDoor
open Go Go.RowKit

theorem OwnI.mv12 {ty : TypeId} {B t : Nat} {w w' : World} {v : Value} {L : List Int} (h : OwnI ty B w v L) (m : Mv t w w') (hB : t < B) : OwnI ty B w' v L := by
  rcases h with ⟨h1, h2⟩ | ⟨a, e1, e2, e3, h4⟩
  · refine .inl ⟨h1, ?_⟩
    rcases h2 with h2 | ⟨g, cap, cur, e, hg, hh, rest⟩
    · exact .inl h2
    · exact .inr ⟨g, cap, cur, e, hg, by rw [m.oth g (Array.getElem?_eq_some_iff.1 hh).1 (by omega)]; exact hh, rest⟩
  · exact .inr ⟨a, e1, e2, e3, fun p hp => ⟨(h4 p hp).1, Nat.lt_of_lt_of_le (h4 p hp).2 m.size⟩⟩
theorem OwnZ.blk {t : TypeId} {B : Nat} {w : World} {p : Option Addr} {n c : Nat} {L : List Int} (h : OwnZ t B w (.slice p n c) L) (h0 : 1 ≤ L.length) : ∃ g, p = some ⟨g, 0, none⟩ ∧ B ≤ g ∧ g < w.heap.size ∧ RowG t g c L w := by
  rcases h.1 with h | ⟨_, -, h, -⟩
  · obtain ⟨g, gc, eg, hg, hrow⟩ := RowG.of h h0
    injection eg with a b c
    subst c
    exact ⟨g, a, hg, hrow.lt, hrow⟩
  · omega
theorem spoil_own {B : Nat} {w : World} {p : Option Addr} {n c : Nat} {L : List Int} (h : OwnZ 3 B w (.slice p n c) L) (hn : L.length = n) (hl : n ≤ 64) :
    Calls Tryz.prog 45 #[.slice p n c] w fun e w' => e = .returned (.tuple #[]) ∧ (Ext w w' ∨ ∃ g, p = some ⟨g, 0, none⟩ ∧ 1 ≤ L.length ∧ B ≤ g ∧ Mv g w w') := by
  rcases Nat.eq_zero_or_pos n with h0 | h0
  · subst h0
    exact (spoil_none w p c).mono fun _ _ ⟨h1, h2⟩ => ⟨h1, .inl h2⟩
  · obtain ⟨g, rfl, hg, -, hr⟩ := h.blk (by omega)
    exact (spoil_row hr hn hl).mono fun _ _ ⟨h1, h2⟩ => ⟨h1, .inr ⟨g, rfl, by omega, hg, h2⟩⟩

set_option maxHeartbeats 2000000 in
set_option maxRecDepth 100000 in
theorem permRows_out {w : World} {v u : Value} {D R : List Int} (hD : Ints w v D) (hR : Ints w u R) (n : Int) (h : 200 < D.length ∨ 200 < R.length) :
    Calls Tryz.prog 6 #[v, u, .int .i64 n] w (Yes w) := by
  obtain ⟨a, cap, rfl, h1, h2, -⟩ := hD.open
  obtain ⟨a', cap', rfl, h1', h2', -⟩ := hR.open
  unfold maxLen at h2 h2'
  obtain ⟨d, hd⟩ : ∃ d, D.length = d := ⟨_, rfl⟩
  obtain ⟨r, hr⟩ : ∃ r, R.length = r := ⟨_, rfl⟩
  rw [hd] at h h1 ⊢
  rw [hr] at h h1' ⊢
  have t1 : (d : Int) ≤ 9223372036854775807 := by omega
  have t2 : (r : Int) ≤ 9223372036854775807 := by omega
  clear hD hR hd hr h1 h2 h1' h2'
  by_cases hd2 : 200 < d
  · have t3 : (201 : Int) ≤ d := by omega
    clear h hd2
    go_enter Tryz.func6, Tryz.ntmps6
    go_wp2_with fail
    refine (awake12_calls _).mono ?_
    rintro e w1 ⟨rfl, x1⟩
    go_wp2_with fail
    go_ret
    exact ⟨rfl, x1⟩
  · have t3 : (d : Int) ≤ 200 := by omega
    have t4 : (201 : Int) ≤ r := by omega
    clear h hd2
    go_enter Tryz.func6, Tryz.ntmps6
    go_wp2_with fail
    refine (awake12_calls _).mono ?_
    rintro e w1 ⟨rfl, x1⟩
    go_wp2_with fail
    go_ret
    exact ⟨rfl, x1⟩

set_option maxHeartbeats 8000000 in
set_option maxRecDepth 100000 in
theorem permRows_main {w : World} {v u : Value} {D R : List Int} (hD : Ints w v D) (hR : Ints w u R) (n : Int) (h1 : D.length ≤ 200) (h2 : R.length ≤ 200) :
    Calls Tryz.prog 6 #[v, u, .int .i64 n] w (Yes w) := by
  obtain ⟨pd, cd, rfl⟩ := hD.slice
  obtain ⟨pr, cr, rfl⟩ := hR.slice
  have HD := Lib.hid hD
  have HR := Lib.hid hR
  have HL1 := Lib.hid h1
  obtain ⟨ca, hca⟩ : ∃ c, errP D = c := ⟨_, rfl⟩
  obtain ⟨cb, hcb⟩ : ∃ c, errR12 R = c := ⟨_, rfl⟩
  obtain ⟨A, hA⟩ : ∃ A, rwL D = A := ⟨_, rfl⟩
  obtain ⟨B, hB⟩ : ∃ B, drL R = B := ⟨_, rfl⟩
  obtain ⟨⟨⟨xb, xn, xd⟩, cc⟩, hcc⟩ : ∃ q, co12 n = q := ⟨_, rfl⟩
  have HCA := Lib.hid hca
  have HCB := Lib.hid hcb
  have HCC := Lib.hid hcc
  have HA := Lib.hid hA
  have HB := Lib.hid hB
  obtain ⟨la, hla⟩ : ∃ l, A.length = l := ⟨_, rfl⟩
  obtain ⟨lb, hlb⟩ : ∃ l, B.length = l := ⟨_, rfl⟩
  have HLA := Lib.hid hla
  have HLB := Lib.hid hlb
  have LA64 : Hid (la ≤ 64) := by rw [← hla, ← hA]; exact rwL_length D
  have LB64 : Hid (lb ≤ 64) := by rw [← hlb, ← hB]; exact drL_length R
  have ba : (la : Int) ≤ 64 := by have := LA64.out; omega
  have bb : (lb : Int) ≤ 64 := by have := LB64.out; omega
  obtain ⟨d, hd⟩ : ∃ d, D.length = d := ⟨_, rfl⟩
  obtain ⟨r, hr⟩ : ∃ r, R.length = r := ⟨_, rfl⟩
  rw [hd] at HD h1 ⊢
  rw [hr] at HR h2 ⊢
  have t1 : (d : Int) ≤ 200 := by omega
  have t2 : (r : Int) ≤ 200 := by omega
  have ta : ((ca : Int) != (ca : Int)) = false := by simp
  have tb : ((cb : Int) != (cb : Int)) = false := by simp
  have tc : ((cc : Int) != (cc : Int)) = false := by simp
  clear hD hR hca hcb hcc hA hB hla hlb hd hr h1 h2
  go_enter Tryz.func6, Tryz.ntmps6
  go_wp2_with fail
  refine (rrow_all HD.out HL1.out ca HCA.out A HA.out).mono ?_
  rintro e w1 ⟨v1, rfl, o1, x1⟩
  obtain ⟨p1, c1, rfl⟩ := o1.slice
  have O1 := Lib.hid o1.ints
  have X1 := Lib.hid x1
  clear o1 x1
  rw [HLA.out] at O1 ⊢
  go_wp2_with fail
  refine (rpdraws_all (HR.out.ext X1.out) cb HCB.out B HB.out).mono ?_
  rintro e w2 ⟨v2, rfl, o2, x2⟩
  obtain ⟨p2, c2, rfl⟩ := o2.slice
  have O2 := Lib.hid o2.ints
  have O1 := Lib.hid (O1.out.ext x2)
  have X2 := Lib.hid (X1.out.trans x2)
  clear o2 x2 X1
  rw [HLB.out] at O2 ⊢
  go_wp2_with fail
  refine (rpcost_all _ n _ cc HCC.out).mono ?_
  rintro e w3 ⟨q1, q2, q3, q4, q5, q6, rfl, l1, l2, x3⟩
  have Y3 : Ext w3 (w3.alloc (.cells #[.bool xb, .slice q1 q2 q3, .slice q4 q5 q6] 37)) := (Ext.refl _).alloc _
  have L1 := Lib.hid (l1.limbs.ext Y3)
  have L2 := Lib.hid (l2.limbs.ext Y3)
  have O1 := Lib.hid (O1.out.ext (x3.trans Y3))
  have O2 := Lib.hid (O2.out.ext (x3.trans Y3))
  have X4 := Lib.hid (X2.out.trans (x3.trans Y3))
  obtain ⟨s, hs⟩ : ∃ s, w3.heap.size = s := ⟨_, rfl⟩
  have C0 : Hid (At s 0 (.bool xb) (w3.alloc (.cells #[.bool xb, .slice q1 q2 q3, .slice q4 q5 q6] 37))) := by rw [← hs]; exact At.n0 (by rfl)
  have C1 : Hid (At s 1 (.slice q1 q2 q3) (w3.alloc (.cells #[.bool xb, .slice q1 q2 q3, .slice q4 q5 q6] 37))) := by rw [← hs]; exact At.n0 (by rfl)
  have C2 : Hid (At s 2 (.slice q4 q5 q6) (w3.alloc (.cells #[.bool xb, .slice q1 q2 q3, .slice q4 q5 q6] 37))) := by rw [← hs]; exact At.n0 (by rfl)
  clear l1 l2 x3 X2 Y3
  go_wp2_with fail
  (try rw [hs])
  obtain ⟨w4, hw4⟩ : ∃ W, W = w3.alloc (.cells #[.bool xb, .slice q1 q2 q3, .slice q4 q5 q6] 37) := ⟨_, rfl⟩
  rw [← hw4] at L1 L2 O1 O2 X4 C0 C1 C2 ⊢
  clear hw4 hs
  go_loopw [13] (fun v13 wr => ∃ i : Nat, v13 = .int .i64 (i : Int) ∧ i ≤ 2 ∧ Ext w4 wr) (fun v13 _ => 2 - (intOf v13).toNat)
  case atStart => exact ⟨0, rfl, Nat.zero_le _, Ext.refl _⟩
  case round =>
    rename World => w5
    obtain ⟨i, rfl, hi, hx⟩ := hrel
    have X5 := Lib.hid hx
    clear hx
    by_cases hi2 : i < 2
    · have t3 : (i : Int) ≤ 1 := by omega
      have LT := Lib.hid hi2
      clear hi hi2
      go_wp2_with fail
      refine (prow_all (HD.out.ext (X4.out.trans X5.out)) ca HCA.out A HA.out).mono ?_
      rintro e w6 ⟨v6, rfl, o6, x6⟩
      obtain ⟨p6, c6, rfl⟩ := o6.slice
      have B6 : Hid (1 ≤ A.length → ∃ g, p6 = some ⟨g, 0, none⟩ ∧ g < w6.heap.size) := fun h => by
        obtain ⟨g, h1, -, h2, -⟩ := o6.blk h
        exact ⟨g, h1, h2⟩
      have O6 := Lib.hid o6
      have X6 := Lib.hid (X5.out.trans x6)
      have S6 : Hid (w4.heap.size ≤ w5.heap.size) := X5.out.size
      have S7 : Hid (w5.heap.size ≤ w6.heap.size) := x6.size
      clear o6 x6 X5
      rw [HLA.out] at O6 ⊢
      go_wp2_with fail
      refine (pdraws_all (HR.out.ext (X4.out.trans X6.out)) cb HCB.out B HB.out).mono ?_
      rintro e w7 ⟨v7, rfl, o7, x7⟩
      obtain ⟨p7, c7, rfl⟩ := o7.slice
      have O7 := Lib.hid o7
      have O6 := Lib.hid (O6.out.ext x7)
      have X7 := Lib.hid (X6.out.trans x7)
      clear o7 x7 X6
      rw [HLB.out] at O7 ⊢
      go_wp2_with fail
      refine (pcost_all _ n _ cc HCC.out).mono ?_
      rintro e w8 ⟨r1, r2, r3, r4, r5, r6, rfl, l1, l2, x8⟩
      have Y8 : Ext w8 (w8.alloc (.cells #[.bool xb, .slice r1 r2 r3, .slice r4 r5 r6] 37)) := (Ext.refl _).alloc _
      have M1 := Lib.hid (l1.limbs.ext Y8)
      have M2 := Lib.hid (l2.limbs.ext Y8)
      have O6 := Lib.hid (O6.out.ext (x8.trans Y8))
      have O7 := Lib.hid (O7.out.ext (x8.trans Y8))
      have X9 := Lib.hid (X7.out.trans (x8.trans Y8))
      obtain ⟨s', hs'⟩ : ∃ s, w8.heap.size = s := ⟨_, rfl⟩
      have D0 : Hid (At s' 0 (.bool xb) (w8.alloc (.cells #[.bool xb, .slice r1 r2 r3, .slice r4 r5 r6] 37))) := by rw [← hs']; exact At.n0 (by rfl)
      have D1 : Hid (At s' 1 (.slice r1 r2 r3) (w8.alloc (.cells #[.bool xb, .slice r1 r2 r3, .slice r4 r5 r6] 37))) := by rw [← hs']; exact At.n0 (by rfl)
      have D2 : Hid (At s' 2 (.slice r4 r5 r6) (w8.alloc (.cells #[.bool xb, .slice r1 r2 r3, .slice r4 r5 r6] 37))) := by rw [← hs']; exact At.n0 (by rfl)
      clear l1 l2 x8 X7 Y8
      go_wp2_with fail
      (try rw [hs'])
      obtain ⟨w9, hw9⟩ : ∃ W, W = w8.alloc (.cells #[.bool xb, .slice r1 r2 r3, .slice r4 r5 r6] 37) := ⟨_, rfl⟩
      rw [← hw9] at M1 M2 O6 O7 X9 D0 D1 D2 ⊢
      clear hw9 hs'
      refine (same12_calls O6.out.ints (O1.out.ext X9.out) true (by simp)).mono ?_
      rintro e wa ⟨rfl, xa⟩
      have XA := Lib.hid xa
      clear xa
      go_wp2_with fail
      refine (same12_calls (O7.out.ints.ext XA.out) (O2.out.ext (X9.out.trans XA.out)) true (by simp)).mono ?_
      rintro e wb ⟨rfl, xb_⟩
      have XB := Lib.hid (XA.out.trans xb_)
      clear xb_ XA
      have g0 := (D0.out.ext XB.out).1
      have g1 := (D1.out.ext XB.out).1
      have g2 := (D2.out.ext XB.out).1
      have g3 := (C0.out.ext (X9.out.trans XB.out)).1
      have g4 := (C1.out.ext (X9.out.trans XB.out)).1
      have g5 := (C2.out.ext (X9.out.trans XB.out)).1
      go_wp2_with fail
      refine (is_raw (M1.out.ext XB.out) (M2.out.ext XB.out) (L1.out.ext (X9.out.trans XB.out)) (L2.out.ext (X9.out.trans XB.out)) xb xb true (by simp)).mono ?_
      rintro e wc ⟨rfl, xc⟩
      have XC := Lib.hid (XB.out.trans xc)
      clear xc XB g0 g1 g2 g3 g4 g5
      have OA := Lib.hid (O6.out.ext XC.out)
      have OB := Lib.hid (O7.out.ext XC.out)
      have XE := Lib.hid (X9.out.trans XC.out)
      go_wp2_with fail
      refine (spoil_own OA.out HLA.out LA64.out).mono ?_
      rintro e we ⟨rfl, xe⟩
      have OB2 : Hid (OwnI 3 w6.heap.size we (.slice p7 lb c7) B) := by
        rcases xe with h | ⟨g, hg, h0, -, hm⟩
        · exact OB.out.1.ext h
        · obtain ⟨g', e', hl⟩ := B6.out h0
          rw [hg] at e'
          injection e' with e'
          injection e' with e'
          subst e'
          exact OB.out.1.mv12 hm hl
      have XE2 : Hid (Ext w4 we) := by
        rcases xe with h | ⟨g, -, -, hg, hm⟩
        · exact XE.out.trans h
        · exact hm.ext XE.out (Nat.le_trans S6.out hg)
      clear xe
      go_wp2_with fail
      refine (spoil_own ⟨OB2.out, by decide⟩ HLB.out LB64.out).mono ?_
      rintro e wf ⟨rfl, xf⟩
      have XF : Hid (Ext w4 wf) := by
        rcases xf with h | ⟨g, -, -, hg, hm⟩
        · exact XE2.out.trans h
        · exact hm.ext XE2.out (Nat.le_trans S6.out (Nat.le_trans S7.out hg))
      clear xf
      go_wp2_with fail
      exact ⟨⟨i + 1, by first | rfl | go_num, LT.out, XF.out⟩, by simp [intOf]; have := LT.out; omega⟩
    · obtain rfl : i = 2 := by omega
      clear hi hi2
      go_wp2_with fail
      refine (awake12_calls _).mono ?_
      rintro e w6 ⟨rfl, x6⟩
      have X6 := Lib.hid (X4.out.trans (X5.out.trans x6))
      clear x6
      go_wp2_with fail
      go_ret
      exact ⟨rfl, X6.out⟩

theorem permRows_calls {w : World} {v u : Value} {D R : List Int} (hD : Ints w v D) (hR : Ints w u R) (n : Int) (_hn : -9223372036854775808 ≤ n ∧ n ≤ 9223372036854775807) :
    Calls Tryz.prog 6 #[v, u, .int .i64 n] w (Yes w) := by
  by_cases h : 200 < D.length ∨ 200 < R.length
  · exact permRows_out hD hR n h
  · exact permRows_main hD hR n (by omega) (by omega)
end Go.Proofs.YtkfioaoooodmnaaGreatDoor
