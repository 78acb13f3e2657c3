/- Contracts of package dec, second part: Many, Read. -/
import Derived.Test.YtomhfipgabpfiaaGreatDoorDec1
namespace Go.Proofs.YtomhfipgabpfiaaGreatDoor
open Go Go.RowKit

/-- what Read returns -/
def RetRead (w : World) (l : List UInt8) (e : Ending) (w' : World) : Prop :=
  ∃ v, e = .returned (.tuple #[v, .int .i64 (errR l : Nat)]) ∧ OwnL w.heap.size w' v (dig (readN l)) ∧ Ext w w'

theorem RetRead.err {w w' : World} {l : List UInt8} {k : Nat} (h : errR l = k) (hk : k ≠ 0) (hx : Ext w w') : RetRead w l (.returned (.tuple #[.slice none 0 0, .int .i64 (k : Int)])) w' := by
  refine ⟨_, by rw [h], ?_, hx⟩
  rw [readN, if_neg (by omega), dig_zero]
  exact OwnL.nil _ _

theorem bn_get (s : ByteArray) (i : Nat) (h : i < s.size) : ((s[i]'h).toNat : Int) = (bn s.data.toList i : Int) := by
  have h' : i < s.data.toList.length := by rw [← Lib.size_eq]; exact h
  unfold bn
  rw [List.getElem?_eq_getElem h']
  rfl
theorem bn_lt (l : List UInt8) (i : Nat) : bn l i < 256 := UInt8.toNat_lt _
theorem okd_bn {l : List UInt8} {i : Nat} (h : i < l.length) : okd l[i] = (decide (48 ≤ bn l i) && decide (bn l i ≤ 57)) := by
  unfold okd bn; rw [List.getElem?_eq_getElem h]; rfl

theorem errR_odd {l : List UInt8} {k : Nat} (hk : k < l.length) (h : bn l k < 48 ∨ 57 < bn l k) : errR l = 3 := by
  have h0 : l ≠ [] := by intro e; subst e; simp at hk
  have h1 : l.all okd = false := by
    rw [List.all_eq_false]
    refine ⟨l[k], List.getElem_mem hk, ?_⟩
    rw [okd_bn hk]
    simp; omega
  rw [errR, if_neg h0, if_pos h1]
theorem all_okd {l : List UInt8} (h : ∀ i, i < l.length → 48 ≤ bn l i ∧ bn l i ≤ 57) : l.all okd = true := by
  rw [List.all_eq_true]
  intro b hb
  obtain ⟨i, hi, rfl⟩ := List.getElem_of_mem hb
  rw [okd_bn hi]
  have := h i hi
  simp; omega
theorem bn_head {l : List UInt8} (h : 0 < l.length) : bn l 0 = 48 ↔ l.head? = some 48 := by
  cases l with
  | nil => simp at h
  | cons b l =>
    simp only [bn, List.getElem?_cons_zero, Option.getD_some, List.head?_cons, Option.some.injEq]
    constructor
    · intro e; exact UInt8.toNat_inj.1 e
    · intro e; subst e; rfl
theorem errR_zero {l : List UInt8} (ha : l.all okd = true) (hl : 1 < l.length) (h : bn l 0 = 48) : errR l = 3 := by
  have h0 : l ≠ [] := by intro e; subst e; simp at hl
  rw [errR, if_neg h0, if_neg (by rw [ha]; simp), if_pos ⟨(bn_head (by omega)).1 h, hl⟩]
theorem errR_long {l : List UInt8} (ha : l.all okd = true) (hl : 20000 < l.length) (h : ¬ bn l 0 = 48) : errR l = 5 := by
  have h0 : l ≠ [] := by intro e; subst e; simp at hl
  rw [errR, if_neg h0, if_neg (by rw [ha]; simp), if_neg (fun e => h ((bn_head (by omega)).2 e.1)), if_pos hl]
theorem errR_ok {l : List UInt8} (ha : l.all okd = true) (h1 : 0 < l.length) (hl : l.length ≤ 20000) (h : bn l 0 = 48 → l.length ≤ 1) : errR l = 0 := by
  have h0 : l ≠ [] := by intro e; subst e; simp at h1
  rw [errR, if_neg h0, if_neg (by rw [ha]; simp), if_neg (fun e => by have := h ((bn_head h1).2 e.1); omega), if_neg (by omega)]

/-- what holds in the rounds of Read: p is read, r is not -/
structure RdMem (w : World) (l : List UInt8) (gk : Nat) (t : ByteArray) (p r : List UInt8) (v : Value) (wr : World) : Prop where
  text : t.data.toList = r
  split : l = p ++ r
  left : r.length = gk
  own : OwnL w.heap.size wr v (dig (dval (p.map dv)))
  ext : Ext w wr
theorem RdMem.size {w : World} {l : List UInt8} {gk : Nat} {t : ByteArray} {p r : List UInt8} {v : Value} {wr : World} (h : RdMem w l gk t p r v wr) : t.size = r.length := by
  rw [← h.text]; exact Lib.size_eq t

/-- what holds in the rounds that read a part: i digits are read -/
structure RdPart (r : List UInt8) (i P Q : Nat) : Prop where
  p_eq : P = dval ((r.take i).map dv)
  q_eq : Q = 10 ^ i
  lt : P < Q
theorem RdPart.start (r : List UInt8) : RdPart r 0 0 1 := ⟨by simp [dval], by simp, by omega⟩
theorem RdPart.next {r : List UInt8} {i P Q : Nat} (h : RdPart r i P Q) (hi : i < r.length) (h1 : 48 ≤ bn r i) (h2 : bn r i ≤ 57) : RdPart r (i + 1) (10 * P + (bn r i - 48)) (10 * Q) := by
  have hl := h.lt
  have e : dv r[i] = bn r i - 48 := by unfold dv bn; rw [List.getElem?_eq_getElem hi]; rfl
  refine ⟨?_, by rw [h.q_eq, Nat.pow_succ, Nat.mul_comm], by omega⟩
  rw [List.take_succ_eq_append_getElem hi, List.map_append, List.map_singleton, dval_append, ← h.p_eq, e]
theorem RdPart.q_le {r : List UInt8} {i P Q : Nat} (h : RdPart r i P Q) (hi : i < 18) : (Q : Int) ≤ 100000000000000000 := by
  have h1 : Q ≤ 10 ^ 17 := by rw [h.q_eq]; exact Nat.pow_le_pow_right (n := 10) (by decide) (by omega)
  have h2 : (10 : Nat) ^ 17 = 100000000000000000 := by decide
  rw [h2] at h1
  exact Int.ofNat_le.2 h1
theorem RdPart.p_lt {r : List UInt8} {i P Q : Nat} (h : RdPart r i P Q) : (P : Int) < (Q : Int) := Int.ofNat_lt.2 h.lt
theorem RdPart.q_bs {r : List UInt8} {i P Q : Nat} (h : RdPart r i P Q) (hi : i ≤ 18) : Q < Bs := by
  have h1 : Q ≤ 10 ^ 18 := by rw [h.q_eq]; exact Nat.pow_le_pow_right (n := 10) (by decide) hi
  have h2 : (10 : Nat) ^ 18 < 2 ^ 64 := by decide
  rw [Bs_def]; exact Nat.lt_of_le_of_lt h1 h2
theorem okd_of_all {r : List UInt8} (h : r.all okd = true) {i : Nat} (hi : i < r.length) : 48 ≤ bn r i ∧ bn r i ≤ 57 := by
  have h1 := List.all_eq_true.1 h r[i] (List.getElem_mem hi)
  rw [okd_bn hi] at h1
  simpa using h1
theorem RdMem.okr {w : World} {l : List UInt8} {gk : Nat} {t : ByteArray} {p r : List UInt8} {v : Value} {wr : World} (h : RdMem w l gk t p r v wr) (hl : l.all okd = true) : r.all okd = true := by
  rw [h.split, List.all_append] at hl
  simp only [Bool.and_eq_true] at hl
  exact hl.2
theorem RdMem.okp {w : World} {l : List UInt8} {gk : Nat} {t : ByteArray} {p r : List UInt8} {v : Value} {wr : World} (h : RdMem w l gk t p r v wr) (hl : l.all okd = true) : p.all okd = true := by
  rw [h.split, List.all_append] at hl
  simp only [Bool.and_eq_true] at hl
  exact hl.1
theorem dval_bs {p : List UInt8} (h : p.all okd = true) : dval (p.map dv) < Bs ^ p.length := by
  have h1 : dval (p.map dv) < 10 ^ (p.map dv).length := dval_lt fun d hd => by
    obtain ⟨b, hb, rfl⟩ := List.mem_map.1 hd
    exact dv_lt (List.all_eq_true.1 h b hb)
  rw [List.length_map] at h1
  exact Nat.lt_of_lt_of_le h1 (Nat.pow_le_pow_left (by rw [Bs_def]; decide) _)
theorem RdMem.len {w : World} {l : List UInt8} {gk : Nat} {t : ByteArray} {p r : List UInt8} {v : Value} {wr : World} (h : RdMem w l gk t p r v wr) (hl : l.all okd = true) (hn : l.length ≤ 20000) : (dig (dval (p.map dv))).length ≤ 20000 := by
  refine Nat.le_trans (dig_len_le (dval_bs (h.okp hl))) ?_
  have := congrArg List.length h.split
  rw [List.length_append] at this
  omega
theorem extract_from_toList (s : ByteArray) (k : Nat) : (s.extract k s.size).data.toList = s.data.toList.drop k := by
  rw [ByteArray.data_extract, Array.toList_extract, List.extract_eq_take_drop]
  exact List.take_of_length_le (by rw [List.length_drop, Array.length_toList]; exact Nat.le_refl _)

theorem RdMem.mul_len {w : World} {l : List UInt8} {gk : Nat} {t : ByteArray} {p r : List UInt8} {v : Value} {wr : World} (h : RdMem w l gk t p r v wr) (hl : l.all okd = true) (hn : l.length ≤ 20000) {Q : Nat} (hQ : Q < Bs) : (dig (dval (p.map dv) * Q)).length < Lmax := by
  have h1 := dval_bs (h.okp hl)
  have h2 := congrArg List.length h.split
  rw [List.length_append] at h2
  have h3 : dval (p.map dv) * Q < Bs ^ (p.length + 1) := by rw [Nat.pow_succ]; exact Nat.mul_lt_mul'' h1 hQ
  rw [Lmax_def]
  exact Nat.lt_of_le_of_lt (dig_len_le h3) (by omega)
theorem RdMem.next {w : World} {l : List UInt8} {gk : Nat} {t : ByteArray} {p r : List UInt8} {v : Value} {wr : World} (h : RdMem w l gk t p r v wr) {m P Q : Nat} (hm : m ≤ t.size) (hp : RdPart r m P Q)
    {v' : Value} {w' : World} (hx : Ext wr w') {n : Nat} (hn : n = dval (p.map dv) * Q + P) (ho : OwnL wr.heap.size w' v' (dig n)) :
    RdMem w l (gk - m) (t.extract m t.size) (p ++ r.take m) (r.drop m) v' w' := by
  have hs := h.size
  refine ⟨?_, ?_, ?_, ?_, h.ext.trans hx⟩
  · rw [extract_from_toList, h.text]
  · rw [List.append_assoc, List.take_append_drop]; exact h.split
  · rw [List.length_drop, h.left]
  · rw [List.map_append, dval_app, List.length_map, List.length_take, Nat.min_eq_left (by omega), ← hp.p_eq, ← hp.q_eq, ← hn]
    exact ho.mono h.ext.size

set_option maxHeartbeats 4000000 in
set_option maxRecDepth 1000000 in
theorem read_calls (s : ByteArray) (w : World) (hs : s.size ≤ maxLen) :
    Calls Tryz.prog 52 #[.string s] w (RetRead w s.data.toList) := by
  unfold maxLen at hs
  obtain ⟨l, hl⟩ : ∃ l, l = s.data.toList := ⟨_, rfl⟩
  have hsz : s.size = l.length := by rw [hl]; exact Lib.size_eq s
  have hget : ∀ i (h : i < s.size), ((s[i]'h).toNat : Int) = (bn l i : Int) := fun i h => by rw [hl]; exact bn_get s i h
  rw [← hl]
  by_cases h0 : l = []
  · have hs0 : s = ⟨#[]⟩ := by rw [← Lib.mk_data s, ← hl, h0]
    have HE : Hid (errR l = 4) := by show errR l = 4; rw [errR, if_pos h0]
    clear hget hsz hl h0
    subst hs0
    go_enter Tryz.func52, Tryz.ntmps52
    go_wp2_with fail
    go_ret2
    exact RetRead.err HE.out (by decide) (Ext.refl _)
  · have hne : s.toList.isEmpty = false := by rw [Lib.toList_data, ← hl]; simpa using h0
    have hne2 : ¬ s.toList = [] := by rw [Lib.toList_data, ← hl]; exact h0
    have hs1 : 0 < s.size := by rw [hsz]; exact List.length_pos_iff.2 h0
    have HSZ := Lib.hid hsz
    have HL := Lib.hid hl
    clear hsz hl h0
    go_enter Tryz.func52, Tryz.ntmps52
    go_wp2_with fail
    go_loop [14] (fun v14 => ∃ k : Nat, v14 = .int .i64 (k : Int) ∧ k ≤ s.size ∧ ∀ i, i < k → 48 ≤ bn l i ∧ bn l i ≤ 57) (fun v14 => s.size - (intOf v14).toNat)
    case atStart => exact ⟨0, rfl, Nat.zero_le _, fun i hi => by omega⟩
    case round =>
      obtain ⟨k, rfl, hk, hall⟩ := hrel
      have HA := Lib.hid hall
      clear hall
      by_cases hks : k < s.size
      · by_cases hb1 : bn l k < 48
        · have HE : Hid (errR l = 3) := errR_odd (by rw [← HSZ.out]; exact hks) (.inl hb1)
          go_wp2_with fail
          go_ret2
          exact RetRead.err HE.out (by decide) (Ext.refl _)
        by_cases hb2 : 57 < bn l k
        · have HE : Hid (errR l = 3) := errR_odd (by rw [← HSZ.out]; exact hks) (.inr hb2)
          go_wp2_with fail
          go_ret2
          exact RetRead.err HE.out (by decide) (Ext.refl _)
        · go_wp2_with fail
          refine ⟨⟨k + 1, by go_num, by omega, fun i hi => ?_⟩, by simp [intOf]; omega⟩
          by_cases hik : i < k
          · exact HA.out i hik
          · obtain rfl : i = k := by omega
            omega
      · obtain rfl : k = s.size := by omega
        have HOK : Hid (l.all okd = true) := all_okd (fun i hi => HA.out i (by rw [HSZ.out]; exact hi))
        by_cases c1 : bn l 0 = 48 ∧ 1 < s.size
        · have HE : Hid (errR l = 3) := errR_zero HOK.out (by rw [← HSZ.out]; omega) c1.1
          obtain ⟨c2, c3⟩ := c1
          go_wp2_with fail
          go_ret2
          exact RetRead.err HE.out (by decide) (Ext.refl _)
        by_cases c2 : 20000 < s.size
        · have HE : Hid (errR l = 5) := errR_long HOK.out (by rw [← HSZ.out]; exact c2) (fun e => c1 ⟨e, by omega⟩)
          have c3 : ¬ bn l 0 = 48 := fun e => c1 ⟨e, by omega⟩
          clear c1
          go_wp2_with fail
          go_ret2
          exact RetRead.err HE.out (by decide) (Ext.refl _)
        have HE : Hid (errR l = 0) := errR_ok HOK.out (by rw [← HSZ.out]; exact hs1) (by rw [← HSZ.out]; omega) (fun e => by rw [← HSZ.out]; have := fun h => c1 ⟨e, h⟩; omega)
        have HLEN : Hid (l.length ≤ 20000) := by show _ ≤ 20000; rw [← HSZ.out]; omega
        by_cases c3 : bn l 0 = 48
        · have c5 : s.size ≤ 1 := by have := fun h => c1 ⟨c3, h⟩; omega
          clear c1
          go_wp2_with fail
          clear c3 c5 c2 hget
          go_loopg [0, 5] l.length (fun gk v0 v5 wr => ∃ (t : ByteArray) (p r : List UInt8), v0 = .string t ∧ RdMem w l gk t p r v5 wr)
          case atStart => exact ⟨s, [], l, rfl, HL.out.symm, rfl, rfl, by simpa [dval, dig_zero] using OwnL.nil _ _, Ext.refl _⟩
          case round =>
            obtain ⟨t, p, r, rfl, hI⟩ := hrel
            have htz := hI.size
            by_cases hr0 : r.length = 0
            · have ht0 : t.size = 0 := by omega
              have HI := Lib.hid hI
              have HR : Hid (dval (p.map dv) = readN l) := by
                show _ = _
                rw [readN, if_pos HE.out, hI.split, List.length_eq_zero_iff.1 hr0, List.append_nil]
              clear hI hr0 htz
              go_wp2_with fail
              go_ret2
              exact ⟨_, by rw [HE.out]; rfl, by rw [← HR.out]; exact HI.out.own, HI.out.ext⟩
            · obtain ⟨m, hm⟩ : ∃ m, m = min 18 t.size := ⟨_, rfl⟩
              have hm1 : min (18 : Int) (t.size : Int) = (m : Int) := by omega
              have hm2 : m ≤ 18 := by omega
              have hm3 : m ≤ t.size := by omega
              have hm4 : 0 < m := by omega
              have hget' : ∀ i (h : i < t.size), ((t[i]'h).toNat : Int) = (bn r i : Int) := fun i h => by rw [← hI.text]; exact bn_get t i h
              have HM := Lib.hid hm
              have HI := Lib.hid hI
              have HTZ := Lib.hid htz
              have HR0 := Lib.hid hr0
              clear hm hI htz hr0
              go_wp2_with fail
              clear hm1
              go_loop [7, 8, 48] (fun v7 v8 v48 => ∃ i P Q : Nat, v7 = .int .u64 (P : Int) ∧ v8 = .int .u64 (Q : Int) ∧ v48 = .int .i64 (i : Int) ∧ i ≤ m ∧ RdPart r i P Q) (fun _ _ v48 => m - (intOf v48).toNat)
              case atStart => exact ⟨0, 0, 1, rfl, rfl, rfl, Nat.zero_le _, RdPart.start r⟩
              case round =>
                obtain ⟨i, P, Q, rfl, rfl, rfl, hi, hp⟩ := hrel
                by_cases him : i < m
                · have hb1 := (okd_of_all (HI.out.okr HOK.out) (i := i) (by rw [← HTZ.out]; omega)).1
                  have hb2 := (okd_of_all (HI.out.okr HOK.out) (i := i) (by rw [← HTZ.out]; omega)).2
                  have hq := hp.q_le (by omega)
                  have hpq := hp.p_lt
                  have HP := Lib.hid hp
                  have hit : i < t.size := by omega
                  clear hp
                  go_wp2_with fail
                  refine ⟨⟨i + 1, 10 * P + (bn r i - 48), 10 * Q, by go_num, by go_num, by go_num, by omega, HP.out.next (by rw [← HTZ.out]; omega) hb1 hb2⟩, by simp [intOf]; omega⟩
                · obtain rfl : i = m := by omega
                  have HP := Lib.hid hp
                  clear hp
                  have HQ : Hid (RdPart r i P Q) := HP.out
                  have HQB := Lib.hid (HP.out.q_bs hm2)
                  have HPB := Lib.hid (Nat.lt_trans HP.out.lt (HP.out.q_bs hm2))
                  have HO := Lib.hid HI.out.own.limbs
                  have HLN := Lib.hid (HI.out.len HOK.out HLEN.out)
                  obtain ⟨V, hV⟩ : ∃ V, V = dval (p.map dv) := ⟨_, rfl⟩
                  have hL : Limbs (wr.alloc (.cells #[.int .u64 (Q : Int)] 46)) (.slice (some ⟨wr.heap.size, 0, none⟩) 1 1) [Q] :=
                    limbs_lit wr [Q] (by simpa using HQB.out) _ rfl 1 rfl (by rw [Lmax_def]; simp)
                  have hvQ : val [Q] = Q := by simp [val]
                  have hml := natmul_calls (HO.out.ext ((Ext.refl wr).alloc _)) hL (by rw [Lmax_def]; have := HLN.out; simp only [List.length_singleton]; omega)
                  rw [hvQ, val_dig, ← hV] at hml
                  have HML := Lib.hid hml
                  have HOF := Lib.hid (fun w0 => of_calls (w := w0) HPB.out)
                  have HW : Hid ((dig (V * Q)).length < Lmax) := by show _ < Lmax; rw [hV]; exact HI.out.mul_len HOK.out HLEN.out HQB.out
                  have HW1 : Hid ((dig P).length < Lmax) := by
                    show _ < Lmax
                    rw [Lmax_def]; exact Nat.lt_of_le_of_lt (dig_len_le (k := 1) (by simpa using HPB.out)) (by omega)
                  have HVV := Lib.hid hV
                  clear hml hV hvQ
                  go_wp2_with (first
                    | (go_at_call 40; refine (HML.out).mono ?_; rintro e w2 ⟨v2, rfl, hv2, hx2⟩)
                    | (go_at_call 44; refine (HOF.out _).mono ?_; rintro e w3 ⟨v3, rfl, hv3, hx3⟩)
                    | (go_at_call 43; refine (natadd_calls (hv2.limbs.ext hx3) hv3.limbs HW.out HW1.out).mono ?_; rintro e w4 ⟨v4, rfl, hv4, hx4⟩; rw [val_dig, val_dig] at hv4))
                  go_roundg (gk - i)
                  case measure => have := HI.out.left; have := HTZ.out; omega
                  case rel => exact ⟨_, _, _, rfl, HI.out.next hm3 HQ.out (((((Ext.refl wr).alloc _).trans hx2).trans hx3).trans hx4) (by rw [HVV.out]) (hv4.mono (by have := hx2.size; have := hx3.size; simp at *; omega))⟩
        · clear c1
          go_wp2_with fail
          clear c3 c2 hget
          go_loopg [0, 5] l.length (fun gk v0 v5 wr => ∃ (t : ByteArray) (p r : List UInt8), v0 = .string t ∧ RdMem w l gk t p r v5 wr)
          case atStart => exact ⟨s, [], l, rfl, HL.out.symm, rfl, rfl, by simpa [dval, dig_zero] using OwnL.nil _ _, Ext.refl _⟩
          case round =>
            obtain ⟨t, p, r, rfl, hI⟩ := hrel
            have htz := hI.size
            by_cases hr0 : r.length = 0
            · have ht0 : t.size = 0 := by omega
              have HI := Lib.hid hI
              have HR : Hid (dval (p.map dv) = readN l) := by
                show _ = _
                rw [readN, if_pos HE.out, hI.split, List.length_eq_zero_iff.1 hr0, List.append_nil]
              clear hI hr0 htz
              go_wp2_with fail
              go_ret2
              exact ⟨_, by rw [HE.out]; rfl, by rw [← HR.out]; exact HI.out.own, HI.out.ext⟩
            · obtain ⟨m, hm⟩ : ∃ m, m = min 18 t.size := ⟨_, rfl⟩
              have hm1 : min (18 : Int) (t.size : Int) = (m : Int) := by omega
              have hm2 : m ≤ 18 := by omega
              have hm3 : m ≤ t.size := by omega
              have hm4 : 0 < m := by omega
              have hget' : ∀ i (h : i < t.size), ((t[i]'h).toNat : Int) = (bn r i : Int) := fun i h => by rw [← hI.text]; exact bn_get t i h
              have HM := Lib.hid hm
              have HI := Lib.hid hI
              have HTZ := Lib.hid htz
              have HR0 := Lib.hid hr0
              clear hm hI htz hr0
              go_wp2_with fail
              clear hm1
              go_loop [7, 8, 48] (fun v7 v8 v48 => ∃ i P Q : Nat, v7 = .int .u64 (P : Int) ∧ v8 = .int .u64 (Q : Int) ∧ v48 = .int .i64 (i : Int) ∧ i ≤ m ∧ RdPart r i P Q) (fun _ _ v48 => m - (intOf v48).toNat)
              case atStart => exact ⟨0, 0, 1, rfl, rfl, rfl, Nat.zero_le _, RdPart.start r⟩
              case round =>
                obtain ⟨i, P, Q, rfl, rfl, rfl, hi, hp⟩ := hrel
                by_cases him : i < m
                · have hb1 := (okd_of_all (HI.out.okr HOK.out) (i := i) (by rw [← HTZ.out]; omega)).1
                  have hb2 := (okd_of_all (HI.out.okr HOK.out) (i := i) (by rw [← HTZ.out]; omega)).2
                  have hq := hp.q_le (by omega)
                  have hpq := hp.p_lt
                  have HP := Lib.hid hp
                  have hit : i < t.size := by omega
                  clear hp
                  go_wp2_with fail
                  refine ⟨⟨i + 1, 10 * P + (bn r i - 48), 10 * Q, by go_num, by go_num, by go_num, by omega, HP.out.next (by rw [← HTZ.out]; omega) hb1 hb2⟩, by simp [intOf]; omega⟩
                · obtain rfl : i = m := by omega
                  have HP := Lib.hid hp
                  clear hp
                  have HQ : Hid (RdPart r i P Q) := HP.out
                  have HQB := Lib.hid (HP.out.q_bs hm2)
                  have HPB := Lib.hid (Nat.lt_trans HP.out.lt (HP.out.q_bs hm2))
                  have HO := Lib.hid HI.out.own.limbs
                  have HLN := Lib.hid (HI.out.len HOK.out HLEN.out)
                  obtain ⟨V, hV⟩ : ∃ V, V = dval (p.map dv) := ⟨_, rfl⟩
                  have hL : Limbs (wr.alloc (.cells #[.int .u64 (Q : Int)] 46)) (.slice (some ⟨wr.heap.size, 0, none⟩) 1 1) [Q] :=
                    limbs_lit wr [Q] (by simpa using HQB.out) _ rfl 1 rfl (by rw [Lmax_def]; simp)
                  have hvQ : val [Q] = Q := by simp [val]
                  have hml := natmul_calls (HO.out.ext ((Ext.refl wr).alloc _)) hL (by rw [Lmax_def]; have := HLN.out; simp only [List.length_singleton]; omega)
                  rw [hvQ, val_dig, ← hV] at hml
                  have HML := Lib.hid hml
                  have HOF := Lib.hid (fun w0 => of_calls (w := w0) HPB.out)
                  have HW : Hid ((dig (V * Q)).length < Lmax) := by show _ < Lmax; rw [hV]; exact HI.out.mul_len HOK.out HLEN.out HQB.out
                  have HW1 : Hid ((dig P).length < Lmax) := by
                    show _ < Lmax
                    rw [Lmax_def]; exact Nat.lt_of_le_of_lt (dig_len_le (k := 1) (by simpa using HPB.out)) (by omega)
                  have HVV := Lib.hid hV
                  clear hml hV hvQ
                  go_wp2_with (first
                    | (go_at_call 40; refine (HML.out).mono ?_; rintro e w2 ⟨v2, rfl, hv2, hx2⟩)
                    | (go_at_call 44; refine (HOF.out _).mono ?_; rintro e w3 ⟨v3, rfl, hv3, hx3⟩)
                    | (go_at_call 43; refine (natadd_calls (hv2.limbs.ext hx3) hv3.limbs HW.out HW1.out).mono ?_; rintro e w4 ⟨v4, rfl, hv4, hx4⟩; rw [val_dig, val_dig] at hv4))
                  go_roundg (gk - i)
                  case measure => have := HI.out.left; have := HTZ.out; omega
                  case rel => exact ⟨_, _, _, rfl, HI.out.next hm3 HQ.out (((((Ext.refl wr).alloc _).trans hx2).trans hx3).trans hx4) (by rw [HVV.out]) (hv4.mono (by have := hx2.size; have := hx3.size; simp at *; omega))⟩
end Go.Proofs.YtomhfipgabpfiaaGreatDoor
