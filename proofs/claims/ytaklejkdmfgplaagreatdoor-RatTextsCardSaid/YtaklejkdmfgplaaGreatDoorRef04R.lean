/- Contracts of package tombolaref04, second part: Read. -/
import Derived.Test.YtaklejkdmfgplaaGreatDoorRef04
import Derived.Test.YtaklejkdmfgplaaGreatDoorPartB
namespace Go.Proofs.YtaklejkdmfgplaaGreatDoor
open Go Go.RowKit

theorem v16_take_succ {L : List Nat} {k : Nat} (h : k < L.length) : v16 (L.take (k + 1)) = v16 (L.take k) + 65536 ^ k * el L k := by
  rw [List.take_succ_eq_append_getElem h, v16_append, List.length_take, Nat.min_eq_left (by omega), v16_cons, v16_nil, el_of_lt h]
  rfl

/-- the rounds that multiply by ten in place: k digits are done, c is carried -/
structure TenMul (L M : List Nat) (k c c0 : Nat) : Prop where
  len : M.length = L.length
  lt : ∀ x ∈ M, x < 65536
  rest : ∀ j, k ≤ j → el M j = el L j
  c_le : c ≤ 9
  v_eq : v16 (M.take k) + 65536 ^ k * c = 10 * v16 (L.take k) + c0
theorem TenMul.start {L : List Nat} {c : Nat} (h : ∀ x ∈ L, x < 65536) (hc : c ≤ 9) : TenMul L L 0 c c :=
  ⟨rfl, h, fun _ _ => rfl, hc, by simp [v16_nil]⟩
theorem TenMul.next {L M : List Nat} {k c c0 : Nat} (h : TenMul L M k c c0) (hL : ∀ x ∈ L, x < 65536) (hk : k < L.length) :
    TenMul L (M.set k ((el L k * 10 + c) % 65536)) (k + 1) ((el L k * 10 + c) / 65536) c0 := by
  have h1 := el_16 hL k
  have h2 := h.c_le
  have hkM : k < M.length := by rw [h.len]; exact hk
  refine ⟨by rw [List.length_set]; exact h.len, fun x hx => ?_, fun j hj => ?_, by omega, ?_⟩
  · rcases List.mem_or_eq_of_mem_set hx with hx | rfl
    · exact h.lt x hx
    · exact Nat.mod_lt _ (by omega)
  · rw [← h.rest j (by omega)]
    unfold el
    rw [List.getElem?_set_ne (by omega)]
  · obtain ⟨x, hx⟩ : ∃ x, x = el L k * 10 + c := ⟨_, rfl⟩
    have e1 : el (M.set k (x % 65536)) k = x % 65536 := by unfold el; rw [List.getElem?_set_self hkM]; rfl
    have e2 : (M.set k (x % 65536)).take k = M.take k := by rw [List.take_set_of_le (Nat.le_refl k)]
    rw [← hx, v16_take_succ (by rw [List.length_set]; exact hkM), e1, e2, v16_take_succ hk, Nat.mul_add, Nat.pow_succ]
    have e3 : 65536 ^ k * (x % 65536) + 65536 ^ k * 65536 * (x / 65536) = 65536 ^ k * x := by
      rw [Nat.mul_assoc, ← Nat.mul_add, Nat.mod_add_div]
    have e4 : 65536 ^ k * x = 10 * (65536 ^ k * el L k) + 65536 ^ k * c := by
      rw [hx, Nat.mul_add, ← Nat.mul_assoc, Nat.mul_comm _ 10]
    have h3 := h.v_eq
    omega

/-- the memory in the rounds of Read -/
structure RrMem (w : World) (l : List UInt8) (i : Nat) (L : List Nat) (v : Value) (wr : World) : Prop where
  out : OutMem w L v wr
  lt : ∀ x ∈ L, x < 65536
  v_eq : v16 L = dval ((l.take i).map dv)
  len : L.length ≤ i

theorem OutMem.set {w : World} {M : List Nat} {g n cap : Nat} {wr : World} (h : OutMem w M (.slice (some ⟨g, 0, none⟩) n cap) wr) (j z : Nat) :
    OutMem w (M.set j z) (.slice (some ⟨g, 0, none⟩) n cap) (wr.setCell ⟨g, j, none⟩ (.int .u64 (z : Int))) := by
  have hg := (h.own.lt g rfl).1
  obtain ⟨_, _, _, e, _⟩ := (h.own.2.resolve_left (fun e => by cases e.1))
  have hn : n = M.length := by cases e; rfl
  subst hn
  obtain ⟨o3, _⟩ := h.own.stored j (.int .u64 (z : Int))
  exact ⟨by rw [List.length_set, List.map_set]; exact o3, Below.setCell h.ext (by show w.heap.size ≤ g; exact hg) _⟩

theorem TenMul.done {L M : List Nat} {c c0 : Nat} (h : TenMul L M L.length c c0) : v16 (M ++ [c]) = 10 * v16 L + c0 := by
  have h1 := h.v_eq
  rw [List.take_of_length_le (by rw [h.len]; exact Nat.le_refl _), List.take_length] at h1
  rw [v16_append, v16_cons, v16_nil, h.len, ← h1]
  rfl
theorem TenMul.done0 {L M : List Nat} {c0 : Nat} (h : TenMul L M L.length 0 c0) : v16 M = 10 * v16 L + c0 := by
  rw [← h.done, v16_append, v16_cons, v16_nil]; rfl
theorem RrMem.next {w : World} {l : List UInt8} {i : Nat} {L : List Nat} {v : Value} {wr : World} (h : RrMem w l i L v wr) (hi : i < l.length) {M : List Nat} {v' : Value} {w' : World} (ho : OutMem w M v' w') (hlt : ∀ x ∈ M, x < 65536) (hln : M.length ≤ L.length + 1) {c0 : Nat} (hc : c0 = bn l i - 48) (hv : v16 M = 10 * v16 L + c0) :
    RrMem w l (i + 1) M v' w' := by
  have e : dv l[i] = bn l i - 48 := by unfold dv bn; rw [List.getElem?_eq_getElem hi]; rfl
  refine ⟨ho, hlt, ?_, by have := h.len; omega⟩
  rw [List.take_succ_eq_append_getElem hi, List.map_append, List.map_singleton, dval_append, e, hv, h.v_eq, hc]

theorem RrMem.start (w : World) (l : List UInt8) : RrMem w l 0 [] (.slice none 0 0) w :=
  ⟨OutMem.nil w, (fun x hx => by cases hx), by rw [v16_nil]; rfl, Nat.le_refl _⟩

set_option maxHeartbeats 4000000 in
set_option maxRecDepth 1000000 in
theorem refread_calls (s : ByteArray) (w : World) (hs : s.size ≤ maxLen) :
    Calls Tryz.prog 81 #[.string s] w (RetRead w s.data.toList) := by
  unfold maxLen at hs
  obtain ⟨l, hl⟩ : ∃ l, l = s.data.toList := ⟨_, rfl⟩
  have hsz : s.size = l.length := by rw [hl]; exact Lib.size_eq s
  have hget : ∀ i (h : i < s.size), ((s[i]'h).toNat : Int) = (bn l i : Int) := fun i h => by rw [hl]; exact bn_get s i h
  rw [← hl]
  by_cases h0 : l = []
  · have hs0 : s = ⟨#[]⟩ := by rw [← Lib.mk_data s, ← hl, h0]
    have HE : Hid (errR l = 4) := by show errR l = 4; rw [errR, if_pos h0]
    clear hget hsz hl h0
    subst hs0
    go_enter Tryz.func81, Tryz.ntmps81
    go_wp2_with fail
    go_ret2
    exact RetRead.err HE.out (by decide) (Ext.refl _)
  · have hne : s.toList.isEmpty = false := by rw [Lib.toList_data, ← hl]; simpa using h0
    have hne2 : ¬ s.toList = [] := by rw [Lib.toList_data, ← hl]; exact h0
    have hs1 : 0 < s.size := by rw [hsz]; exact List.length_pos_iff.2 h0
    have HSZ := Lib.hid hsz
    have HL := Lib.hid hl
    clear hsz hl h0
    go_enter Tryz.func81, Tryz.ntmps81
    go_wp2_with fail
    go_loop [2, 3, 4] (fun _ _ v4 => ∃ k : Nat, v4 = .int .i64 (k : Int) ∧ k ≤ s.size ∧ ∀ i, i < k → 48 ≤ bn l i ∧ bn l i ≤ 57) (fun _ _ v4 => s.size - (intOf v4).toNat)
    case atStart => exact ⟨0, rfl, Nat.zero_le _, fun i hi => by omega⟩
    case round =>
      obtain ⟨k, rfl, hk, hall⟩ := hrel
      have HA := Lib.hid hall
      clear hall
      by_cases hks : k < s.size
      · by_cases hb1 : bn l k < 48
        · have HE : Hid (errR l = 3) := errR_odd (by rw [← HSZ.out]; exact hks) (.inl hb1)
          go_wp2_with fail
          go_ret2
          exact RetRead.err HE.out (by decide) (Ext.refl _)
        by_cases hb2 : 57 < bn l k
        · have HE : Hid (errR l = 3) := errR_odd (by rw [← HSZ.out]; exact hks) (.inr hb2)
          go_wp2_with fail
          go_ret2
          exact RetRead.err HE.out (by decide) (Ext.refl _)
        · go_wp2_with fail
          refine ⟨⟨_, _, _, ⟨k + 1, rfl, by omega, fun i hi => ?_⟩, rfl, rfl, rfl⟩, by simp [intOf]; omega⟩
          by_cases hik : i < k
          · exact HA.out i hik
          · obtain rfl : i = k := by omega
            omega
      · obtain rfl : k = s.size := by omega
        have HOK : Hid (l.all okd = true) := all_okd (fun i hi => HA.out i (by rw [HSZ.out]; exact hi))
        by_cases c1 : bn l 0 = 48 ∧ 1 < s.size
        · have HE : Hid (errR l = 3) := errR_zero HOK.out (by rw [← HSZ.out]; omega) c1.1
          obtain ⟨c2, c3⟩ := c1
          go_wp2_with fail
          go_ret2
          exact RetRead.err HE.out (by decide) (Ext.refl _)
        by_cases c2 : 20000 < s.size
        · have HE : Hid (errR l = 5) := errR_long HOK.out (by rw [← HSZ.out]; exact c2) (fun e => c1 ⟨e, by omega⟩)
          have c3 : ¬ bn l 0 = 48 := fun e => c1 ⟨e, by omega⟩
          clear c1
          go_wp2_with fail
          go_ret2
          exact RetRead.err HE.out (by decide) (Ext.refl _)
        have HE : Hid (errR l = 0) := errR_ok HOK.out (by rw [← HSZ.out]; exact hs1) (by rw [← HSZ.out]; omega) (fun e => by rw [← HSZ.out]; have := fun h => c1 ⟨e, h⟩; omega)
        have HLEN : Hid (l.length ≤ 20000) := by show _ ≤ 20000; rw [← HSZ.out]; omega
        have HLEN : Hid (l.length ≤ 20000) := by show _ ≤ 20000; rw [← HSZ.out]; omega
        by_cases c3 : bn l 0 = 48
        · have c5 : s.size ≤ 1 := by have := fun h => c1 ⟨c3, h⟩; omega
          clear c1
          go_wp2_with fail
          clear c3 c5 c2
          go_loopw [5, 6, 7, 8, 9] (fun v5 v6 _ _ _ wr => ∃ (i : Nat) (L : List Nat), v6 = .int .i64 (i : Int) ∧ i ≤ s.size ∧ RrMem w l i L v5 wr) (fun _ v6 _ _ _ _ => s.size - (intOf v6).toNat)
          case atStart => exact ⟨0, [], rfl, Nat.zero_le _, RrMem.start w l⟩
          case round =>
            obtain ⟨i, L, rfl, hi, hI⟩ := hrel
            have HI := Lib.hid hI
            by_cases his : i < s.size
            · obtain ⟨pa, pc, rfl⟩ := own_shape hI.out.own
              have hb1 := (okd_of_all HOK.out (i := i) (by rw [← HSZ.out]; omega)).1
              have hb2 := (okd_of_all HOK.out (i := i) (by rw [← HSZ.out]; omega)).2
              obtain ⟨c0, hc0⟩ : ∃ c0, c0 = bn l i - 48 := ⟨_, rfl⟩
              have hc9 : c0 ≤ 9 := by omega
              have hc48 : (bn l i : Int) - 48 = (c0 : Int) := by omega
              have HC0 := Lib.hid hc0
              have hLn : (L.length : Int) ≤ 20000 := by have := hI.len; have := HLEN.out; have := HSZ.out; omega
              clear hI hc0
              go_wp2_with fail
              clear hc48
              go_loopw [7, 8, 9] (fun v7 v8 _ wr => ∃ (k c : Nat) (M : List Nat), v8 = .int .i64 (k : Int) ∧ v7 = .int .u64 (c : Int) ∧ k ≤ L.length ∧ TenMul L M k c c0 ∧ OutMem w M (.slice pa L.length pc) wr) (fun _ v8 _ _ => L.length - (intOf v8).toNat)
              case atStart => exact ⟨0, c0, L, rfl, rfl, Nat.zero_le _, TenMul.start HI.out.lt hc9, HI.out.out⟩
              case round =>
                obtain ⟨k, c, M, rfl, rfl, hk, hT, hM⟩ := hrel
                have HT := Lib.hid hT
                by_cases hkl : k < L.length
                · have hown : wr.ownsRow w.heap.size 54 1 (.slice pa L.length pc) L.length (M.map lv) := by have h := hM.own; rwa [hT.len] at h
                  obtain ⟨g, rfl, hg, hg2, hg3, hcl⟩ := own_cell hown hkl
                  unfold maxLen at hg3
                  have hcell : wr.cell? ⟨g, k, none⟩ = some (.int .u64 ((el L k : Nat) : Int)) := by
                    rw [hcl k hkl, ← HT.out.rest k (Nat.le_refl k), List.getElem?_map, List.getElem?_eq_getElem (by rw [HT.out.len]; exact hkl), el_of_lt (by rw [HT.out.len]; exact hkl)]
                    rfl
                  have hfz := hown.frozenAt k
                  have hel : ((el L k : Nat) : Int) ≤ 65535 := by have := el_16 HI.out.lt k; omega
                  have hcc : (c : Int) ≤ 9 := by have := hT.c_le; omega
                  clear hcl hT
                  go_wp2_with fail
                  exact ⟨⟨k + 1, _, _, rfl, int_eq (by rfl), by omega, HT.out.next HI.out.lt hkl, hM.set k _⟩, by simp [intOf]; omega⟩
                · obtain rfl : k = L.length := by omega
                  by_cases hcz : c = 0
                  · subst hcz
                    clear hT
                    go_wp2_with fail
                    exact ⟨⟨i + 1, M, rfl, by omega, HI.out.next (by rw [← HSZ.out]; exact his) hM HT.out.lt (by rw [HT.out.len]; omega) HC0.out HT.out.done0⟩, by simp [intOf]; omega⟩
                  · have hc1 : (1 : Int) ≤ (c : Int) := by omega
                    have HCB : Hid (c < Bs) := by have := hT.c_le; show c < Bs; rw [Bs_def]; omega
                    have HMl := Lib.hid hM
                    clear hT hcz
                    go_wp2_with (at_builtin; refine append_limbs rfl _ _ 22 Tryz.underlying22 rfl w.heap.size _ L.length (M.map lv) rfl (ownsRow_ext' (by have h := HMl.out.own; rwa [HT.out.len] at h) ((Ext.refl wr).alloc _)) (Nat.le_trans HMl.out.ext.size (by simp)) _ [c] rfl (limbs_lit wr [c] (by simpa using HCB.out) _ rfl 1 rfl (by rw [Lmax_def]; simp)) (by rw [Lmax_def, List.length_singleton]; omega) ?_; intro v' w' hown' hgrow; have HO := Lib.hid (HMl.out.grow ((Ext.refl wr).alloc _) (by rw [HT.out.len]; exact hown') hgrow); clear hown')
                    exact ⟨⟨i + 1, M ++ [c], rfl, by omega, HI.out.next (by rw [← HSZ.out]; exact his) HO.out (by intro x hx; rcases List.mem_append.1 hx with hx | hx; exact HT.out.lt x hx; rw [List.mem_singleton.1 hx]; have := HT.out.c_le; omega) (by rw [List.length_append, HT.out.len]; simp) HC0.out HT.out.done⟩, by simp [intOf]; omega⟩
            · obtain rfl : i = s.size := by omega
              have HR : Hid (v16 L = readN l) := by
                show _ = _
                rw [readN, if_pos HE.out, hI.v_eq, HSZ.out, List.take_length]
              have hlm := (hI.out.ownL (lt_bs_16 hI.lt)).limbs
              have HJ := Lib.hid (join_calls hlm hI.lt (by rw [Lmax_def]; have := hI.len; have := HLEN.out; have := HSZ.out; omega))
              clear hI
              go_wp2_with (go_at_call 96; refine (HJ.out).mono ?_; rintro e w2 ⟨v2, rfl, hv2, hx2⟩; rw [HR.out] at hv2)
              go_ret2
              exact ⟨_, by rw [HE.out]; rfl, hv2.mono HI.out.out.ext.size, HI.out.out.ext.trans hx2⟩
        · clear c1
          go_wp2_with fail
          clear c3 c2
          go_loopw [5, 6, 7, 8, 9] (fun v5 v6 _ _ _ wr => ∃ (i : Nat) (L : List Nat), v6 = .int .i64 (i : Int) ∧ i ≤ s.size ∧ RrMem w l i L v5 wr) (fun _ v6 _ _ _ _ => s.size - (intOf v6).toNat)
          case atStart => exact ⟨0, [], rfl, Nat.zero_le _, RrMem.start w l⟩
          case round =>
            obtain ⟨i, L, rfl, hi, hI⟩ := hrel
            have HI := Lib.hid hI
            by_cases his : i < s.size
            · obtain ⟨pa, pc, rfl⟩ := own_shape hI.out.own
              have hb1 := (okd_of_all HOK.out (i := i) (by rw [← HSZ.out]; omega)).1
              have hb2 := (okd_of_all HOK.out (i := i) (by rw [← HSZ.out]; omega)).2
              obtain ⟨c0, hc0⟩ : ∃ c0, c0 = bn l i - 48 := ⟨_, rfl⟩
              have hc9 : c0 ≤ 9 := by omega
              have hc48 : (bn l i : Int) - 48 = (c0 : Int) := by omega
              have HC0 := Lib.hid hc0
              have hLn : (L.length : Int) ≤ 20000 := by have := hI.len; have := HLEN.out; have := HSZ.out; omega
              clear hI hc0
              go_wp2_with fail
              clear hc48
              go_loopw [7, 8, 9] (fun v7 v8 _ wr => ∃ (k c : Nat) (M : List Nat), v8 = .int .i64 (k : Int) ∧ v7 = .int .u64 (c : Int) ∧ k ≤ L.length ∧ TenMul L M k c c0 ∧ OutMem w M (.slice pa L.length pc) wr) (fun _ v8 _ _ => L.length - (intOf v8).toNat)
              case atStart => exact ⟨0, c0, L, rfl, rfl, Nat.zero_le _, TenMul.start HI.out.lt hc9, HI.out.out⟩
              case round =>
                obtain ⟨k, c, M, rfl, rfl, hk, hT, hM⟩ := hrel
                have HT := Lib.hid hT
                by_cases hkl : k < L.length
                · have hown : wr.ownsRow w.heap.size 54 1 (.slice pa L.length pc) L.length (M.map lv) := by have h := hM.own; rwa [hT.len] at h
                  obtain ⟨g, rfl, hg, hg2, hg3, hcl⟩ := own_cell hown hkl
                  unfold maxLen at hg3
                  have hcell : wr.cell? ⟨g, k, none⟩ = some (.int .u64 ((el L k : Nat) : Int)) := by
                    rw [hcl k hkl, ← HT.out.rest k (Nat.le_refl k), List.getElem?_map, List.getElem?_eq_getElem (by rw [HT.out.len]; exact hkl), el_of_lt (by rw [HT.out.len]; exact hkl)]
                    rfl
                  have hfz := hown.frozenAt k
                  have hel : ((el L k : Nat) : Int) ≤ 65535 := by have := el_16 HI.out.lt k; omega
                  have hcc : (c : Int) ≤ 9 := by have := hT.c_le; omega
                  clear hcl hT
                  go_wp2_with fail
                  exact ⟨⟨k + 1, _, _, rfl, int_eq (by rfl), by omega, HT.out.next HI.out.lt hkl, hM.set k _⟩, by simp [intOf]; omega⟩
                · obtain rfl : k = L.length := by omega
                  by_cases hcz : c = 0
                  · subst hcz
                    clear hT
                    go_wp2_with fail
                    exact ⟨⟨i + 1, M, rfl, by omega, HI.out.next (by rw [← HSZ.out]; exact his) hM HT.out.lt (by rw [HT.out.len]; omega) HC0.out HT.out.done0⟩, by simp [intOf]; omega⟩
                  · have hc1 : (1 : Int) ≤ (c : Int) := by omega
                    have HCB : Hid (c < Bs) := by have := hT.c_le; show c < Bs; rw [Bs_def]; omega
                    have HMl := Lib.hid hM
                    clear hT hcz
                    go_wp2_with (at_builtin; refine append_limbs rfl _ _ 22 Tryz.underlying22 rfl w.heap.size _ L.length (M.map lv) rfl (ownsRow_ext' (by have h := HMl.out.own; rwa [HT.out.len] at h) ((Ext.refl wr).alloc _)) (Nat.le_trans HMl.out.ext.size (by simp)) _ [c] rfl (limbs_lit wr [c] (by simpa using HCB.out) _ rfl 1 rfl (by rw [Lmax_def]; simp)) (by rw [Lmax_def, List.length_singleton]; omega) ?_; intro v' w' hown' hgrow; have HO := Lib.hid (HMl.out.grow ((Ext.refl wr).alloc _) (by rw [HT.out.len]; exact hown') hgrow); clear hown')
                    exact ⟨⟨i + 1, M ++ [c], rfl, by omega, HI.out.next (by rw [← HSZ.out]; exact his) HO.out (by intro x hx; rcases List.mem_append.1 hx with hx | hx; exact HT.out.lt x hx; rw [List.mem_singleton.1 hx]; have := HT.out.c_le; omega) (by rw [List.length_append, HT.out.len]; simp) HC0.out HT.out.done⟩, by simp [intOf]; omega⟩
            · obtain rfl : i = s.size := by omega
              have HR : Hid (v16 L = readN l) := by
                show _ = _
                rw [readN, if_pos HE.out, hI.v_eq, HSZ.out, List.take_length]
              have hlm := (hI.out.ownL (lt_bs_16 hI.lt)).limbs
              have HJ := Lib.hid (join_calls hlm hI.lt (by rw [Lmax_def]; have := hI.len; have := HLEN.out; have := HSZ.out; omega))
              clear hI
              go_wp2_with (go_at_call 96; refine (HJ.out).mono ?_; rintro e w2 ⟨v2, rfl, hv2, hx2⟩; rw [HR.out] at hv2)
              go_ret2
              exact ⟨_, by rw [HE.out]; rfl, hv2.mono HI.out.out.ext.size, HI.out.out.ext.trans hx2⟩
end Go.Proofs.YtaklejkdmfgplaaGreatDoor
