/- Contracts of package quo, first part: the division by one limb. -/
import Derived.Test.YtomhfipgabpfiaaGreatDoorMul
import Derived.Test.YtomhfipgabpfiaaGreatDoorDiv64
namespace Go.Proofs.YtomhfipgabpfiaaGreatDoor
open Go Go.RowKit

theorem ownsRow_ext {B : Nat} {e : TypeId} {s : Nat} {w w' : World} {v : Value} {n : Nat} {xs : List Value} (h : w.ownsRow B e s v n xs) (k : Ext w w') : w'.ownsRow B e s v n xs := by
  refine ⟨h.1, ?_⟩
  rcases h.2 with h2 | ⟨g, cap, cur, rfl, hg, hh, rest⟩
  · exact .inl h2
  · exact .inr ⟨g, cap, cur, rfl, hg, by rw [k.block g (Array.getElem?_eq_some_iff.1 hh).1]; exact hh, rest⟩

theorem MulMem.later {w : World} {g n : Nat} {O : List Nat} {wr w2 : World} (h : MulMem w g n O wr) (k : Ext wr w2) : MulMem w g n O w2 :=
  ⟨ownsRow_ext h.own k, h.ext.trans k⟩

theorem MulMem.limbs {w : World} {g n : Nat} {O : List Nat} {wr : World} (h : MulMem w g n O wr) (hl : O.length = n) (hlt : ∀ x ∈ O, x < Bs) : Limbs wr (.slice (some ⟨g, 0, none⟩) n n) O := by
  subst hl
  exact ⟨Own.sl (B := g) (e := 46) (.inl h.own), hlt⟩

set_option maxHeartbeats 1000000 in
theorem short_calls {w : World} {v : Value} {A : List Nat} (hA : Limbs w v A) (hln : A.length ≤ Lmax) (d : Nat) (hd : d < Bs) (hd0 : 0 < d) :
    Calls Tryz.prog 68 #[v, .int .u64 (d : Int)] w fun e w' =>
      ∃ (q : Value) (r : Nat), e = .returned (.tuple #[q, .int .u64 (r : Int)]) ∧ Hid (r = val A % d) ∧ OwnL w.heap.size w' q (dig (val A / d)) ∧ Ext w w' := by
  have hoA := hA.open
  obtain ⟨a, cap, rfl, h1, h2, h3⟩ := hoA
  have kn := lmax_le hln
  have HN := Lib.hid hln
  have H3 := Lib.hid h3
  unfold maxLen at h2
  clear hln h3
  go_enter Tryz.func68, Tryz.ntmps68
  go_wp2_with (at_make; refine make_limbs rfl _ _ 23 Tryz.underlying23 rfl A.length _ rfl rfl rfl HN.out ?_; intro w1 hown1 hg1; have O1 := Lib.hid hown1; clear hown1)
  have hI0 : MulMem w w.heap.size A.length (List.replicate A.length 0 ++ []) w1 := ⟨by rw [List.append_nil]; exact O1.out, (Ext.refl w).grown hg1 (by intro k hk; cases hk)⟩
  go_loopw [5, 6] (fun v5 v6 wr => ∃ (n r : Nat) (D : List Nat), v6 = .int .i64 ((n : Int) - 1) ∧ v5 = .int .u64 (r : Int) ∧ ShortInv A d n r D ∧ MulMem w w.heap.size A.length (List.replicate n 0 ++ D) wr) (fun _ v6 _ => (intOf v6 + 1).toNat)
  case atStart => exact ⟨A.length, 0, [], rfl, rfl, ShortInv.start A d, hI0⟩
  case round =>
    obtain ⟨n, r, D, rfl, rfl, hS, hI⟩ := hrel
    by_cases hn : n = 0
    · subst hn
      have hT : Limbs wr (.slice (some ⟨w.heap.size, 0, none⟩) A.length A.length) D := by
        have := hI.limbs (by simpa using hS.len) (zeros_lt hS.lt 0)
        simpa using this
      have hlen : Hid (D.length ≤ Lmax) := by show _ ≤ Lmax; rw [show D.length = A.length by simpa using hS.len]; exact HN.out
      have hv : Hid (val D = val A / d) := by show val D = _; rw [hS.val_eq]; simp
      have hr' : Hid (r = val A % d) := by show r = _; rw [hS.r_eq]; simp
      go_wp2_with (go_at_call 49; refine (trim_calls hT hlen.out).mono ?_; rintro e w' ⟨q, rfl, hq, hx'⟩)
      go_ret2
      rw [hv.out] at hq
      exact ⟨q, r, rfl, hr', hq.mono hI.ext.size, hI.ext.trans hx'⟩
    · obtain ⟨m, rfl⟩ : ∃ m, n = m + 1 := ⟨n - 1, by omega⟩
      have hm : m < A.length := by have := hS.len; omega
      obtain ⟨b, o, rfl, hb, hc⟩ := H3.out m hm
      have hcA : wr.cell? ⟨b, o + m, none⟩ = some (.int .u64 (el A m : Nat)) := by rw [Below.cell hI.ext (p := ⟨b, o + m, none⟩) hb]; exact hc m hm
      have hrd := hS.r_lt hd0
      have HS := Lib.hid hS
      clear hc hS
      go_wp2_with (go_at_call 90; refine (worddiv_calls _ r (el A m) d hd (el_lt hA.2 m) hrd).mono ?_; rintro e w2 ⟨rfl, hx2⟩; have hI2 := hI.later hx2; have hcq := hI2.cell hm (by have := HS.out.len; simp; omega); have hfq := hI2.froz m)
      exact ⟨⟨m, _, _, rfl, rfl, HS.out.next hA.2 hd0, by rw [← zeros_set]; exact hI2.set (Nat.le_refl _) _ _⟩, by simp [intOf]⟩
end Go.Proofs.YtomhfipgabpfiaaGreatDoor
