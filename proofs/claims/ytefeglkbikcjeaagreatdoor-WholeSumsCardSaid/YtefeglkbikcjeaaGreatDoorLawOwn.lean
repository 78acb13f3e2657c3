/- Contracts of the law's helpers that copy and that write over: own, spoil. -/
import Derived.Test.YtefeglkbikcjeaaGreatDoorLawRef
namespace Go.Proofs.YtefeglkbikcjeaaGreatDoor
open Go Go.RowKit

theorem row_slice {w : World} {B : Nat} {e : TypeId} {s : Nat} {v : Value} {n : Nat} {xs : List Value} (h : w.ownsRow B e s v n xs) : ∃ a n c, v = .slice a n c := by
  rcases h.2 with ⟨rfl, -⟩ | ⟨g, cap, cur, rfl, -⟩
  · exact ⟨_, _, _, rfl⟩
  · exact ⟨_, _, _, rfl⟩

set_option maxHeartbeats 1000000 in
set_option maxRecDepth 100000 in
theorem own_calls {w : World} {v : Value} {A : List Nat} (hA : Limbs w v A) (hl : A.length ≤ 65535) (neg : Bool) :
    Calls Tryz.prog 10 #[.agg #[.bool neg, v]] w fun e w' => ∃ u, e = .returned (.agg #[.bool neg, u]) ∧ OwnL w.heap.size w' u A ∧ Ext w w' := by
  obtain ⟨pa, pc, rfl, -, -, -⟩ := hA.open
  have HL := Lib.hid (lmax_16 (show A.length ≤ 65536 by omega))
  have y0 := (((Ext.refl w).alloc (.cells #[.bool neg, .slice pa A.length pc] 25)).alloc (.cells #[.bool false, .slice none 0 0] 25)).alloc (.cells #[] 61)
  have hrow : World.ownsRow ((((w.alloc (.cells #[.bool neg, .slice pa A.length pc] 25)).alloc (.cells #[.bool false, .slice none 0 0] 25)).alloc (.cells #[] 61))) (w.heap.size + 1 + 1) 61 1 (.slice (some ⟨w.heap.size + 1 + 1, 0, none⟩) 0 0) 0 [] := by
    have h := World.ownsRow_made (base := w.heap.size + 1 + 1) (e := 61) (size := 1) ((w.alloc (.cells #[.bool neg, .slice pa A.length pc] 25)).alloc (.cells #[.bool false, .slice none 0 0] 25)) #[] 0 (by simp) (Nat.zero_le _) rfl
    simpa using h
  have hsz : w.heap.size + 1 + 1 ≤ (((w.alloc (.cells #[.bool neg, .slice pa A.length pc] 25)).alloc (.cells #[.bool false, .slice none 0 0] 25)).alloc (.cells #[] 61)).heap.size := by simp
  have HSZ := Lib.hid hsz
  have HROW := Lib.hid hrow
  clear hl hsz hrow
  go_enter Tryz.func10, Tryz.ntmps10
  go_wp2_with (at_builtin; refine append_limbs rfl _ _ 23 Tryz.underlying23 rfl (w.heap.size + 1 + 1) _ 0 [] rfl HROW.out HSZ.out _ A rfl (hA.ext y0) (by rw [Nat.zero_add]; exact HL.out) ?_; intro v' w' hown' hgrow; obtain ⟨va, vn, vc, rfl⟩ := row_slice hown'; have X2 : Ext ((w.alloc (.cells #[.bool neg, .slice pa A.length pc] 25)).alloc (.cells #[.bool false, .slice none 0 0] 25)) w' := ((Ext.refl _).alloc _).grown hgrow (fun k hk => by cases hk; simp); obtain ⟨⟨a1, a2⟩, ⟨b1, b2⟩, b3, b4⟩ := box22 X2; obtain ⟨-, -, a3, a4⟩ := box2 (((Ext.refl (w.alloc (.cells #[.bool neg, .slice pa A.length pc] 25))).alloc (.cells #[.bool false, .slice none 0 0] 25)).trans X2); have HO := Lib.hid hown'; have Y2 := Lib.hid (((((Ext.refl w).alloc _).alloc _).trans X2 : Ext w w')); clear hown' hgrow X2)
  have ho : OwnL (w.heap.size + 1 + 1) w' (.slice va vn vc) A := ⟨.inl (by simpa using HO.out), hA.2⟩
  refine bodyPost_ret (v := .agg #[.bool neg, .slice va vn vc]) (by simp [results, Tryz.results10, go_sem, *]) rfl ⟨_, rfl, ?_, ?_⟩
  · exact (((ho.set_other (p := ⟨w.heap.size, 1, none⟩) (by simp; omega) _).set_other (p := ⟨w.heap.size + 1, 0, none⟩) (by simp) _).set_other (p := ⟨w.heap.size + 1, 1, none⟩) (by simp) _).mono (by omega)
  · exact Below.setCell (Below.setCell (Below.setCell Y2.out (Nat.le_refl _) _) (Nat.le_succ _) _) (Nat.le_succ _) _

/-- block g is a row of c cells that may be written -/
def RowAtL (w : World) (g c : Nat) : Prop := ∃ cur t, w.heap[g]? = some (.cells cur t (0, 0)) ∧ cur.size = c
theorem RowAtL.cell {w : World} {g c : Nat} (h : RowAtL w g c) {k : Nat} (hk : k < c) : ∃ u, w.cell? ⟨g, k, none⟩ = some u ∧ w.frozen? ⟨g, k, none⟩ = false := by
  obtain ⟨cur, t, h1, h2⟩ := h
  refine ⟨cur[k]'(by omega), ?_, ?_⟩
  · rw [cell_of_row _ g _ cur t (0, 0) h1]; simp [h2 ▸ hk]
  · simp [World.frozen?, h1]
theorem RowAtL.set {w : World} {g c : Nat} (h : RowAtL w g c) (p : Addr) (u : Value) : RowAtL (w.setCell p u) g c := by
  obtain ⟨cur, t, h1, h2⟩ := h
  by_cases e : p.block = g
  · refine ⟨if p.spot.isSome then cur else cur.setIfInBounds p.off u, t, ?_, ?_⟩
    · simp only [World.setCell, Array.getElem?_modify, e, if_true, h1, Option.map_some]
    · split <;> simp [h2]
  · refine ⟨cur, t, ?_, h2⟩
    rw [Below.heap_setCell _ _ _ _ (fun x => e x.symm)]
    exact h1

/-- what writing over does -/
structure Spo (B s : Nat) (w wr : World) : Prop where
  below : Below B w wr
  same : ∀ o, wr.cell? ⟨s, o, none⟩ = w.cell? ⟨s, o, none⟩
  rows : ∀ g c, RowAtL w g c → RowAtL wr g c
theorem Spo.refl (B s : Nat) (w : World) : Spo B s w w := ⟨Below.refl _ _, fun _ => rfl, fun _ _ h => h⟩
theorem Spo.drewN {B s : Nat} {w wr : World} (h : Spo B s w wr) (n : Nat) : Spo B s w (wr.drewN n) := ⟨Below.trans h.below ⟨rfl, rfl, rfl, Nat.le_refl _, fun _ _ => rfl⟩, h.same, h.rows⟩
theorem Spo.set {B s : Nat} {w wr : World} (h : Spo B s w wr) {g : Nat} (hB : B ≤ g) (hs : g ≠ s) (k : Nat) (u : Value) : Spo B s w (wr.setCell ⟨g, k, none⟩ u) :=
  ⟨Below.setCell h.below hB _, fun o => by rw [cell_set_other (.inl hs)]; exact h.same o, fun g c hg => (h.rows g c hg).set _ _⟩

/-- a slice that may be written over -/
def Soft (B s : Nat) (w : World) (u : Value) : Prop := ∃ a m c, u = .slice a m c ∧ m ≤ c ∧ c ≤ maxLen ∧ (c = 0 ∨ ∃ g, a = some ⟨g, 0, none⟩ ∧ B ≤ g ∧ g ≠ s ∧ RowAtL w g c)

set_option maxHeartbeats 1000000 in
set_option maxRecDepth 100000 in
theorem spoil_calls {w : World} {s o n cap B : Nat} (hcap : n ≤ cap) (hmax : n ≤ 1000) (hc : ∀ i, i < n → ∃ u, w.cell? ⟨s, o + i * 2 + 1, none⟩ = some u ∧ Soft B s w u) :
    Calls Tryz.prog 22 #[.slice (some ⟨s, o, none⟩) n cap] w fun e w' => e = .returned (.tuple #[]) ∧ Below B w w' := by
  have HC := Lib.hid hc
  have hni : (n : Int) ≤ 1000 := by omega
  clear hc hmax
  go_enter Tryz.func22, Tryz.ntmps22
  go_wp2_with fail
  go_loopw [2] (fun v2 wr => ∃ i : Nat, v2 = .int .i64 (i : Int) ∧ i ≤ n ∧ Spo B s w wr) (fun v2 _ => n - (intOf v2).toNat)
  case atStart => exact ⟨0, rfl, Nat.zero_le _, Spo.refl _ _ _⟩
  case round =>
    obtain ⟨i, rfl, hi, hI⟩ := hrel
    by_cases hin : i < n
    · obtain ⟨u, hcell, a, m, c, rfl, hmc, hcm, hrow⟩ := HC.out i hin
      have hcw : wr.cell? ⟨s, o + i * 2 + 1, none⟩ = some (.slice a m c) := by rw [hI.same]; exact hcell
      have HR := Lib.hid hrow
      unfold maxLen at hcm
      have hci : (c : Int) ≤ 9223372036854775807 := by omega
      clear hrow hcell hcm
      go_wp2_with (go_quiet (fail))
      obtain ⟨wo, rfl⟩ : ∃ wo : World, wo = wr := ⟨_, rfl⟩
      have hI2 := hI.drewN nq
      have HI2 := Lib.hid hI2
      clear hcw hI hI2
      go_loopw [4] (fun v4 wr => ∃ k : Nat, v4 = .int .i64 (k : Int) ∧ k ≤ c ∧ Spo B s w wr) (fun v4 _ => c - (intOf v4).toNat)
      case atStart => exact ⟨0, rfl, Nat.zero_le _, HI2.out⟩
      case round =>
        obtain ⟨k, rfl, hk, hJ⟩ := hrel
        by_cases hkc : k < c
        · obtain ⟨g, rfl, hBg, hgs, hrow⟩ := HR.out.resolve_left (by omega)
          obtain ⟨x, hx, hf⟩ := (hJ.rows g c hrow).cell hkc
          have HJ := Lib.hid (hJ.set hBg hgs k (.int .u64 7))
          clear hrow hJ
          go_wp2_with fail
          exact ⟨⟨k + 1, by go_num, by omega, HJ.out⟩, by simp [intOf]; omega⟩
        · obtain rfl : k = c := by omega
          go_wp2_with fail
          exact ⟨⟨i + 1, by go_num, by omega, hJ⟩, by simp [intOf]; omega⟩
    · obtain rfl : i = n := by omega
      have hb := hI.below
      go_wp2_with fail
      go_end0
      exact ⟨rfl, hb⟩
end Go.Proofs.YtefeglkbikcjeaaGreatDoor
