/- The contract of nat.Sub. -/
import Derived.Test.YtomhfipgabpfiaaGreatDoorNat2
namespace Go.Proofs.YtomhfipgabpfiaaGreatDoor
open Go Go.RowKit

set_option maxHeartbeats 400000 in
theorem sub1_calls (bc : Nat) (W : World) (x y c : Nat) (hc : c ≤ 1) (h1 : W.cell? ⟨bc, 0, none⟩ = some (.int .u64 (c : Int))) (h2 : W.frozen? ⟨bc, 0, none⟩ = false) :
    Calls Tryz.prog 78 #[.int .u64 (x : Int), .int .u64 (y : Int), .pointer (some ⟨bc, 0, none⟩)] W fun e W' =>
      e = .returned (.int .u64 ((subF x y c).1 : Nat)) ∧ W.setCell ⟨bc, 0, none⟩ (.int .u64 ((subF x y c).2 : Nat)) = W' := by
  go_enter Tryz.func78, Tryz.ntmps78
  go_wp2_with (go_at_call 79; refine (sub_calls _ x y c hc).mono ?_; rintro e w' ⟨rfl, rfl⟩)
  go_ret
  exact ⟨rfl, rfl⟩

/-- a difference, or none -/
def RetSub (w : World) (a b : Nat) (e : Ending) (w' : World) : Prop :=
  ∃ v, e = .returned (.tuple #[v, .int .i64 (if a < b then 8 else 0)]) ∧ OwnL w.heap.size w' v (dig (a - b)) ∧ Ext w w'

set_option maxHeartbeats 400000 in
theorem natsub_calls {w : World} {v u : Value} {A B : List Nat} (hA : Limbs w v A) (hB : Limbs w u B) (hlA : A.length < Lmax) (hlB : B.length < Lmax) :
    Calls Tryz.prog 45 #[v, u] w (RetSub w (val A) (val B)) := by
  have HLA := Lib.hid hlA
  have HLB := Lib.hid hlB
  have hA1 := Lib.hid hA.2
  have hB1 := Lib.hid hB.2
  by_cases h : val A < val B
  · have HC : Hid (cmpN (val A) (val B) = -1) := cmpN_lt h
    have H := Lib.hid h
    clear hlA hlB h
    go_enter Tryz.func45, Tryz.ntmps45
    go_wp2_with (go_at_call 51; refine (cmp_calls hA hB (Nat.le_of_lt HLA.out) (Nat.le_of_lt HLB.out)).mono ?_; rintro e w' ⟨rfl, rfl⟩; rw [HC.out])
    go_ret2
    exact ⟨_, by rw [if_pos H.out]; rfl, by rw [show val A - val B = 0 by have := H.out; omega, dig_zero]; exact OwnL.nil _ _, Ext.refl _⟩
  · obtain ⟨c, hc⟩ : ∃ c, c = cmpN (val A) (val B) := ⟨_, rfl⟩
    have hc0 : 0 ≤ c := by rw [hc]; unfold cmpN; rw [if_neg h]; split <;> decide
    have HC := Lib.hid hc
    have H := Lib.hid h
    have HV : Hid (val (outsTo subF A B (max A.length B.length + 1)) = val A - val B) := sub_outs hA.2 hB.2 (by omega)
    clear hlA hlB h hc
    go_enter Tryz.func45, Tryz.ntmps45
    go_wp2_with (first
      | (go_at_call 51; refine (cmp_calls hA hB (Nat.le_of_lt HLA.out) (Nat.le_of_lt HLB.out)).mono ?_; rintro e w' ⟨rfl, rfl⟩; rw [← HC.out])
      | (go_at_call 76; refine (each_calls hA hB (Nat.le_of_lt HLA.out) (Nat.le_of_lt HLB.out) (by have := HLA.out; have := HLB.out; omega) ((Ext.refl w).alloc _) w.heap.size (Nat.le_refl _) (by simp) (by simp [go_sem]) (by simp [go_sem]) _ (fun _ _ => by simp [go_sem]) subF subF_ok (fun W x y c => sub1_calls _ W x y c)).mono ?_; rintro e w' ⟨r, rfl, hr, hx⟩))
    go_ret2
    rw [HV.out] at hr
    exact ⟨_, by rw [if_neg H.out]; rfl, hr, hx⟩
theorem sub_ok {w : World} {v u : Value} {A B : List Nat} (hA : Limbs w v A) (hB : Limbs w u B) (hlA : A.length < Lmax) (hlB : B.length < Lmax) (h : val B ≤ val A) :
    Calls Tryz.prog 45 #[v, u] w fun e w' => ∃ r, e = .returned (.tuple #[r, .int .i64 0]) ∧ OwnL w.heap.size w' r (dig (val A - val B)) ∧ Ext w w' :=
  (natsub_calls hA hB hlA hlB).mono fun _ _ ⟨r, h1, h2, h3⟩ => by
    rw [if_neg (by omega)] at h1
    exact ⟨r, h1, h2, h3⟩
end Go.Proofs.YtomhfipgabpfiaaGreatDoor
