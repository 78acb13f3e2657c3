/- What is drawn of any number of things, by the package and by the reference; spoil. -/
import Derived.Test.YtkfioaoooodmnaaGreatDoorRefPDraw
namespace Go.Proofs.YtkfioaoooodmnaaGreatDoor
open Go Go.RowKit

set_option maxHeartbeats 2000000 in
set_option maxRecDepth 100000 in
theorem pdraw_one (w : World) (v : Value) :
    Calls Tryz.prog 46 #[v, .int .i64 1] w fun e w' => ∃ r, e = .returned (.tuple #[r, .bool true]) ∧ OwnZ 3 w.heap.size w' r [0] ∧ Ext w w' := by
  have H1 : Hid (permL [] = [0]) := rfl
  go_enter Tryz.func46, Tryz.ntmps46
  go_wp2_with fail
  refine wp_loop_rounds 1 ?_
  rw [rounds_succ]
  go_wp2_with fail
  refine (prow_zl (Ints.nil _) (by rfl) H1.out).mono ?_
  rintro e w1 ⟨r, rfl, ho, x1⟩
  have HO := Lib.hid ho
  have X1 := Lib.hid x1
  clear ho x1
  go_wp2_with fail
  go_ret2
  exact ⟨r, rfl, HO.out, X1.out⟩
set_option maxHeartbeats 2000000 in
set_option maxRecDepth 100000 in
theorem rpdraw_one (w : World) (v : Value) :
    Calls Tryz.prog 47 #[v, .int .i64 1] w fun e w' => ∃ r, e = .returned (.tuple #[r, .bool true]) ∧ OwnZ 3 w.heap.size w' r [0] ∧ Ext w w' := by
  go_enter Tryz.func47, Tryz.ntmps47
  go_wp2_with fail
  refine wp_loop_rounds 1 ?_
  rw [rounds_succ]
  go_wp2_with fail
  refine (rrow_ok (Ints.nil _) (by rfl)).mono ?_
  rintro e w1 ⟨g, cap, rfl, hg, hr, x1⟩
  have HO : Hid (OwnZ 3 w.heap.size w1 (.slice (some ⟨g, 0, none⟩) 1 cap) [0]) := RowZ.z (n := 1) hr rfl hg
  have X1 := Lib.hid x1
  clear hg hr x1
  go_wp2_with fail
  go_ret2
  exact ⟨_, rfl, HO.out, X1.out⟩

set_option maxHeartbeats 2000000 in
set_option maxRecDepth 100000 in
theorem spoil_none (w : World) (p : Option Addr) (c : Nat) :
    Calls Tryz.prog 45 #[.slice p 0 c] w fun e w' => e = .returned (.tuple #[]) ∧ Ext w w' := by
  go_enter Tryz.func45, Tryz.ntmps45
  go_wp2_with fail
  refine wp_loop_rounds 1 ?_
  rw [rounds_succ]
  go_wp2_with fail
  (try simp only [Exit.inBlock, Exit.then])
  refine bodyPost_end (results_none rfl _ _ _) rfl ?_
  exact ⟨rfl, Ext.refl _⟩
set_option maxHeartbeats 2000000 in
set_option maxRecDepth 100000 in
theorem spoil_row {w : World} {g cap n : Nat} {L : List Int} (h : RowG 3 g cap L w) (hn : L.length = n) (hl : n ≤ 64) :
    Calls Tryz.prog 45 #[.slice (some ⟨g, 0, none⟩) n cap] w fun e w' => e = .returned (.tuple #[]) ∧ Mv g w w' := by
  have H := Lib.hid h
  have HN := Lib.hid hn
  have t1 : (n : Int) ≤ 64 := by omega
  clear h hn hl
  go_enter Tryz.func45, Tryz.ntmps45
  go_wp2_with fail
  go_loopw [2] (fun v2 wr => ∃ (i : Nat) (M : List Int), v2 = .int .i64 (i : Int) ∧ i ≤ n ∧ M.length = n ∧ RowG 3 g cap M wr ∧ Mv g w wr) (fun v2 _ => n - (intOf v2).toNat)
  case atStart => exact ⟨0, L, rfl, Nat.zero_le _, HN.out, H.out, Mv.refl _ _⟩
  case round =>
    obtain ⟨i, M, rfl, hi, hm, hr, hx⟩ := hrel
    have HM := Lib.hid hm
    have R := Lib.hid hr
    have X := Lib.hid hx
    clear hm hr hx
    by_cases hin : i < n
    · have LT := Lib.hid hin
      have hc := R.out.cell (j := i) (by rw [HM.out]; exact hin)
      have hf := R.out.free i
      go_wp2_with fail
      exact ⟨⟨i + 1, M.set i (-77), by go_num, LT.out, by rw [List.length_set]; exact HM.out, R.out.set i _, X.out.trans (Mv.set g i _ _)⟩, by simp [intOf]; have := LT.out; omega⟩
    · obtain rfl : n = i := by omega
      go_wp2_with fail
      (try simp only [Exit.inBlock, Exit.then])
      refine bodyPost_end (results_none rfl _ _ _) rfl ?_
      exact ⟨rfl, X.out⟩
/-- what is drawn of x things: the row, whether it is one, the bits read, whether they are over -/
def drRes (l : List UInt8) (x : Int) (a : Nat) (ov : Bool) : List Int × Bool × Nat × Bool :=
  if x < 0 ∨ 64 < x then ([], false, a, ov)
  else if x = 0 then ([], true, a, ov)
  else if x = 1 then ([0], true, a, ov)
  else if ov = true then ([], false, a, true)
  else match drawsB l x.toNat a with
    | (some vs, b) => (rowF vs (things x.toNat), true, b, false)
    | (none, b) => ([], false, b, true)
/-- what a draw leaves -/
def RetDr (S : ByteArray) (t a : Nat) (L : List Int) (y ov : Bool) (w : World) (e : Ending) (w' : World) : Prop :=
  ∃ r, e = .returned (.tuple #[r, .bool y]) ∧ OwnZ 3 w.heap.size w' r L ∧ Mv t w w' ∧ Cur S t a ov w'
theorem RetDr.none {S : ByteArray} {t a : Nat} {y ov : Bool} {w w' : World} {e : Ending} (h : e = .returned (.tuple #[.slice none 0 0, .bool y])) (m : Mv t w w') (c : Cur S t a ov w') : RetDr S t a [] y ov w e w' :=
  ⟨_, h, ⟨OwnI.nil _ _ _, by decide⟩, m, c⟩
theorem pdraw_all {S : ByteArray} {t a a' : Nat} {ov ov' y : Bool} {w : World} {L : List Int} (hc : Cur S t a ov w) (ho : okS S.data.toList = true) (ha : a ≤ S.size) (x : Int) (hr : drRes S.data.toList x a ov = (L, y, a', ov')) :
    Calls Tryz.prog 46 #[.pointer (some ⟨t, 0, none⟩), .int .i64 x] w (RetDr S t a' L y ov' w) := by
  have hm : ∀ {w'}, Ext w w' → Mv t w w' := fun h => h.mv (Nat.le_of_lt hc.lt)
  unfold drRes at hr
  split at hr
  · rename_i h
    obtain ⟨rfl, rfl, rfl, rfl⟩ : L = [] ∧ y = false ∧ a' = a ∧ ov' = ov := by simp only [Prod.mk.injEq] at hr; exact ⟨hr.1.symm, hr.2.1.symm, hr.2.2.1.symm, hr.2.2.2.symm⟩
    exact (pdraw_bad w _ x h).mono fun e w' ⟨h1, h2⟩ => .none h1 (hm h2) (hc.ext h2)
  split at hr
  · rename_i h; subst h
    obtain ⟨rfl, rfl, rfl, rfl⟩ : L = [] ∧ y = true ∧ a' = a ∧ ov' = ov := by simp only [Prod.mk.injEq] at hr; exact ⟨hr.1.symm, hr.2.1.symm, hr.2.2.1.symm, hr.2.2.2.symm⟩
    exact (pdraw_zero w _).mono fun e w' ⟨h1, h2⟩ => .none h1 (hm h2) (hc.ext h2)
  split at hr
  · rename_i h; subst h
    obtain ⟨rfl, rfl, rfl, rfl⟩ : L = [0] ∧ y = true ∧ a' = a ∧ ov' = ov := by simp only [Prod.mk.injEq] at hr; exact ⟨hr.1.symm, hr.2.1.symm, hr.2.2.1.symm, hr.2.2.2.symm⟩
    exact (pdraw_one w _).mono fun e w' ⟨r, h1, h2, h3⟩ => ⟨r, h1, h2, hm h3, hc.ext h3⟩
  rename_i g1 g2 g3
  obtain ⟨n, rfl⟩ : ∃ n : Nat, x = (n : Int) := ⟨x.toNat, by omega⟩
  split at hr
  · rename_i h; subst h
    obtain ⟨rfl, rfl, rfl, rfl⟩ : L = [] ∧ y = false ∧ a' = a ∧ ov' = true := by simp only [Prod.mk.injEq] at hr; exact ⟨hr.1.symm, hr.2.1.symm, hr.2.2.1.symm, hr.2.2.2.symm⟩
    exact (pdraw_over hc n (by omega) (by omega)).mono fun e w' ⟨h1, h2⟩ => .none h1 (hm h2) (hc.ext h2)
  rename_i h
  obtain rfl : ov = false := by simpa using h
  rw [Int.toNat_natCast] at hr
  rcases hd : drawsB S.data.toList n a with ⟨_ | vs, b⟩
  · rw [hd] at hr
    obtain ⟨rfl, rfl, rfl, rfl⟩ : L = [] ∧ y = false ∧ a' = b ∧ ov' = true := by simp only [Prod.mk.injEq] at hr; exact ⟨hr.1.symm, hr.2.1.symm, hr.2.2.1.symm, hr.2.2.2.symm⟩
    exact (pdraw_none hc ho ha n (by omega) (by omega) hd).mono fun e w' ⟨h1, h2, h3⟩ => .none h1 h2 h3
  · rw [hd] at hr
    obtain ⟨rfl, rfl, rfl, rfl⟩ : L = rowF vs (things n) ∧ y = true ∧ a' = b ∧ ov' = false := by simp only [Prod.mk.injEq] at hr; exact ⟨hr.1.symm, hr.2.1.symm, hr.2.2.1.symm, hr.2.2.2.symm⟩
    exact (pdraw_z hc ho ha n (by omega) (by omega) hd)
theorem rpdraw_all {S : ByteArray} {t a a' : Nat} {ov ov' y : Bool} {w : World} {L : List Int} (hc : Cur S t a ov w) (ho : okS S.data.toList = true) (ha : a ≤ S.size) (x : Int) (hr : drRes S.data.toList x a ov = (L, y, a', ov')) :
    Calls Tryz.prog 47 #[.pointer (some ⟨t, 0, none⟩), .int .i64 x] w (RetDr S t a' L y ov' w) := by
  have hm : ∀ {w'}, Ext w w' → Mv t w w' := fun h => h.mv (Nat.le_of_lt hc.lt)
  unfold drRes at hr
  split at hr
  · rename_i h
    obtain ⟨rfl, rfl, rfl, rfl⟩ : L = [] ∧ y = false ∧ a' = a ∧ ov' = ov := by simp only [Prod.mk.injEq] at hr; exact ⟨hr.1.symm, hr.2.1.symm, hr.2.2.1.symm, hr.2.2.2.symm⟩
    exact (rpdraw_bad w _ x h).mono fun e w' ⟨h1, h2⟩ => .none h1 (hm h2) (hc.ext h2)
  split at hr
  · rename_i h; subst h
    obtain ⟨rfl, rfl, rfl, rfl⟩ : L = [] ∧ y = true ∧ a' = a ∧ ov' = ov := by simp only [Prod.mk.injEq] at hr; exact ⟨hr.1.symm, hr.2.1.symm, hr.2.2.1.symm, hr.2.2.2.symm⟩
    exact (rpdraw_zero w _).mono fun e w' ⟨h1, h2⟩ => .none h1 (hm h2) (hc.ext h2)
  split at hr
  · rename_i h; subst h
    obtain ⟨rfl, rfl, rfl, rfl⟩ : L = [0] ∧ y = true ∧ a' = a ∧ ov' = ov := by simp only [Prod.mk.injEq] at hr; exact ⟨hr.1.symm, hr.2.1.symm, hr.2.2.1.symm, hr.2.2.2.symm⟩
    exact (rpdraw_one w _).mono fun e w' ⟨r, h1, h2, h3⟩ => ⟨r, h1, h2, hm h3, hc.ext h3⟩
  rename_i g1 g2 g3
  obtain ⟨n, rfl⟩ : ∃ n : Nat, x = (n : Int) := ⟨x.toNat, by omega⟩
  split at hr
  · rename_i h; subst h
    obtain ⟨rfl, rfl, rfl, rfl⟩ : L = [] ∧ y = false ∧ a' = a ∧ ov' = true := by simp only [Prod.mk.injEq] at hr; exact ⟨hr.1.symm, hr.2.1.symm, hr.2.2.1.symm, hr.2.2.2.symm⟩
    exact (rpdraw_over hc n (by omega) (by omega)).mono fun e w' ⟨h1, h2⟩ => .none h1 (hm h2) (hc.ext h2)
  rename_i h
  obtain rfl : ov = false := by simpa using h
  rw [Int.toNat_natCast] at hr
  rcases hd : drawsB S.data.toList n a with ⟨_ | vs, b⟩
  · rw [hd] at hr
    obtain ⟨rfl, rfl, rfl, rfl⟩ : L = [] ∧ y = false ∧ a' = b ∧ ov' = true := by simp only [Prod.mk.injEq] at hr; exact ⟨hr.1.symm, hr.2.1.symm, hr.2.2.1.symm, hr.2.2.2.symm⟩
    exact (rpdraw_none hc ho ha n (by omega) (by omega) hd).mono fun e w' ⟨h1, h2, h3⟩ => .none h1 h2 h3
  · rw [hd] at hr
    obtain ⟨rfl, rfl, rfl, rfl⟩ : L = rowF vs (things n) ∧ y = true ∧ a' = b ∧ ov' = false := by simp only [Prod.mk.injEq] at hr; exact ⟨hr.1.symm, hr.2.1.symm, hr.2.2.1.symm, hr.2.2.2.symm⟩
    refine (rpdraw_some hc ho ha n (by omega) (by omega) hd).mono ?_
    rintro e w' ⟨g, cap, h1, hg, hr, hm, hc'⟩
    exact ⟨_, h1, hr.z (by rw [rowF_length, things_length]) hg, hm, hc'⟩
end Go.Proofs.YtkfioaoooodmnaaGreatDoor
