/- Facts and contracts, joined: CardBase, CardInt, CardRat, CardInts. -/
import Derived.Test.YtefeglkbikcjeaaGreatDoorPartA
import Derived.ProofKit
import Derived.OpenShut
import Derived.LaidMore
import Derived.Lay
import Derived.SevenTiedAt
import Derived.Stop.Joined
import Derived.Carry
import Derived.ChangeSlices
import Derived.ShutString
import Derived.Test.YtefeglkbikcjeaaGreatDoorPartH

/- The frame of the cards: an argument is opened by its type; a law that answers true and turns nothing that was there meets its row. -/
namespace Go.Proofs.YtefeglkbikcjeaaGreatDoor
open Go Go.ChangeShapes Go.WideShapes Go.ChangeAt Go.RowKit
set_option maxRecDepth 100000

theorem seat_own : ownKnob Tryz.prog.godebug = none := by kernel_rfl
theorem seat_laid : laidOutB Tryz.prog = true := by kernel_rfl
theorem cells_u64 : Tryz.prog.cellsOf 61 = 1 := by kernel_rfl

/-- a type that can be read, by the table of types -/
noncomputable def readsB (t : TypeId) : Bool := Tryz.prog.readableRec t && decide (t < Tryz.prog.types.size)
theorem readsB_iff {t : TypeId} (h : readsB t = true) : Tryz.prog.readableRec t = true ∧ t < Tryz.prog.types.size := by
  simpa [readsB] using h

section
variable {H : Type} {enc : TypeId × Value → H} {W : World} {base : Nat}

theorem trodAll_stays {W W' : World} (hb : Below W.heap.size W W') : ∀ {ts : List TypeId} {vs : List Value} {ds : List (DataW H)} {ps : List MemPlace} {sp : Nat → Bool}, (∀ t ∈ ts, readsB t = true) →
    DataW.TrodAll enc Tryz.prog W 0 (fun _ => true) true ts vs ds ps → (∀ x ∈ ps, x.block < W.heap.size) → (∀ x ∈ ps, sp x.block = true) → DataW.TrodAll enc Tryz.prog W' 0 sp true ts vs ds ps
  | [], [], [], _, _, _, h, _, _ => h
  | [], _ :: _, _, _, _, _, h, _, _ => h.elim
  | [], [], _ :: _, _, _, _, h, _, _ => h.elim
  | _ :: _, [], _, _, _, _, h, _, _ => h.elim
  | _ :: _, _ :: _, [], _, _, _, h, _, _ => h.elim
  | t :: ts, v :: vs, d :: ds, ps, sp, hr, ⟨p, q, h1, h2, e⟩, hlt, hs => by
    obtain ⟨r1, r2⟩ := readsB_iff (hr t (List.mem_cons_self ..))
    exact ⟨p, q, WideElems.Trod_stays seat_laid r1 r2 h1 (fun x hx => hb.same (hlt x (by rw [e]; exact List.mem_append_left _ hx))) (fun x hx => hs x (by rw [e]; exact List.mem_append_left _ hx)),
      trodAll_stays hb (fun t ht => hr t (List.mem_cons_of_mem _ ht)) h2 (fun x hx => hlt x (by rw [e]; exact List.mem_append_right _ hx)) (fun x hx => hs x (by rw [e]; exact List.mem_append_right _ hx)), e⟩

/-- THE LAST STEP OF A LAW's ROW -/
theorem law_post {f : Func} {s : ChangeSpec} {W' : World} {args : Array Value} {ds : List (DataW H)} {before : List MemPlace}
    (hW : DataW.Whole enc Tryz.prog f.params.toList s.vars false W args.toList ds [] before)
    (hv : s.vars = []) (hf : s.fn H (ds ++ []) = { results := [.lit (.bool true)], args := ds }) (hr : f.resultTypes = #[4]) (hp : (f.params.toList.all readsB) = true) (hb : Ext W W') :
    s.post enc Tryz.prog f false true false false W args (.bool true) W' := by
  have hlt : ∀ p ∈ before, p.block < W.heap.size := fun p hp => hW.lt p hp
  have hW0 := hW
  obtain ⟨p, q, hA, hV, hpq, hz, hn⟩ := hW
  rw [hv] at hV
  obtain ⟨-, rfl⟩ := trodVars_none hV
  rw [List.append_nil] at hpq
  subst hpq
  have hargs : ∀ sp : Nat → Bool, (∀ p ∈ before, sp p.block = true) → DataW.TrodAll enc Tryz.prog W' 0 sp true f.params.toList args.toList (s.fn H (ds ++ [])).args before := by
    intro sp hs
    rw [hf]
    exact trodAll_stays hb (fun t ht => List.all_eq_true.1 hp t ht) hA hlt hs
  have hvars : ∀ sp : Nat → Bool, DataW.TrodVars enc Tryz.prog W' sp s.vars (s.fn H (ds ++ [])).vars [] := by
    intro sp
    rw [hf, hv]; exact rfl
  have hres : ∀ (b : Nat) (sp : Nat → Bool) (hd : Bool), DataW.TrodAll enc Tryz.prog W' b sp hd f.resultTypes.toList ((Value.bool true).resultList f.resultTypes.size) (s.fn H (ds ++ [])).results [] := by
    intro b sp hd
    rw [hf, hr]
    exact trodAll_mk1 (shut_bool Tryz.underlying4 true)
  have hold : ∀ p ∈ before, (fun b => decide (b < W.heap.size)) p.block = true := fun p hp => by simpa using hlt p hp
  refine ⟨ds, [], before, [], before, [], hW0, hres _ _ _, hargs _ hold, hvars _, World.keptBut_mono (fun p hp => ⟨hp, ?_⟩) (Below.frame hb (· ∈ before)), fun h => (by cases h)⟩
  exact Or.inr (Or.inl hp)
end

section
variable {H : Type} {enc : TypeId × Value → H} {W : World} {base b0 : Nat} {spare : Nat → Bool}

/-- a slice of numbers of 64 bits, as it comes in -/
theorem open_limbs {t : TypeId} {v : Value} {d : DataW H} {ps : List MemPlace} {r : Reach} (ht : Tryz.prog.underlying t = some (.slice 61)) (hval : Value.okWide Tryz.prog W r b0 t v) (h : DataW.Trod enc Tryz.prog W base (fun _ => true) true t v d ps) : ∃ A, Limbs W v A := by
  obtain ⟨a, len, cap, rfl⟩ := okWide_slice ht hval
  obtain ⟨fuel, hf⟩ := h
  rcases open_ints ht Tryz.underlying61 cells_u64 hf with ⟨hc, -⟩ | ⟨a', len', cap', zs, hc, hb, hl, hm, hz, -, hcell, hwf⟩
  · have e : Value.slice a len cap = .slice none 0 0 := by simpa [Value.cells] using hc
    rw [e]
    exact ⟨[], Limbs.nil W⟩
  · have e : Value.slice a len cap = .slice (some a') len' cap' := by simpa [Value.cells] using hc
    rw [e]
    simp only [if_true] at hz
    refine ⟨(zs.take len').map Int.toNat, ⟨by simp, some a', cap', ?_, by simp; omega, hm, (fun e => by cases e), fun p hp h0 => ?_⟩, fun x hx => ?_⟩
    · simp [hz, Nat.min_eq_left hl]
    · obtain rfl := Option.some.inj hp
      have h1 : 0 < zs.length := by simp at h0; omega
      obtain ⟨b, off, rfl, hc2⟩ := ints_at hcell h1
      refine ⟨rfl, ?_, fun j hj => ?_⟩
      · have := hc2 0 h1
        rcases Nat.lt_or_ge b W.heap.size with g | g
        · exact g
        · simp [World.cell?, Array.getElem?_eq_none g] at this
      · have hj' : j < zs.length ∧ j < len' := by simp at hj; omega
        rw [hc2 j hj'.1]
        have hb0 := bounds_u64 (hwf zs[j] (List.getElem_mem hj'.1))
        simp [lv, List.getD, hj'.1]
        omega
    · obtain ⟨z, hz', rfl⟩ := List.mem_map.1 hx
      have hb0 := bounds_u64 (hwf z (List.mem_of_mem_take hz'))
      rw [Bs_def]; omega

/-- a number of 64 bits, of 8 bits -/
theorem open_u64 {v : Value} {d : DataW H} {ps : List MemPlace} {r : Reach} (hval : Value.okWide Tryz.prog W r b0 61 v) (h : DataW.Trod enc Tryz.prog W base spare true 61 v d ps) : ∃ n : Nat, v = .int .u64 (n : Int) ∧ n < Bs := by
  obtain ⟨n, rfl, -, -, hw⟩ := open_int Tryz.underlying61 hval h
  have := bounds_u64 hw
  exact ⟨n.toNat, by rw [Int.toNat_of_nonneg this.1], by rw [Bs_def]; omega⟩
theorem open_u8 {v : Value} {d : DataW H} {ps : List MemPlace} {r : Reach} (hval : Value.okWide Tryz.prog W r b0 5 v) (h : DataW.Trod enc Tryz.prog W base spare true 5 v d ps) : ∃ n : Nat, v = .int .u8 (n : Int) ∧ n < 256 := by
  obtain ⟨n, rfl, -, -, hw⟩ := open_int Tryz.underlying5 hval h
  have := bounds_u8 hw
  exact ⟨n.toNat, by rw [Int.toNat_of_nonneg this.1], by omega⟩
theorem open_i64 {v : Value} {d : DataW H} {ps : List MemPlace} {r : Reach} {t : TypeId} (ht : Tryz.prog.underlying t = some (.int .i64)) (hval : Value.okWide Tryz.prog W r b0 t v) (h : DataW.Trod enc Tryz.prog W base spare true t v d ps) : ∃ n : Int, v = .int .i64 n ∧ -9223372036854775808 ≤ n ∧ n ≤ 9223372036854775807 := by
  obtain ⟨n, rfl, -, -, hw⟩ := open_int ht hval h
  exact ⟨n, rfl, bounds_i64 hw⟩
theorem open_str {v : Value} {d : DataW H} {ps : List MemPlace} {r : Reach} (hval : Value.okWide Tryz.prog W r b0 9 v) (h : DataW.Trod enc Tryz.prog W base spare true 9 v d ps) : ∃ s : ByteArray, v = .string s ∧ s.size ≤ maxLen := by
  obtain ⟨s, rfl, -, -, hs⟩ := Go.ChangeMaps.open_string Tryz.underlying9 hval h
  exact ⟨s, rfl, hs⟩
theorem open_bl {v : Value} {d : DataW H} {ps : List MemPlace} {r : Reach} (hval : Value.okWide Tryz.prog W r b0 4 v) (h : DataW.Trod enc Tryz.prog W base spare true 4 v d ps) : ∃ b : Bool, v = .bool b := by
  obtain ⟨b, rfl, -, -⟩ := open_bool Tryz.underlying4 hval h
  exact ⟨b, rfl⟩
end

/-- the closing steps' facts: no parameter wants a stand-in -/
theorem stand_of {f : Func} (h : (f.params.toList.all fun t => !Tryz.prog.wantsStandIn t) = true) (j : Nat) (t : TypeId) (ht : f.params[j]? = some t) : Tryz.prog.wantsStandIn t = false := by
  have hm : t ∈ f.params.toList := by
    rw [← Array.getElem?_toList] at ht
    exact List.mem_of_getElem? ht
  have := List.all_eq_true.1 h t hm
  simpa using this
end Go.Proofs.YtefeglkbikcjeaaGreatDoor

/- The frame of the cards, of whole numbers: a struct of a sign and a natural is opened. -/
namespace Go.Proofs.YtefeglkbikcjeaaGreatDoor
open Go Go.ChangeShapes Go.WideShapes Go.ChangeAt Go.RowKit
set_option maxRecDepth 100000

theorem cells_nat : Tryz.prog.cellsOf 23 = 1 := by kernel_rfl
theorem cells_bool : Tryz.prog.cellsOf 4 = 1 := by kernel_rfl
theorem cells_int : Tryz.prog.cellsOf 25 = 2 := by kernel_rfl

section
variable {H : Type} {enc : TypeId × Value → H} {W : World} {base b0 : Nat}

theorem limbs_of_trod {t : TypeId} {fuel : Nat} {c : Value} {x : DataW H × List MemPlace} (ht : Tryz.prog.underlying t = some (.slice 61)) (hf : DataW.trod enc Tryz.prog W base (fun _ => true) true fuel t [c] = some x) : ∃ A, Limbs W c A := by
  rcases open_ints ht Tryz.underlying61 cells_u64 hf with ⟨hc, -⟩ | ⟨a', len', cap', zs, hc, hb, hl, hm, hz, -, hcell, hwf⟩
  · have e : c = .slice none 0 0 := by simpa using hc
    rw [e]
    exact ⟨[], Limbs.nil W⟩
  · have e : c = .slice (some a') len' cap' := by simpa using hc
    rw [e]
    simp only [if_true] at hz
    refine ⟨(zs.take len').map Int.toNat, ⟨by simp, some a', cap', ?_, by simp; omega, hm, (fun e => by cases e), fun p hp h0 => ?_⟩, fun x hx => ?_⟩
    · simp [hz, Nat.min_eq_left hl]
    · obtain rfl := Option.some.inj hp
      have h1 : 0 < zs.length := by simp at h0; omega
      obtain ⟨b, off, rfl, hc2⟩ := ints_at hcell h1
      refine ⟨rfl, ?_, fun j hj => ?_⟩
      · have := hc2 0 h1
        rcases Nat.lt_or_ge b W.heap.size with g | g
        · exact g
        · simp [World.cell?, Array.getElem?_eq_none g] at this
      · have hj' : j < zs.length ∧ j < len' := by simp at hj; omega
        rw [hc2 j hj'.1]
        have hb0 := bounds_u64 (hwf zs[j] (List.getElem_mem hj'.1))
        simp [lv, List.getD, hj'.1]
        omega
    · obtain ⟨z, hz', rfl⟩ := List.mem_map.1 hx
      have hb0 := bounds_u64 (hwf z (List.mem_of_mem_take hz'))
      rw [Bs_def]; omega

theorem bool_of_trod {t : TypeId} {fuel : Nat} {c : Value} {x : DataW H × List MemPlace} (ht : Tryz.prog.underlying t = some .bool) (hf : DataW.trod enc Tryz.prog W base (fun _ => true) true fuel t [c] = some x) : ∃ b, c = .bool b := by
  cases fuel with
  | zero => simp [DataW.trod] at hf
  | succ n =>
    unfold DataW.trod at hf
    rw [ht] at hf
    cases c <;> simp_all

/-- a whole number, as it comes in -/
theorem open_whole {v : Value} {d : DataW H} {ps : List MemPlace} {r : Reach} (hval : Value.okWide Tryz.prog W r b0 25 v) (h : DataW.Trod enc Tryz.prog W base (fun _ => true) true 25 v d ps) :
    ∃ b u A, v = .agg #[.bool b, u] ∧ Limbs W u A := by
  obtain ⟨cs, rfl, hsz⟩ := okWide_struct Tryz.underlying25 hval
  rw [cells_int] at hsz
  obtain ⟨c0, c1, rfl⟩ : ∃ c0 c1, cs = #[c0, c1] := ⟨cs[0], cs[1], by
    refine Array.ext (by simpa using hsz) fun i h1 h2 => ?_
    have : i = 0 ∨ i = 1 := by simp at h2; omega
    rcases this with rfl | rfl <;> rfl⟩
  obtain ⟨fuel, hf⟩ := h
  obtain ⟨y0, y1, n, -, -, h0, h1⟩ := trod_struct2 Tryz.underlying25 hf
  simp only [Value.cells, cells_bool, cells_nat, List.drop_zero, List.take_succ_cons, List.take_zero, List.drop_succ_cons, List.take_nil] at h0 h1
  obtain ⟨b, rfl⟩ := bool_of_trod Tryz.underlying4 h0
  obtain ⟨A, hA⟩ := limbs_of_trod Tryz.underlying23 h1
  exact ⟨b, c1, A, rfl, hA⟩
end
end Go.Proofs.YtefeglkbikcjeaaGreatDoor

/- The frame of the cards, of fractions: a struct of a whole number and a natural is opened. -/
namespace Go.Proofs.YtefeglkbikcjeaaGreatDoor
open Go Go.ChangeShapes Go.WideShapes Go.ChangeAt Go.RowKit
set_option maxRecDepth 100000

theorem cells_rat : Tryz.prog.cellsOf 44 = 3 := by kernel_rfl
section
variable {H : Type} {enc : TypeId × Value → H} {W : World} {base b0 : Nat}
/-- a fraction, as it comes in -/
theorem open_rat {v : Value} {d : DataW H} {ps : List MemPlace} {r : Reach} (hval : Value.okWide Tryz.prog W r b0 44 v) (h : DataW.Trod enc Tryz.prog W base (fun _ => true) true 44 v d ps) :
    ∃ b x y A B, v = .agg #[.bool b, x, y] ∧ Limbs W x A ∧ Limbs W y B := by
  obtain ⟨cs, rfl, hsz⟩ := okWide_struct Tryz.underlying44 hval
  rw [cells_rat] at hsz
  obtain ⟨c0, c1, c2, rfl⟩ : ∃ c0 c1 c2, cs = #[c0, c1, c2] := ⟨cs[0], cs[1], cs[2], by
    refine Array.ext (by simpa using hsz) fun i h1 h2 => ?_
    have : i = 0 ∨ i = 1 ∨ i = 2 := by simp at h2; omega
    rcases this with rfl | rfl | rfl <;> rfl⟩
  obtain ⟨fuel, hf⟩ := h
  obtain ⟨y0, y1, n, -, -, h0, h1⟩ := trod_struct2 Tryz.underlying44 hf
  simp only [Value.cells, cells_int, cells_nat, List.drop_zero, List.take_succ_cons, List.take_zero, List.drop_succ_cons, List.take_nil] at h0 h1
  obtain ⟨z0, z1, n', -, -, k0, k1⟩ := trod_struct2 Tryz.underlying25 h0
  simp only [cells_bool, cells_nat, List.drop_zero, List.take_succ_cons, List.take_zero, List.drop_succ_cons, List.take_nil] at k0 k1
  obtain ⟨b, rfl⟩ := bool_of_trod Tryz.underlying4 k0
  obtain ⟨A, hA⟩ := limbs_of_trod Tryz.underlying23 k1
  obtain ⟨B, hB⟩ := limbs_of_trod Tryz.underlying23 h1
  exact ⟨b, c1, c2, A, B, rfl, hA, hB⟩
end
end Go.Proofs.YtefeglkbikcjeaaGreatDoor

/- The frame of the cards, of rows of numbers: a slice of numbers is opened. -/
namespace Go.Proofs.YtefeglkbikcjeaaGreatDoor
open Go Go.ChangeShapes Go.WideShapes Go.ChangeAt Go.RowKit
set_option maxRecDepth 100000

theorem cells_i64 : Tryz.prog.cellsOf 2 = 1 := by kernel_rfl
theorem cells_i : Tryz.prog.cellsOf 3 = 1 := by kernel_rfl
section
variable {H : Type} {enc : TypeId × Value → H} {W : World} {base b0 : Nat}
/-- a slice of numbers, as it comes in -/
theorem open_zs {t e : TypeId} {v : Value} {d : DataW H} {ps : List MemPlace} {r : Reach} (ht : Tryz.prog.underlying t = some (.slice e)) (he : Tryz.prog.underlying e = some (.int .i64)) (hce : Tryz.prog.cellsOf e = 1) (hval : Value.okWide Tryz.prog W r b0 t v) (h : DataW.Trod enc Tryz.prog W base (fun _ => true) true t v d ps) :
    ∃ L, Ints W v L ∧ ∀ x ∈ L, -9223372036854775808 ≤ x ∧ x ≤ 9223372036854775807 := by
  obtain ⟨a, len, cap, rfl⟩ := okWide_slice ht hval
  obtain ⟨fuel, hf⟩ := h
  rcases open_ints ht he hce hf with ⟨hc, -⟩ | ⟨a', len', cap', zs, hc, hb, hl, hm, hz, -, hcell, hwf⟩
  · have e : Value.slice a len cap = .slice none 0 0 := by simpa [Value.cells] using hc
    rw [e]
    exact ⟨[], Ints.nil W, fun x hx => by cases hx⟩
  · have e : Value.slice a len cap = .slice (some a') len' cap' := by simpa [Value.cells] using hc
    rw [e]
    simp only [if_true] at hz
    refine ⟨zs.take len', ⟨by simp, some a', cap', ?_, by simp; omega, hm, (fun e => by cases e), fun p hp h0 => ?_⟩, fun x hx => ?_⟩
    · simp [hz, Nat.min_eq_left hl]
    · obtain rfl := Option.some.inj hp
      have h1 : 0 < zs.length := by simp at h0; omega
      obtain ⟨b, off, rfl, hc2⟩ := ints_at hcell h1
      refine ⟨rfl, ?_, fun j hj => ?_⟩
      · have := hc2 0 h1
        rcases Nat.lt_or_ge b W.heap.size with g | g
        · exact g
        · simp [World.cell?, Array.getElem?_eq_none g] at this
      · have hj' : j < zs.length ∧ j < len' := by simp at hj; omega
        rw [hc2 j hj'.1]
        simp [zv, List.getD, hj'.1]
    · exact bounds_i64 (hwf x (List.mem_of_mem_take hx))
end
end Go.Proofs.YtefeglkbikcjeaaGreatDoor
