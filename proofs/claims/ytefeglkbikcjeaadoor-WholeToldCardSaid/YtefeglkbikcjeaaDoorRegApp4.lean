/- A law for regions that draw their order, make rows and append to them, and end with a store into a box that they made: nothing is ready behind that store. Appends of limbs, and of so many 0s, as operations. -/
import Derived.Test.YtefeglkbikcjeaaDoorRegApp3
namespace Go.Proofs.YtefeglkbikcjeaaDoor
open Go Go.RowKit

/-- the check of a region whose last operation waits for all others -/
def endOk (ops : Array Oper) (p : PlanA) (n lz : Nat) : Bool :=
  Region.noSelect ops && decide (lz + 1 = ops.size) && (List.range ops.size).all fun i => match ops[i]? with
    | none => false
    | some o => (o.after.all fun e => !binds e || decide (e.on < i)) && (if (i == lz) = true then o.guard.isNone && (List.range lz).all fun j => dep ops ops.size lz j else (match o.dst with
        | none => false
        | some d => decide (d < n) && p.D.contains d && (List.range ops.size).all fun j => j == i || !((ops[j]?).bind (·.dst) == some d)) &&
      match p.eat i with
      | none => true
      | some j => (o.after.any fun e => binds e && e.on == j) && (List.range ops.size).all fun i' => i' == i || !(p.eat i' == some j))
section
variable {P : Program} {ops : Array Oper} {Q : Exit → Act → World → Prop}
theorem wp_region_end {id : Nat} {a0 : Act} {w0 : World} (p : PlanA) (lz : Nat)
    (hm : P.follows .mixedOrders = true) (hck : endOk ops p a0.tmps.size lz = true)
    (hs : EachOp' (AStep P ops Q p a0 w0) 0 (ops.toList.take lz))
    (hend : ∀ a w, Agree p.D a0 a → Ext w0 w → (∀ i, i < lz → eatenIn ops p i = false → (p.sp i).holds (at_ ops a i) w) →
      (∀ i j b, i ≠ j → i < lz → j < lz → eatenIn ops p i = false → eatenIn ops p j = false → (p.sp i).blk (at_ ops a i) b → ¬ (p.sp j).blk (at_ ops a j) b) →
      ∀ o K, ops[lz]? = some o → Hid (∀ a' w', Q .normal a' w' → K a' w') → Oper.wp P o a w K Q) :
    (Code.region id ops true).wp P Q a0 w0 := by
  simp only [endOk, Bool.and_eq_true] at hck
  obtain ⟨⟨hsel, hlz0⟩, hck⟩ := hck
  have hlz : lz + 1 = ops.size := of_decide_eq_true hlz0
  have hedge : ∀ (i : Nat) (o : Oper), ops[i]? = some o → (o.after.all fun e => !binds e || decide (e.on < i)) = true := by
    intro i o ho
    have h := List.all_eq_true.1 hck i (List.mem_range.2 (Array.getElem?_eq_some_iff.1 ho).1)
    simp only [ho, Bool.and_eq_true] at h
    exact h.1
  have hlast : ∀ o, ops[lz]? = some o → o.guard = none ∧ ∀ j, j < lz → dep ops ops.size lz j = true := by
    intro o ho
    have h := List.all_eq_true.1 hck lz (List.mem_range.2 (Array.getElem?_eq_some_iff.1 ho).1)
    simp only [ho, Bool.and_eq_true, if_true, beq_self_eq_true, Option.isNone_iff_eq_none, List.all_eq_true, List.mem_range] at h
    exact ⟨h.2.1, h.2.2⟩
  have hop : ∀ i o, ops[i]? = some o → i ≠ lz → (o.after.all fun e => !binds e || decide (e.on < i)) = true ∧ (∃ d, o.dst = some d ∧ d < a0.tmps.size ∧ d ∈ p.D ∧ ∀ j, j < ops.size → j ≠ i → (ops[j]?).bind (·.dst) ≠ some d) ∧
      ∀ j, p.eat i = some j → (∃ e ∈ o.after, binds e = true ∧ e.on = j) ∧ ∀ i', i' < ops.size → i' ≠ i → p.eat i' ≠ some j := by
    intro i o ho hne0
    have h := List.all_eq_true.1 hck i (List.mem_range.2 (Array.getElem?_eq_some_iff.1 ho).1)
    simp only [ho, Bool.and_eq_true, beq_eq_false_iff_ne.2 hne0, Bool.false_eq_true, if_false] at h
    obtain ⟨h1, h2, h3⟩ := h
    refine ⟨h1, ?_, ?_⟩
    · cases hd : o.dst with
      | none => simp [hd] at h2
      | some d =>
        simp only [hd, Bool.and_eq_true, decide_eq_true_eq, List.contains_iff_mem, List.all_eq_true, List.mem_range, Bool.or_eq_true, beq_iff_eq, Bool.not_eq_true', beq_eq_false_iff_ne, ne_eq] at h2
        refine ⟨d, rfl, h2.1.1, h2.1.2, fun j hj hne => ?_⟩
        rcases h2.2 j hj with e | e
        · exact absurd e hne
        · exact e
    · intro j hj
      rw [hj] at h3
      simp only [Bool.and_eq_true, List.all_eq_true, List.mem_range, Bool.or_eq_true, beq_iff_eq, Bool.not_eq_true', beq_eq_false_iff_ne, ne_eq] at h3
      obtain ⟨g1, g2⟩ := h3
      refine ⟨?_, fun i' hi' hne => ?_⟩
      · obtain ⟨e, he, hb⟩ := Array.any_eq_true'.1 g1
        simp only [Bool.and_eq_true, beq_iff_eq] at hb
        exact ⟨e, he, hb.1, hb.2⟩
      · rcases g2 i' hi' with e | e
        · exact absurd e hne
        · exact e
  clear hck
  have hstep : ∀ i o, ops[i]? = some o → i ≠ lz → AStep P ops Q p a0 w0 i o := fun i o ho hne0 => by
    have hi := (Array.getElem?_eq_some_iff.1 ho).1
    have := EachOp'.get (ops.toList.take lz) 0 i o hs (by rw [List.getElem?_take_of_lt (by omega), Array.getElem?_toList]; exact ho)
    rwa [Nat.zero_add] at this
  refine wp_region_held_drew (S := fun _ => True) hm trivial fun _ => ?_
  have hnone : ∀ {L : Array Bool} {i : Nat}, L.size = ops.size → L.getD i false = true → i < ops.size := fun {L i} hL h => by
    rcases Nat.lt_or_ge i L.size with g | g
    · rw [← hL]; exact g
    · simp [Array.getD, Nat.not_lt.2 g] at h
  have hall : ∀ (L : Array Bool), L.size = ops.size → L.getD lz false = false → Region.ready .any ops L = [] → False := by
    intro L hsz hlf h0
    have hl : ∀ j, j < ops.size → L.getD j false = true := by
      intro j
      induction j using Nat.strongRecOn with
      | _ j ihj =>
        intro hj
        cases hg : L.getD j false with
        | true => rfl
        | false =>
          have hj' : j < L.size := by rw [hsz]; exact hj
          obtain ⟨oj, hoj⟩ : ∃ oj, ops[j]? = some oj := ⟨_, Array.getElem?_eq_getElem hj⟩
          have hall := Array.all_eq_true_iff_forall_mem.1 (hedge j oj hoj)
          have : j ∈ Region.ready .any ops L := by
            refine mem_ready.2 ⟨by simp [Array.getD, hj'] at hg ⊢; exact hg, oj, hoj, fun e he hbe => ?_⟩
            have h1 := hall e he
            have hb' : binds e = true := hbe
            rw [hb'] at h1
            simp only [Bool.not_true, Bool.false_or, decide_eq_true_eq] at h1
            exact ihj e.on h1 (by omega)
          rw [h0] at this
          cases this
    rw [hl lz (by omega)] at hlf
    cases hlf
  have key : ∀ (fuel : Nat) (L : Array Bool) (a : Act) (w : World), unl ops.size L ≤ fuel → L.getD lz false = false → Ma ops p a0 w0 L a w → wpAnyH P .any ops Q (fun _ => True) fuel L a w := by
    intro fuel
    induction fuel with
    | zero =>
      intro L a w hf hlf hM
      have h0 : Region.ready .any ops L = [] := by
        refine List.eq_nil_iff_forall_not_mem.2 fun i hi => ?_
        obtain ⟨hin, hiL, -⟩ := ready_spec hi
        have := unl_step hin (by rw [hM.size]; exact hin) hiL
        omega
      exact (hall L hM.size hlf h0).elim
    | succ fuel ih =>
      intro L a w hf hlf hM
      refine ⟨fun h0 => (hall L hM.size hlf h0).elim, fun i hir => ?_⟩
      obtain ⟨hin, hiL, o, ho, hpre⟩ := ready_spec hir
      have hun := unl_step hin (by rw [hM.size]; exact hin) hiL
      have hiL' : i < L.size := by rw [hM.size]; exact hin
      have hif : L.getD i false = false := by simp [Array.getD, hiL'] at hiL ⊢; exact hiL
      by_cases hil : i = lz
      · subst hil
        obtain ⟨hgd, hdp⟩ := hlast o ho
        have hl : ∀ j, j < i → L.getD j false = true := by
          intro j hj
          have hd := hdp j hj
          rw [← hlz] at hd
          unfold dep at hd
          rw [ho] at hd
          obtain ⟨e, he, h2⟩ := List.any_eq_true.1 hd
          obtain ⟨g, hg, rfl⟩ := List.mem_map.1 he
          obtain ⟨g1, g2⟩ := List.mem_filter.1 hg
          have hlg := hpre g (Array.mem_def.2 g1) g2
          simp only [Bool.or_eq_true, beq_iff_eq] at h2
          rcases h2 with h2 | h2
          · rw [← h2]; exact hlg
          · exact dep_listed hM.back _ _ _ hlg h2
        have hng : ∀ j, eatenIn ops p j = false → ¬ Gone p L j := by
          rintro j he ⟨k, hk, hLk⟩
          have hkn := hnone hM.size hLk
          have := List.any_eq_false.1 he k (List.mem_range.2 hkn)
          simp [hk] at this
        refine wpOp_step ho fun K hK => ?_
        rw [if_pos (by unfold Region.wanted; rw [hgd])]
        refine hend a w hM.ag hM.ext (fun j hj he => hM.post j (hl j hj) (hng j he)) (fun j k b hjk hj hk ej ek => hM.dis j k b hjk (hl j hj) (hl k hk) (hng j ej) (hng k ek)) o K ho (Lib.hid fun a' w' hq => hK _ _ ⟨trivial, ?_⟩)
        have hr0 : Region.ready .any ops (L.setIfInBounds i true) = [] := by
          refine List.eq_nil_iff_forall_not_mem.2 fun k hk => ?_
          obtain ⟨hkn, hkL, -⟩ := ready_spec hk
          have hkt : (L.setIfInBounds i true).getD k false = true := by
            by_cases e : k = i
            · subst e; simp [Array.getD, hiL']
            · rw [getD_set_ne false (Ne.symm e)]; exact hl k (by omega)
          have hks : k < L.size := by rw [hM.size]; exact hkn
          rw [show (L.setIfInBounds i true).getD k true = (L.setIfInBounds i true).getD k false by simp [Array.getD, hks], hkt] at hkL
          cases hkL
        cases fuel with
        | zero => exact ⟨hr0, hq⟩
        | succ f => exact ⟨fun _ => hq, fun k hk => by rw [hr0] at hk; cases hk⟩
      obtain ⟨-, ⟨d, hod, hdn, hdD, hdu⟩, heat⟩ := hop i o ho hil
      have hlf' : (L.setIfInBounds i true).getD lz false = false := by rw [getD_set_ne false hil]; exact hlf
      -- an eaten operation that i may use is not gone yet
      have hnot : ∀ j, (eatenIn ops p j = false ∨ p.eat i = some j) → ¬ Gone p L j := by
        rintro j hj ⟨k, hk, hLk⟩
        have hkn := hnone hM.size hLk
        rcases hj with hj | hj
        · have := List.any_eq_false.1 hj k (List.mem_range.2 hkn)
          simp [hk] at this
        · by_cases e : k = i
          · subst e; rw [hif] at hLk; cases hLk
          · exact (heat j hj).2 k hkn e hk
      have hbl : ∀ j ∈ bindsOf o, L.getD j false = true := by
        intro j hj
        obtain ⟨e, he, rfl⟩ := List.mem_map.1 hj
        obtain ⟨h1, h2⟩ := List.mem_filter.1 he
        exact hpre e (Array.mem_def.2 h1) h2
      have hgs := hstep i o ho hil ho a w ⟨hM.ag, hM.ext, fun j hj hc => hM.post j (hbl j hj) (hnot j hc)⟩
      have hold' : ∀ j, j ≠ i → (L.setIfInBounds i true).getD j false = true → L.getD j false = true := fun j hj hL => by rwa [getD_set_ne false (Ne.symm hj)] at hL
      have hself' : (L.setIfInBounds i true).getD i false = true := by simp [Array.getD, hiL']
      have hup : ∀ j, L.getD j false = true → (L.setIfInBounds i true).getD j false = true := fun j hj => by
        by_cases e : j = i
        · subst e; exact hself'
        · rw [getD_set_ne false (Ne.symm e)]; exact hj
      have hgone : ∀ j, ¬ Gone p (L.setIfInBounds i true) j → ¬ Gone p L j ∧ p.eat i ≠ some j := fun j h => ⟨fun ⟨k, hk, hLk⟩ => h ⟨k, hk, hup k hLk⟩, fun e => h ⟨i, e, hself'⟩⟩
      have hback : ∀ j oj, (L.setIfInBounds i true).getD j false = true → ops[j]? = some oj → ∀ e ∈ oj.after, binds e = true → (L.setIfInBounds i true).getD e.on false = true := by
        intro j oj hj hoj e he hb
        by_cases e1 : j = i
        · subst e1; rw [ho] at hoj; injection hoj with hoj; subst hoj; exact hup _ (hpre e he hb)
        · exact hup _ (hM.back j oj (hold' j e1 hj) hoj e he hb)
      have hsz : (L.setIfInBounds i true).size = ops.size := by rw [Array.size_setIfInBounds]; exact hM.size
      have hdisj : ∀ (v : Value) (j : Nat), j ≠ i → j < ops.size → at_ ops (a.put o.dst v) j = at_ ops a j := by
        intro v j hj hjn
        unfold at_
        split
        · rename_i k hk
          rw [hod]
          exact sl_other fun e => hdu j hjn hj (by rw [hk, e])
        · rfl
      have hself : ∀ v, at_ ops (a.put o.dst v) i = v := fun v => by
        unfold at_
        rw [ho, Option.bind_some, hod]
        exact sl_same (by rw [hM.ag.size]; exact hdn)
      -- what stays of the others, as memory grows but for blocks that they do not lean on
      have fin : ∀ (v : Value) (w' : World) (g : Option Nat), w.grownBy w' g → Ext w0 w' → (p.sp i).holds v w' → (∀ j, j ≠ i → L.getD j false = true → ¬ Gone p L j → p.eat i ≠ some j → ∀ b, g = some b → ¬ (p.sp j).blk (at_ ops a j) b) →
          (∀ b, (p.sp i).blk v b → w0.heap.size ≤ b) → (∀ j, j ≠ i → L.getD j false = true → ¬ Gone p L j → p.eat i ≠ some j → ∀ b, (p.sp i).blk v b → ¬ (p.sp j).blk (at_ ops a j) b) →
          Ma ops p a0 w0 (L.setIfInBounds i true) (a.put o.dst v) w' := by
        intro v w' g hg hx hv h1 h2 h3
        refine ⟨hsz, hM.ag.put (fun k hk => by rw [hod] at hk; injection hk with hk; subst hk; exact hdD), hx, ?_, hback, ?_, ?_⟩
        · intro j hL hgn
          obtain ⟨g1, g2⟩ := hgone j hgn
          by_cases e : j = i
          · subst e; rw [hself]; exact hv
          · have hL' := hold' j e hL
            rw [hdisj v j e (hnone hM.size hL')]
            exact (p.sp j).mono _ _ _ g (hM.post j hL' g1) hg (h1 j e hL' g1 g2)
        · intro j b hL hb
          by_cases e : j = i
          · subst e; rw [hself] at hb; exact h2 b hb
          · have hL' := hold' j e hL
            rw [hdisj v j e (hnone hM.size hL')] at hb
            exact hM.lo j b hL' hb
        · intro j k b hjk hLj hLk hgj hgk hb
          obtain ⟨gj1, gj2⟩ := hgone j hgj
          obtain ⟨gk1, gk2⟩ := hgone k hgk
          by_cases e1 : j = i
          · subst e1
            have e2 : k ≠ j := Ne.symm hjk
            have hLk' := hold' k e2 hLk
            rw [hself] at hb
            rw [hdisj v k e2 (hnone hM.size hLk')]
            exact h3 k e2 hLk' gk1 gk2 b hb
          · have hLj' := hold' j e1 hLj
            rw [hdisj v j e1 (hnone hM.size hLj')] at hb
            by_cases e2 : k = i
            · subst e2
              rw [hself]
              exact fun hc => h3 j e1 hLj' gj1 gj2 b hc hb
            · have hLk' := hold' k e2 hLk
              rw [hdisj v k e2 (hnone hM.size hLk')]
              exact hM.dis j k b hjk hLj' hLk' gj1 gk1 hb
      cases he : p.eat i with
      | none =>
        rw [he] at hgs
        refine wpOp_mono ?_ hgs
        rintro a' w' ⟨v, rfl, hv, hx, hb⟩
        have hg : w.grownBy w' none := ⟨hx.1, hx.2, hx.3, hx.size, fun k hk _ => hx.block k hk⟩
        refine ⟨trivial, ih _ _ _ (by omega) hlf' (fin v w' none hg (hM.ext.trans hx) hv (fun j _ _ _ _ b hb => by cases hb) (fun b hb' => Nat.le_trans hM.ext.size (hb b hb')) (fun j hj hL hgn _ b hb1 hb2 => ?_))⟩
        have h1 := hb b hb1
        have h2 := (p.sp j).lt _ _ b (hM.post j hL hgn) hb2
        omega
      | some m =>
        rw [he] at hgs
        refine wpOp_mono ?_ hgs
        rintro a' w' ⟨v, g, rfl, hv, hg, hgb, hb⟩
        obtain ⟨⟨e0, he0, hbi, hon⟩, huq⟩ := heat m he
        have hLm : L.getD m false = true := by rw [← hon]; exact hpre e0 he0 hbi
        have hgm : ¬ Gone p L m := hnot m (.inr he)
        have hlo : ∀ b, g = some b → w0.heap.size ≤ b := fun b e => hM.lo m b hLm (hgb b e)
        refine ⟨trivial, ih _ _ _ (by omega) hlf' (fin v w' g hg (hM.ext.grown hg hlo) hv (fun j hj hL hgn hne b e hc => ?_) (fun b hb' => ?_) (fun j hj hL hgn hne b hb1 hb2 => ?_))⟩
        · have hmj : m ≠ j := fun e => hne (by rw [he, e])
          exact hM.dis m j b hmj hLm hL hgm hgn (hgb b e) hc
        · rcases hb b hb' with h | h
          · exact hM.lo m b hLm h
          · exact Nat.le_trans hM.ext.size h
        · have hmj : m ≠ j := fun e => hne (by rw [he, e])
          rcases hb b hb1 with h | h
          · exact hM.dis m j b hmj hLm hL hgm hgn h hb2
          · have := (p.sp j).lt _ _ b (hM.post j hL hgn) hb2
            omega
  refine key _ _ _ _ ?_ (by simp [Array.getD]) ⟨by simp, Agree.refl _ _, (Ext.refl _).drew, fun i h => by simp [Array.getD] at h, fun i o h => by simp [Array.getD] at h, fun i b h => by simp [Array.getD] at h, fun i j b _ h => by simp [Array.getD] at h⟩
  unfold unl
  exact Nat.le_trans (List.countP_le_length) (by simp)

end

/-- a row at the head of a block of its own -/
def Sa.rowG (t : TypeId) (B n : Nat) (xs : List Value) : Sa := ⟨fun v w => ∃ g cap, v = .slice (some ⟨g, 0, none⟩) n cap ∧ w.ownsRow B t 1 v n xs, fun v b => v.ownBlock = some b, fun _ _ b h k => by obtain ⟨_, _, _, h⟩ := h; exact (h.lt b k).2, fun v w w' g h hg hb => by
  obtain ⟨g', cap, e, h⟩ := h
  exact ⟨g', cap, e, (Sa.row t B n xs).mono v w w' g h hg hb⟩⟩
/-- a sign, and such a row -/
def Sa.signed (b : Bool) (t : TypeId) (B n : Nat) (xs : List Value) : Sa := ⟨fun v w => ∃ g cap, v = .agg #[.bool b, .slice (some ⟨g, 0, none⟩) n cap] ∧ w.ownsRow B t 1 (.slice (some ⟨g, 0, none⟩) n cap) n xs, fun v b' => ∃ u, v = .agg #[.bool b, u] ∧ u.ownBlock = some b', fun v w b' h k => by
  obtain ⟨g, cap, rfl, h⟩ := h
  obtain ⟨u, e, hu⟩ := k
  have e2 : Value.slice (some ⟨g, 0, none⟩) n cap = u := by injection e with e; simpa using e
  subst e2
  exact (h.lt b' hu).2, fun v w w' g0 h hg hb => by
  obtain ⟨g, cap, rfl, h⟩ := h
  exact ⟨g, cap, rfl, (Sa.row t B n xs).mono _ w w' g0 h hg (fun b' e k => hb b' e ⟨_, rfl, k⟩)⟩⟩
/-- a new box -/
def Sa.fresh (t : TypeId) (B : Nat) (C : Array Value) : Sa := ⟨fun v w => ∃ s, v = .pointer (some ⟨s, 0, none⟩) ∧ B ≤ s ∧ w.heap[s]? = some (.cells C t (0, 0)), fun v b => v = .pointer (some ⟨b, 0, none⟩), fun v w b h k => by
  obtain ⟨s, rfl, -, h⟩ := h
  have e : s = b := by injection k with k; injection k with k; injection k
  subst e
  exact (Array.getElem?_eq_some_iff.1 h).1, fun v w w' g h hg hb => by
  obtain ⟨s, rfl, h0, h⟩ := h
  exact ⟨s, rfl, h0, by rw [hg.block s (Array.getElem?_eq_some_iff.1 h).1 (fun e => hb s e.symm rfl)]; exact h⟩⟩

theorem wp_append_limbs {w : World} {o : Oper} {a : Act} {K : Act → World → Prop} {Q : Exit → Act → World → Prop} (s x : Operand) (t : TypeId)
    (ht : Tryd.prog.underlying t = some (.slice 28)) (ho : o.op = .call { callee := .builtin .append, args := #[s, x], argTypes := #[t, t] })
    (base : Nat) (v : Value) (n g cap : Nat) (C : List Value) (hs : a.eval s = v) (hv : v = .slice (some ⟨g, 0, none⟩) n cap) (hown : w.ownsRow base 28 1 v n C) (hbase : base ≤ w.heap.size)
    (u : Value) (A : List Nat) (hx : a.eval x = u) (hA : Limbs w u A) (hlen : n + A.length ≤ 100000)
    (h : ∀ g' cap' w', w'.ownsRow base 28 1 (.slice (some ⟨g', 0, none⟩) (n + A.length) cap') (n + A.length) (C ++ A.map lv) → w.grownBy w' (some g) → (g' = g ∨ w.heap.size ≤ g') → K (a.put o.dst (.slice (some ⟨g', 0, none⟩) (n + A.length) cap')) w') : Oper.wp Tryd.prog o a w K Q := by
  subst hv
  obtain ⟨i, hi, hz, hsize, hby⟩ := info_parts info_u64
  obtain ⟨⟨hl, ad, cap0, rfl, hm, hc, hn, hp⟩, -⟩ := hA
  cases ad with
  | none =>
    obtain ⟨h0, rfl⟩ := hn rfl
    obtain rfl : A = [] := List.eq_nil_of_length_eq_zero h0
    have hrun := run_append_owned_none (P := Tryd.prog) (w := w) base t o.type 28 i 1 ht hi _ n C hown
    have hx' : a.eval x = .slice none 0 0 := hx
    unfold Oper.wp
    simp [execOp, ho, resolve, invoke, builtin, hs, hx', hrun, Result.andThen]
    exact h g cap w (by simpa using hown) (World.grownBy.refl _ _) (.inl rfl)
  | some p =>
    have hnews : ∀ j u, (A.map lv)[j]? = some u → w.cell? (p.add j) = some u := by
      intro j y hj
      obtain ⟨hj', rfl⟩ := List.getElem?_eq_some_iff.1 hj
      obtain ⟨q1, q2, q3⟩ := hp p rfl (by
        rcases Nat.eq_zero_or_pos A.length with g | g
        · rw [g, Nat.zero_mul] at hl; omega
        · exact g)
      obtain ⟨b, of, sp⟩ := p
      subst q1
      rw [Addr.add_lit]
      exact q3 j hj'
    obtain ⟨v', w', hr, h2, h3, h4⟩ := run_append_own (P := Tryd.prog) w base t o.type 28 i (.int .u64 0) 1 8 ht hi hz hsize hby rfl (by decide) _ n C hown p A.length cap0 (A.map lv) hl hnews (lv_oneCell A) (by unfold maxLen; omega) (by omega) hbase
    have h5 : ∃ g' cap', v' = .slice (some ⟨g', 0, none⟩) (n + A.length) cap' ∧ (g' = g ∨ w.heap.size ≤ g') := by
      rcases h2.2 with ⟨e, -⟩ | ⟨g', cap', cur, e, hbg, hg, hrest⟩
      · exact absurd (h4.1 e).1 (by intro e2; cases e2)
      · refine ⟨g', cap', e, ?_⟩
        by_cases hroom : n + A.length ≤ cap
        · obtain ⟨cur0, hcur⟩ : ∃ cur0, w.heap[g]? = some (.cells cur0 28 (0, 0)) ∧ cur0.size = cap * 1 := by
            rcases hown.2 with ⟨e0, -⟩ | ⟨g0, cap0', cur0, e0, -, hg0, -, -, hcs0, -⟩
            · cases e0
            · injection e0 with e1 _ e2
              injection e1 with e1
              injection e1 with e1
              subst e1 e2
              exact ⟨cur0, hg0, hcs0⟩
          have hr2 := run_append_room (P := Tryd.prog) w t o.type 28 i ht hi g n cap cur0 hcur.1 p A.length cap0 (A.map lv) (by rw [hsize]; exact hl) hnews (lv_oneCell A) hroom (by rw [List.length_map, hsize, hcur.2]; omega)
          rw [hr2] at hr
          injection hr with e1 _
          rw [e] at e1
          injection e1 with e1 _ _
          injection e1 with e1
          injection e1 with e1
          exact .inl e1.symm
        · have hr2 := run_append_grow (P := Tryd.prog) w t o.type 28 i _ ht hi hz ⟨g, 0, none⟩ n cap C (by rw [hsize]; exact hown.1) (hown.cells (g := g) rfl) p A.length cap0 (A.map lv) (by rw [hsize]; exact hl) hnews (by omega) (by omega) (growslice_fits (by omega) (by rw [hby]; omega))
          rw [hr2] at hr
          injection hr with e1 _
          rw [e] at e1
          injection e1 with e1 _ _
          injection e1 with e1
          injection e1 with e1
          exact .inr (by omega)
    obtain ⟨g', cap', rfl, h6⟩ := h5
    unfold Oper.wp execOp
    simp only [ho, resolve, invoke, builtin, Sem.run_bind, Sem.run_pure, Result.andThen_ok, List.map_toArray, List.map_cons, List.map_nil, hs, hx, hr]
    exact h g' cap' w' h2 h3 h6
/-- 'append(s, make([]uint64, m)...)' to a slice of the call's own -/
theorem run_zeros_at {w : World} (base : Nat) (t tn ty : TypeId) (kq kn : IntKind) (ht : Tryd.prog.underlying t = some (.slice 28)) (htn : Tryd.prog.underlying tn = some (.int kn))
    (g cap n : Nat) (xs : List Value) (hown : w.ownsRow base 28 1 (.slice (some ⟨g, 0, none⟩) n cap) n xs) (m : Nat) (hlen : n + m ≤ Lmax) (hbase : base ≤ w.heap.size) :
    ∃ g' cap' w', (Builtin.append_ #[t, tn] ty #[.slice (some ⟨g, 0, none⟩) n cap, .int kq (m : Int)]).run Tryd.prog w = .ok (.slice (some ⟨g', 0, none⟩) (n + m) cap') w' ∧ w'.ownsRow base 28 1 (.slice (some ⟨g', 0, none⟩) (n + m) cap') (n + m) (xs ++ (List.replicate m 0).map lv) ∧ w.grownBy w' (some g) ∧ (g' = g ∨ w.heap.size ≤ g') := by
  obtain ⟨i, hi, hz, hsize, hby⟩ := info_parts info_u64
  have hl := lmax_le hlen
  rcases hown.2 with ⟨h0, _⟩ | ⟨g0, cap0, cur, he0, hbg, hg, hnc, hcm, hcs, htake⟩
  · cases h0
  obtain ⟨rfl, rfl⟩ : g = g0 ∧ cap = cap0 := by
    injection he0 with e1 _ e2
    injection e1 with e1
    injection e1 with e1
    exact ⟨e1, e2⟩
  have hx := hown.1
  by_cases hm : m = 0
  · subst hm
    have hw : IntKind.i64.wrap 0 = 0 := by rw [IntKind.wrap_i64]; rfl
    refine ⟨g, cap, w, ?_, by simpa using hown, World.grownBy.refl _ _, .inl rfl⟩
    simp [Builtin.append_, run_underlying ht, run_underlying htn, sizeOf, typeInfo, hi, asInt, asIntOf, hw, hnc, storeCells]
  rw [show (List.replicate m 0).map lv = List.replicate m (lv 0) from List.map_replicate]
  have hzc : ∀ k, (Builtin.zeroCells (Value.int IntKind.u64 0).cells k).toList = List.replicate k (lv 0) := by
    intro k
    apply List.ext_getElem
    · simp [Builtin.zeroCells, Value.cells]
    · intro j h1 h2
      simp [Builtin.zeroCells, Value.cells, lv, Nat.mod_one]
  have hxl : (xs ++ List.replicate m (lv 0)).length = (n + m) * 1 := by simp; omega
  by_cases hroom : n + m ≤ cap
  · have hfit : n + m ≤ cur.size := by omega
    have hst := run_storeCells_at Tryd.prog g n 28 (List.replicate m (lv 0)) 0 cur w hg (by simpa using hfit) (fun u hu => by rw [List.eq_of_mem_replicate hu]; rfl)
    simp only [Nat.add_zero] at hst
    obtain ⟨R, hR⟩ : ∃ R, R = (cur.toList.take n ++ List.replicate m (lv 0) ++ cur.toList.drop (n + (List.replicate m (lv 0)).length)).toArray := ⟨_, rfl⟩
    rw [← hR] at hst
    refine ⟨g, cap, w.setRow g R, ?_, ⟨hxl, .inr ⟨g, cap, _, rfl, hbg, setRow_heap w g cur R 28 (0, 0) hg, hroom, hcm, ?_, ?_⟩⟩, ⟨rfl, rfl, rfl, by simp, fun k _ hk => Go.setRow_other w g k _ (fun e => hk (by rw [e]))⟩, .inl rfl⟩
    · have hw : IntKind.i64.wrap (m : Int) = m := by rw [IntKind.wrap_i64]; omega
      have hneg : ¬ ((m : Int) < 0) := by omega
      have h48i : ¬ (281474976710656 < (m : Int) * (i.bytes : Int)) := by rw [hby]; omega
      have hz' := hzc m
      simp [Builtin.append_, run_underlying ht, run_underlying htn, sizeOf, typeInfo, zeroValue, hi, hz, asInt, asIntOf, hw, hneg, h48i, hroom, hsize, hm, hz', Addr.add_lit, hst]
    · rw [hR]; simp; omega
    · rw [hR, ← htake]
      have : (List.take (n * 1) cur.toList ++ List.replicate m (lv 0)).length = (n + m) * 1 := by rw [htake]; exact hxl
      simp only [Nat.mul_one] at this ⊢
      rw [← this]; exact List.take_left
  · have hge := grownCap_ge w (n + m) cap 28
    have hgm : grownCap w (n + m) cap 28 ≤ maxLen := grownCap_le_maxLen w (n + m) cap 28 (by unfold maxLen; omega)
    have holds : ∀ j u, xs[j]? = some u → w.drew.cell? ((⟨g, 0, none⟩ : Addr).add j) = some u := fun j u hu => hown.cells (g := g) rfl j u hu
    have hr := Lib.run_append_grow_zeros (P := Tryd.prog) w t tn ty 28 i (.int .u64 0) kq kn ht htn hi hz (some ⟨g, 0, none⟩) n cap xs
      (by rw [hsize]; exact run_firstCells_some (P := Tryd.prog) w.drew 1 n ⟨g, 0, none⟩ n cap xs hx holds) m (by omega) (by omega) (by omega) (by omega) (by rw [hby]; omega)
      (growslice_fits (by omega) (by rw [hby]; omega))
    refine ⟨_, _, _, hr, ⟨hxl, .inr ⟨w.heap.size, _, _, rfl, hbase, heap_alloc_new w.drew _, hge, hgm, ?_, ?_⟩⟩, ⟨rfl, rfl, rfl, by simp, fun k hk _ => Below.heap_alloc w.drew _ k hk⟩, .inr (Nat.le_refl _)⟩
    · simp only [Array.size_append, List.size_toArray, size_zeroCells, hx, show (Value.int IntKind.u64 0).cells.size = 1 from rfl]
      omega
    · simp only [Array.toList_append, hzc, List.append_assoc]
      rw [← List.append_assoc, ← hxl]
      exact List.take_left

theorem wp_append_zeros {w : World} {o : Oper} {a : Act} {K : Act → World → Prop} {Q : Exit → Act → World → Prop} (s x : Operand) (t tn : TypeId) (kn : IntKind)
    (ht : Tryd.prog.underlying t = some (.slice 28)) (htn : Tryd.prog.underlying tn = some (.int kn)) (ho : o.op = .call { callee := .builtin .append, args := #[s, x], argTypes := #[t, tn] })
    (base : Nat) (v : Value) (n g cap : Nat) (C : List Value) (hs : a.eval s = v) (hv : v = .slice (some ⟨g, 0, none⟩) n cap) (hown : w.ownsRow base 28 1 v n C) (hbase : base ≤ w.heap.size)
    (kq : IntKind) (m : Nat) (hx : a.eval x = .int kq (m : Int)) (hlen : n + m ≤ Lmax)
    (h : ∀ g' cap' w', w'.ownsRow base 28 1 (.slice (some ⟨g', 0, none⟩) (n + m) cap') (n + m) (C ++ (List.replicate m 0).map lv) → w.grownBy w' (some g) → (g' = g ∨ w.heap.size ≤ g') → K (a.put o.dst (.slice (some ⟨g', 0, none⟩) (n + m) cap')) w') : Oper.wp Tryd.prog o a w K Q := by
  subst hv
  obtain ⟨g', cap', w', hr, h1, h2, h3⟩ := run_zeros_at base t tn o.type kq kn ht htn g cap n C hown m hlen hbase
  unfold Oper.wp execOp
  simp only [ho, resolve, invoke, builtin, Sem.run_bind, Sem.run_pure, Result.andThen_ok, List.map_toArray, List.map_cons, List.map_nil, hs, hx, hr]
  exact h g' cap' w' h1 h2 h3
end Go.Proofs.YtefeglkbikcjeaaDoor
