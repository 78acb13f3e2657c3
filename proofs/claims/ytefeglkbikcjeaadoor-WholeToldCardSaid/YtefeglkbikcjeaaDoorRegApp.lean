/- A law for regions that draw their order and make rows, and append to them: an operation may take a row over from another one; what is said of the other one is then given up. -/
import Derived.Test.YtefeglkbikcjeaaDoorInts2
namespace Go.Proofs.YtefeglkbikcjeaaDoor
open Go Go.RowKit

/-- what is said of a value, and the blocks that it leans on -/
structure Sa where
  holds : Value → World → Prop
  blk : Value → Nat → Prop
  lt : ∀ v w b, holds v w → blk v b → b < w.heap.size
  mono : ∀ v w w' g, holds v w → w.grownBy w' g → (∀ b, g = some b → ¬ blk v b) → holds v w'
def Sa.val (u : Value) : Sa := ⟨fun v _ => v = u, fun _ _ => False, fun _ _ _ _ h => h.elim, fun _ _ _ _ h _ _ => h⟩
/-- a row of n elements in memory from block B on -/
def Sa.row (t : TypeId) (B n : Nat) (xs : List Value) : Sa := ⟨fun v w => w.ownsRow B t 1 v n xs, fun v b => v.ownBlock = some b, fun _ _ b h k => (h.lt b k).2, fun v w w' g h hg hb => by
  obtain ⟨h1, h2⟩ := h
  refine ⟨h1, ?_⟩
  rcases h2 with h2 | ⟨g', cap, cur, e, hg', hh, rest⟩
  · exact .inl h2
  · refine .inr ⟨g', cap, cur, e, hg', ?_, rest⟩
    have hlt : g' < w.heap.size := (Array.getElem?_eq_some_iff.1 hh).1
    rw [hg.block g' hlt (fun e2 => hb g' e2.symm (by subst e; rfl))]
    exact hh⟩
/-- numbers at the head of a block of the region's own -/
def Sa.made (t : TypeId) (B n : Nat) (L : List Int) : Sa := ⟨fun v w => ∃ g, v = .slice (some ⟨g, 0, none⟩) n n ∧ B ≤ g ∧ L.length = n ∧ RowG t g n L w, fun v b => v.ownBlock = some b, fun v w b h k => by
  obtain ⟨g, rfl, -, -, h⟩ := h
  have e : g = b := by injection k
  subst e; exact h.lt, fun v w w' gg h hg hb => by
  obtain ⟨g, rfl, h1, h2, h3⟩ := h
  refine ⟨g, rfl, h1, h2, ?_⟩
  exact (Sa.row t g L.length (L.map zv)).mono (.slice (some ⟨g, 0, none⟩) L.length n) w w' gg h3 hg (fun b e k => hb b e k)⟩
theorem wp_make_ints {w : World} {o : Oper} {a : Act} {K : Act → World → Prop} {Q : Exit → Act → World → Prop} (l c : Operand) (t e : TypeId)
    (ht : Tryd.prog.underlying t = some (.slice e)) (hinfo : (Tryd.prog.info? e).map (fun i => (i.zero, i.size, i.bytes)) = some (some (.int .i64 0), 1, 8)) (hop : o.op = Op.makeSlice t l c) (n : Nat) (hl : a.eval l = .int .i64 (n : Int)) (hc : a.eval c = .int .i64 (n : Int)) (hn : n ≤ 100000)
    (h : ∀ w', RowG e w.heap.size n (List.replicate n 0) w' → w.grownBy w' none → K (a.put o.dst (.slice (some ⟨w.heap.size, 0, none⟩) n n)) w') : Oper.wp Tryd.prog o a w K Q := by
  obtain ⟨i, hi, hz, hsize, hby⟩ := info_parts hinfo
  obtain ⟨w', hrun, r1, r2⟩ := run_make_full (P := Tryd.prog) w w.heap.size t e i (.int .i64 0) 1 ht hi hz hsize .i64 .i64 n (by rw [hby]; omega) (by unfold maxLen; omega) (Nat.le_refl _)
  unfold Oper.wp
  simp [execOp, hop, hl, hc, hrun, Result.andThen]
  refine h w' (RowG.made ?_ (by simp)) r2
  rw [show (Value.int IntKind.i64 0).cells = #[Value.int IntKind.i64 0] from rfl, Nat.mul_one, toList_madeCells_one] at r1
  simpa [zv] using r1
theorem RowG.other {t : TypeId} {g cap : Nat} {L : List Int} {w : World} (h : RowG t g cap L w) {g' : Nat} (hn : g ≠ g') (j : Nat) (v : Value) : RowG t g cap L (w.setCell ⟨g', j, none⟩ v) := by
  obtain ⟨h1, h2⟩ := h
  refine ⟨h1, ?_⟩
  rcases h2 with h2 | ⟨g2, cap', cur, e, hg, hh, rest⟩
  · exact .inl h2
  · refine .inr ⟨g2, cap', cur, e, hg, ?_, rest⟩
    have e2 : g = g2 := by injection e with e; injection e with e; injection e
    subst e2
    rw [show (w.setCell ⟨g', j, none⟩ v).heap[g]? = w.heap[g]? by simp only [World.setCell, Array.getElem?_modify]; rw [if_neg (by show ¬ g' = g; omega)]]; exact hh

structure PlanA where
  D : List Nat
  sp : Nat → Sa
  eat : Nat → Option Nat
/-- the check of a region: edges lead back; slots are written once; what takes over waits for what it takes, and nobody takes the same -/
def appOk (ops : Array Oper) (p : PlanA) (n : Nat) : Bool :=
  Region.noSelect ops && (List.range ops.size).all fun i => match ops[i]? with
    | none => false
    | some o => (o.after.all fun e => !binds e || decide (e.on < i)) && (match o.dst with
        | none => false
        | some d => decide (d < n) && p.D.contains d && (List.range ops.size).all fun j => j == i || !((ops[j]?).bind (·.dst) == some d)) &&
      match p.eat i with
      | none => true
      | some j => (o.after.any fun e => binds e && e.on == j) && (List.range ops.size).all fun i' => i' == i || !(p.eat i' == some j)
def eatenIn (ops : Array Oper) (p : PlanA) (j : Nat) : Bool := (List.range ops.size).any fun i => p.eat i == some j

section
variable {P : Program} {ops : Array Oper} {Q : Exit → Act → World → Prop}
/-- is j taken over? -/
def Gone (p : PlanA) (L : Array Bool) (j : Nat) : Prop := ∃ i, p.eat i = some j ∧ L.getD i false = true
structure Ma (ops : Array Oper) (p : PlanA) (a0 : Act) (w0 : World) (L : Array Bool) (a : Act) (w : World) : Prop where
  size : L.size = ops.size
  ag : Agree p.D a0 a
  ext : Ext w0 w
  post : ∀ i, L.getD i false = true → ¬ Gone p L i → (p.sp i).holds (at_ ops a i) w
  back : ∀ i o, L.getD i false = true → ops[i]? = some o → ∀ e ∈ o.after, binds e = true → L.getD e.on false = true
  lo : ∀ i b, L.getD i false = true → (p.sp i).blk (at_ ops a i) b → w0.heap.size ≤ b
  dis : ∀ i j b, i ≠ j → L.getD i false = true → L.getD j false = true → ¬ Gone p L i → ¬ Gone p L j → (p.sp i).blk (at_ ops a i) b → ¬ (p.sp j).blk (at_ ops a j) b
/-- what an operation may count on -/
structure PreA (ops : Array Oper) (p : PlanA) (a0 : Act) (w0 : World) (i : Nat) (o : Oper) (a : Act) (w : World) : Prop where
  ag : Agree p.D a0 a
  ext : Ext w0 w
  post : ∀ j ∈ bindsOf o, (eatenIn ops p j = false ∨ p.eat i = some j) → (p.sp j).holds (at_ ops a j) w
/-- one operation's part -/
def AStep (P : Program) (ops : Array Oper) (Q : Exit → Act → World → Prop) (p : PlanA) (a0 : Act) (w0 : World) (i : Nat) (o : Oper) : Prop :=
  ops[i]? = some o → ∀ a w, PreA ops p a0 w0 i o a w →
    match p.eat i with
    | none => wpOp P ops Q i (fun a' w' => ∃ v, a' = a.put o.dst v ∧ (p.sp i).holds v w' ∧ Ext w w' ∧ ∀ b, (p.sp i).blk v b → w.heap.size ≤ b) a w
    | some j => wpOp P ops Q i (fun a' w' => ∃ v g, a' = a.put o.dst v ∧ (p.sp i).holds v w' ∧ w.grownBy w' g ∧ (∀ b, g = some b → (p.sp j).blk (at_ ops a j) b) ∧ ∀ b, (p.sp i).blk v b → (p.sp j).blk (at_ ops a j) b ∨ w.heap.size ≤ b) a w

theorem wp_region_app {id : Nat} {a0 : Act} {w0 : World} (p : PlanA)
    (hm : P.follows .mixedOrders = true) (hck : appOk ops p a0.tmps.size = true)
    (hs : EachOp' (AStep P ops Q p a0 w0) 0 ops.toList)
    (hend : ∀ a w, Agree p.D a0 a → Ext w0 w → (∀ i, i < ops.size → eatenIn ops p i = false → (p.sp i).holds (at_ ops a i) w) →
      (∀ i j b, i ≠ j → i < ops.size → j < ops.size → eatenIn ops p i = false → eatenIn ops p j = false → (p.sp i).blk (at_ ops a i) b → ¬ (p.sp j).blk (at_ ops a j) b) → Q .normal a w) :
    (Code.region id ops true).wp P Q a0 w0 := by
  simp only [appOk, Bool.and_eq_true] at hck
  obtain ⟨hsel, hck⟩ := hck
  have hop : ∀ i o, ops[i]? = some o → (o.after.all fun e => !binds e || decide (e.on < i)) = true ∧ (∃ d, o.dst = some d ∧ d < a0.tmps.size ∧ d ∈ p.D ∧ ∀ j, j < ops.size → j ≠ i → (ops[j]?).bind (·.dst) ≠ some d) ∧
      ∀ j, p.eat i = some j → (∃ e ∈ o.after, binds e = true ∧ e.on = j) ∧ ∀ i', i' < ops.size → i' ≠ i → p.eat i' ≠ some j := by
    intro i o ho
    have h := List.all_eq_true.1 hck i (List.mem_range.2 (Array.getElem?_eq_some_iff.1 ho).1)
    simp only [ho, Bool.and_eq_true] at h
    obtain ⟨⟨h1, h2⟩, h3⟩ := h
    refine ⟨h1, ?_, ?_⟩
    · cases hd : o.dst with
      | none => simp [hd] at h2
      | some d =>
        simp only [hd, Bool.and_eq_true, decide_eq_true_eq, List.contains_iff_mem, List.all_eq_true, List.mem_range, Bool.or_eq_true, beq_iff_eq, Bool.not_eq_true', beq_eq_false_iff_ne, ne_eq] at h2
        refine ⟨d, rfl, h2.1.1, h2.1.2, fun j hj hne => ?_⟩
        rcases h2.2 j hj with e | e
        · exact absurd e hne
        · exact e
    · intro j hj
      rw [hj] at h3
      simp only [Bool.and_eq_true, List.all_eq_true, List.mem_range, Bool.or_eq_true, beq_iff_eq, Bool.not_eq_true', beq_eq_false_iff_ne, ne_eq] at h3
      obtain ⟨g1, g2⟩ := h3
      refine ⟨?_, fun i' hi' hne => ?_⟩
      · obtain ⟨e, he, hb⟩ := Array.any_eq_true'.1 g1
        simp only [Bool.and_eq_true, beq_iff_eq] at hb
        exact ⟨e, he, hb.1, hb.2⟩
      · rcases g2 i' hi' with e | e
        · exact absurd e hne
        · exact e
  clear hck
  have hstep : ∀ i o, ops[i]? = some o → AStep P ops Q p a0 w0 i o := fun i o ho => by
    have := EachOp'.get ops.toList 0 i o hs (by rw [Array.getElem?_toList]; exact ho)
    rwa [Nat.zero_add] at this
  refine wp_region_held_drew (S := fun _ => True) hm trivial fun _ => ?_
  have hnone : ∀ {L : Array Bool} {i : Nat}, L.size = ops.size → L.getD i false = true → i < ops.size := fun {L i} hL h => by
    rcases Nat.lt_or_ge i L.size with g | g
    · rw [← hL]; exact g
    · simp [Array.getD, Nat.not_lt.2 g] at h
  have hall : ∀ (L : Array Bool) (a : Act) (w : World), Ma ops p a0 w0 L a w → Region.ready .any ops L = [] → Q .normal a w := by
    intro L a w hM h0
    have hl : ∀ j, j < ops.size → L.getD j false = true := by
      intro j
      induction j using Nat.strongRecOn with
      | _ j ihj =>
        intro hj
        cases hg : L.getD j false with
        | true => rfl
        | false =>
          have hj' : j < L.size := by rw [hM.size]; exact hj
          obtain ⟨oj, hoj⟩ : ∃ oj, ops[j]? = some oj := ⟨_, Array.getElem?_eq_getElem hj⟩
          have hall := Array.all_eq_true_iff_forall_mem.1 (hop j oj hoj).1
          have : j ∈ Region.ready .any ops L := by
            refine mem_ready.2 ⟨by simp [Array.getD, hj'] at hg ⊢; exact hg, oj, hoj, fun e he hbe => ?_⟩
            have h1 := hall e he
            have hb' : binds e = true := hbe
            rw [hb'] at h1
            simp only [Bool.not_true, Bool.false_or, decide_eq_true_eq] at h1
            exact ihj e.on h1 (by omega)
          rw [h0] at this
          cases this
    have hng : ∀ i, eatenIn ops p i = false → ¬ Gone p L i := by
      rintro i he ⟨k, hk, hLk⟩
      have hkn := hnone hM.size hLk
      have := List.any_eq_false.1 he k (List.mem_range.2 hkn)
      simp [hk] at this
    exact hend a w hM.ag hM.ext (fun i hi he => hM.post i (hl i hi) (hng i he)) fun i j b hij hi hj ei ej => hM.dis i j b hij (hl i hi) (hl j hj) (hng i ei) (hng j ej)
  have key : ∀ (fuel : Nat) (L : Array Bool) (a : Act) (w : World), unl ops.size L ≤ fuel → Ma ops p a0 w0 L a w → wpAnyH P .any ops Q (fun _ => True) fuel L a w := by
    intro fuel
    induction fuel with
    | zero =>
      intro L a w hf hM
      have h0 : Region.ready .any ops L = [] := by
        refine List.eq_nil_iff_forall_not_mem.2 fun i hi => ?_
        obtain ⟨hin, hiL, -⟩ := ready_spec hi
        have := unl_step hin (by rw [hM.size]; exact hin) hiL
        omega
      exact ⟨h0, hall L a w hM h0⟩
    | succ fuel ih =>
      intro L a w hf hM
      refine ⟨hall L a w hM, fun i hir => ?_⟩
      obtain ⟨hin, hiL, o, ho, hpre⟩ := ready_spec hir
      have hun := unl_step hin (by rw [hM.size]; exact hin) hiL
      have hiL' : i < L.size := by rw [hM.size]; exact hin
      have hif : L.getD i false = false := by simp [Array.getD, hiL'] at hiL ⊢; exact hiL
      obtain ⟨-, ⟨d, hod, hdn, hdD, hdu⟩, heat⟩ := hop i o ho
      -- an eaten operation that i may use is not gone yet
      have hnot : ∀ j, (eatenIn ops p j = false ∨ p.eat i = some j) → ¬ Gone p L j := by
        rintro j hj ⟨k, hk, hLk⟩
        have hkn := hnone hM.size hLk
        rcases hj with hj | hj
        · have := List.any_eq_false.1 hj k (List.mem_range.2 hkn)
          simp [hk] at this
        · by_cases e : k = i
          · subst e; rw [hif] at hLk; cases hLk
          · exact (heat j hj).2 k hkn e hk
      have hbl : ∀ j ∈ bindsOf o, L.getD j false = true := by
        intro j hj
        obtain ⟨e, he, rfl⟩ := List.mem_map.1 hj
        obtain ⟨h1, h2⟩ := List.mem_filter.1 he
        exact hpre e (Array.mem_def.2 h1) h2
      have hgs := hstep i o ho ho a w ⟨hM.ag, hM.ext, fun j hj hc => hM.post j (hbl j hj) (hnot j hc)⟩
      have hold' : ∀ j, j ≠ i → (L.setIfInBounds i true).getD j false = true → L.getD j false = true := fun j hj hL => by rwa [getD_set_ne false (Ne.symm hj)] at hL
      have hself' : (L.setIfInBounds i true).getD i false = true := by simp [Array.getD, hiL']
      have hup : ∀ j, L.getD j false = true → (L.setIfInBounds i true).getD j false = true := fun j hj => by
        by_cases e : j = i
        · subst e; exact hself'
        · rw [getD_set_ne false (Ne.symm e)]; exact hj
      have hgone : ∀ j, ¬ Gone p (L.setIfInBounds i true) j → ¬ Gone p L j ∧ p.eat i ≠ some j := fun j h => ⟨fun ⟨k, hk, hLk⟩ => h ⟨k, hk, hup k hLk⟩, fun e => h ⟨i, e, hself'⟩⟩
      have hback : ∀ j oj, (L.setIfInBounds i true).getD j false = true → ops[j]? = some oj → ∀ e ∈ oj.after, binds e = true → (L.setIfInBounds i true).getD e.on false = true := by
        intro j oj hj hoj e he hb
        by_cases e1 : j = i
        · subst e1; rw [ho] at hoj; injection hoj with hoj; subst hoj; exact hup _ (hpre e he hb)
        · exact hup _ (hM.back j oj (hold' j e1 hj) hoj e he hb)
      have hsz : (L.setIfInBounds i true).size = ops.size := by rw [Array.size_setIfInBounds]; exact hM.size
      have hdisj : ∀ (v : Value) (j : Nat), j ≠ i → j < ops.size → at_ ops (a.put o.dst v) j = at_ ops a j := by
        intro v j hj hjn
        unfold at_
        split
        · rename_i k hk
          rw [hod]
          exact sl_other fun e => hdu j hjn hj (by rw [hk, e])
        · rfl
      have hself : ∀ v, at_ ops (a.put o.dst v) i = v := fun v => by
        unfold at_
        rw [ho, Option.bind_some, hod]
        exact sl_same (by rw [hM.ag.size]; exact hdn)
      -- what stays of the others, as memory grows but for blocks that they do not lean on
      have fin : ∀ (v : Value) (w' : World) (g : Option Nat), w.grownBy w' g → Ext w0 w' → (p.sp i).holds v w' → (∀ j, j ≠ i → L.getD j false = true → ¬ Gone p L j → p.eat i ≠ some j → ∀ b, g = some b → ¬ (p.sp j).blk (at_ ops a j) b) →
          (∀ b, (p.sp i).blk v b → w0.heap.size ≤ b) → (∀ j, j ≠ i → L.getD j false = true → ¬ Gone p L j → p.eat i ≠ some j → ∀ b, (p.sp i).blk v b → ¬ (p.sp j).blk (at_ ops a j) b) →
          Ma ops p a0 w0 (L.setIfInBounds i true) (a.put o.dst v) w' := by
        intro v w' g hg hx hv h1 h2 h3
        refine ⟨hsz, hM.ag.put (fun k hk => by rw [hod] at hk; injection hk with hk; subst hk; exact hdD), hx, ?_, hback, ?_, ?_⟩
        · intro j hL hgn
          obtain ⟨g1, g2⟩ := hgone j hgn
          by_cases e : j = i
          · subst e; rw [hself]; exact hv
          · have hL' := hold' j e hL
            rw [hdisj v j e (hnone hM.size hL')]
            exact (p.sp j).mono _ _ _ g (hM.post j hL' g1) hg (h1 j e hL' g1 g2)
        · intro j b hL hb
          by_cases e : j = i
          · subst e; rw [hself] at hb; exact h2 b hb
          · have hL' := hold' j e hL
            rw [hdisj v j e (hnone hM.size hL')] at hb
            exact hM.lo j b hL' hb
        · intro j k b hjk hLj hLk hgj hgk hb
          obtain ⟨gj1, gj2⟩ := hgone j hgj
          obtain ⟨gk1, gk2⟩ := hgone k hgk
          by_cases e1 : j = i
          · subst e1
            have e2 : k ≠ j := Ne.symm hjk
            have hLk' := hold' k e2 hLk
            rw [hself] at hb
            rw [hdisj v k e2 (hnone hM.size hLk')]
            exact h3 k e2 hLk' gk1 gk2 b hb
          · have hLj' := hold' j e1 hLj
            rw [hdisj v j e1 (hnone hM.size hLj')] at hb
            by_cases e2 : k = i
            · subst e2
              rw [hself]
              exact fun hc => h3 j e1 hLj' gj1 gj2 b hc hb
            · have hLk' := hold' k e2 hLk
              rw [hdisj v k e2 (hnone hM.size hLk')]
              exact hM.dis j k b hjk hLj' hLk' gj1 gk1 hb
      cases he : p.eat i with
      | none =>
        rw [he] at hgs
        refine wpOp_mono ?_ hgs
        rintro a' w' ⟨v, rfl, hv, hx, hb⟩
        have hg : w.grownBy w' none := ⟨hx.1, hx.2, hx.3, hx.size, fun k hk _ => hx.block k hk⟩
        refine ⟨trivial, ih _ _ _ (by omega) (fin v w' none hg (hM.ext.trans hx) hv (fun j _ _ _ _ b hb => by cases hb) (fun b hb' => Nat.le_trans hM.ext.size (hb b hb')) (fun j hj hL hgn _ b hb1 hb2 => ?_))⟩
        have h1 := hb b hb1
        have h2 := (p.sp j).lt _ _ b (hM.post j hL hgn) hb2
        omega
      | some m =>
        rw [he] at hgs
        refine wpOp_mono ?_ hgs
        rintro a' w' ⟨v, g, rfl, hv, hg, hgb, hb⟩
        obtain ⟨⟨e0, he0, hbi, hon⟩, huq⟩ := heat m he
        have hLm : L.getD m false = true := by rw [← hon]; exact hpre e0 he0 hbi
        have hgm : ¬ Gone p L m := hnot m (.inr he)
        have hlo : ∀ b, g = some b → w0.heap.size ≤ b := fun b e => hM.lo m b hLm (hgb b e)
        refine ⟨trivial, ih _ _ _ (by omega) (fin v w' g hg (hM.ext.grown hg hlo) hv (fun j hj hL hgn hne b e hc => ?_) (fun b hb' => ?_) (fun j hj hL hgn hne b hb1 hb2 => ?_))⟩
        · have hmj : m ≠ j := fun e => hne (by rw [he, e])
          exact hM.dis m j b hmj hLm hL hgm hgn (hgb b e) hc
        · rcases hb b hb' with h | h
          · exact hM.lo m b hLm h
          · exact Nat.le_trans hM.ext.size h
        · have hmj : m ≠ j := fun e => hne (by rw [he, e])
          rcases hb b hb1 with h | h
          · exact hM.dis m j b hmj hLm hL hgm hgn h hb2
          · have := (p.sp j).lt _ _ b (hM.post j hL hgn) hb2
            omega
  refine key _ _ _ _ ?_ ⟨by simp, Agree.refl _ _, (Ext.refl _).drew, fun i h => by simp [Array.getD] at h, fun i o h => by simp [Array.getD] at h, fun i b h => by simp [Array.getD] at h, fun i j b _ h => by simp [Array.getD] at h⟩
  unfold unl
  exact Nat.le_trans (List.countP_le_length) (by simp)

/-- the parts of operations, as a walk meets them -/
theorem PreA.get {p : PlanA} {a0 : Act} {w0 : World} {i : Nat} {o : Oper} {a : Act} {w : World} (h : PreA ops p a0 w0 i o a w) (j : Nat) (hj : (bindsOf o).contains j = true) (hc : (!eatenIn ops p j || p.eat i == some j) = true) : (p.sp j).holds (at_ ops a j) w :=
  h.post j (by simpa using hj) (by simpa using hc)
theorem PreA.slot {p : PlanA} {a0 : Act} {w0 : World} {i : Nat} {o : Oper} {a : Act} {w : World} (h : PreA ops p a0 w0 i o a w) (k : Nat) {v : Value} (hk : p.D.contains k = false) (hv : sl a0 k = v) : a.tmps[k]?.getD undef = v := slot_of' h.ag (by simpa using hk) hv
theorem AStep.op {p : PlanA} {a0 : Act} {w0 : World} {i : Nat} {o : Oper} (he : p.eat i = none) (hg : o.guard = none)
    (h : ∀ a w, PreA ops p a0 w0 i o a w → ∀ K : Act → World → Prop, Hid (∀ v w', (p.sp i).holds v w' → Ext w w' → (∀ b, (p.sp i).blk v b → w.heap.size ≤ b) → K (a.put o.dst v) w') → Oper.wp P o a w K Q) :
    AStep P ops Q p a0 w0 i o := by
  intro ho a w hp
  rw [he]
  refine wpOp_step ho fun K hK => ?_
  rw [if_pos (by unfold Region.wanted; rw [hg])]
  exact h a w hp K (Lib.hid fun v w' h1 h2 h3 => hK _ _ ⟨v, rfl, h1, h2, h3⟩)
theorem AStep.eat {p : PlanA} {a0 : Act} {w0 : World} {i : Nat} {o : Oper} (j : Nat) (he : p.eat i = some j) (hg : o.guard = none)
    (h : ∀ a w, PreA ops p a0 w0 i o a w → ∀ K : Act → World → Prop, Hid (∀ v w' g, (p.sp i).holds v w' → w.grownBy w' g → (∀ b, g = some b → (p.sp j).blk (at_ ops a j) b) → (∀ b, (p.sp i).blk v b → (p.sp j).blk (at_ ops a j) b ∨ w.heap.size ≤ b) → K (a.put o.dst v) w') → Oper.wp P o a w K Q) :
    AStep P ops Q p a0 w0 i o := by
  intro ho a w hp
  rw [he]
  refine wpOp_step ho fun K hK => ?_
  rw [if_pos (by unfold Region.wanted; rw [hg])]
  exact h a w hp K (Lib.hid fun v w' g h1 h2 h3 h4 => hK _ _ ⟨v, g, rfl, h1, h2, h3, h4⟩)
end
end Go.Proofs.YtefeglkbikcjeaaDoor
