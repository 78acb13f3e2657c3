/- A law for regions that draw their order, read, and end with stores in a fixed row: each operation yields a fixed value, each store leads from one fixed world to the next. -/
import Derived.Test.YtfofjalebhajhaaGreatDoorShare3
namespace Go.Proofs.YtfofjalebhajhaaGreatDoor
open Go Go.RowKit
structure PlanF where
 D:List Nat
 val:Nat→Value
 st:List Nat
 sn:Nat→Option Nat
 late:Nat→Bool
 ws:Nat→World
def fixOk (ops:Array Oper) (D st:List Nat) (sn:Nat→Option Nat) (late:Nat→Bool) (n:Nat):Bool :=
 Region.noSelect ops && ((List.range ops.size).all fun i=>match ops[i]? with
  | none=>false
  | some o=>o.guard.isNone && (o.after.all fun e => !binds e || decide (e.on<i)) && (match sn i with
   | some k=>o.dst.isNone && (st[k]? == some i) && (k == 0 || (match st[k - 1]? with | none=>false | some j=>dep ops ops.size i j))
   | none=>(match o.dst with
    | none=>false
    | some d=>decide (d<n) && D.contains d && (List.range ops.size).all fun j=>j == i || !((ops[j]?).bind (·.dst) == some d)) &&
    (late i || (match st with | []=>true | s :: _=>dep ops ops.size s i)))) && ((List.range st.length).all fun k=>match st[k]? with | none=>false | some i=>sn i == some k && decide (i<ops.size))
section
variable {P:Program}{ops:Array Oper}{Q:Exit→Act→World→Prop}
structure Mf (ops:Array Oper) (p:PlanF) (a0:Act) (L:Array Bool) (a:Act) (w:World):Prop where
 size:L.size=ops.size
 ag:Agree p.D a0 a
 post:∀ i,L.getD i false=true→p.sn i=none→at_ ops a i=p.val i
 back:∀ i o,L.getD i false=true→ops[i]? = some o → ∀ e∈o.after,binds e=true→L.getD e.on false=true
 cnt:∃ k,k≤p.st.length∧w=p.ws k ∧ ∀ m i,p.st[m]? = some i→(L.getD i false=true↔m<k)
structure PreF (ops:Array Oper) (p:PlanF) (a0:Act) (o:Oper) (a:Act):Prop where
 ag:Agree p.D a0 a
 post:∀ j∈bindsOf o,p.sn j=none→at_ ops a j=p.val j
theorem PreF.slot {p:PlanF}{a0 a:Act}{o:Oper}(h:PreF ops p a0 o a) (k:Nat){v:Value}(hk:p.D.contains k=false) (hv:sl a0 k=v):a.tmps[k]?.getD undef=v :=
 slot_of' h.ag (by intro hm;rw[List.contains_iff_mem.2 hm]at hk;cases hk) hv
theorem PreF.get {p:PlanF}{a0 a:Act}{o:Oper}(h:PreF ops p a0 o a) (j:Nat) (hj:(bindsOf o).contains j=true) (hs:p.sn j=none):at_ ops a j=p.val j:=h.post j (List.contains_iff_mem.1 hj) hs
theorem PreF.g {p:PlanF}{a0 a:Act}{o:Oper}(h:PreF ops p a0 o a) (j:Nat) (hj:(bindsOf o).contains j=true:=by decide +kernel) (hs:p.sn j=none:=by exact rfl):at_ ops a j=p.val j:=h.get j hj hs
def FStep (P:Program) (ops:Array Oper) (Q:Exit→Act→World→Prop) (p:PlanF) (a0:Act) (i:Nat) (o:Oper):Prop :=
 ops[i]? = some o → ∀ a,PreF ops p a0 o a →
  match p.sn i with
  | some k=>wpOp P ops Q i (fun a' w'=>a'=a∧w'=p.ws (k+1)) a (p.ws k)
  | none => ∀ k,(p.late i=true∨k=0)→wpOp P ops Q i (fun a' w'=>a'=a.put o.dst (p.val i)∧w'=p.ws k) a (p.ws k)
theorem FStep.late {p:PlanF}{a0:Act}{i:Nat}{o:Oper}(hs:p.sn i=none) (hg:o.guard=none)
  (h:∀ a,PreF ops p a0 o a → ∀ (w:World) (K:Act→World→Prop),Hid (∀ v,v=p.val i→K (a.put o.dst v) w)→Oper.wp P o a w K Q):FStep P ops Q p a0 i o:=by
 intro ho a hp;rw[hs];intro k _
 refine wpOp_step ho fun K hK=>?_
 rw[if_pos (by unfold Region.wanted;rw[hg])];exact h a hp _ K (Hd fun v e=>hK _ _ ⟨by rw[e],rfl⟩)
theorem FStep.read {p:PlanF}{a0:Act}{i:Nat}{o:Oper}(hs:p.sn i=none) (hl:p.late i=false) (hg:o.guard=none)
  (h:∀ a,PreF ops p a0 o a → ∀ (w:World) (K:Act→World→Prop),w=p.ws 0→Hid (∀ v,v=p.val i→K (a.put o.dst v) w)→Oper.wp P o a w K Q):FStep P ops Q p a0 i o:=by
 intro ho a hp;rw[hs];intro k hk
 rcases hk with hk | hk
 ·rw[hl]at hk;cases hk
 subst hk
 refine wpOp_step ho fun K hK=>?_
 rw[if_pos (by unfold Region.wanted;rw[hg])];exact h a hp _ K rfl (Hd fun v e=>hK _ _ ⟨by rw[e],rfl⟩)
theorem FStep.store {p:PlanF}{a0:Act}{i:Nat}{o:Oper}(k:Nat) (hs:p.sn i=some k) (hg:o.guard=none)
  (h:∀ a,PreF ops p a0 o a → ∀ (w:World) (K:Act→World→Prop),w=p.ws k→Hid (∀ w',w'=p.ws (k+1)→K a w')→Oper.wp P o a w K Q):FStep P ops Q p a0 i o:=by
 intro ho a hp;rw[hs]
 refine wpOp_step ho fun K hK=>?_
 rw[if_pos (by unfold Region.wanted;rw[hg])];exact h a hp _ K rfl (Hd fun v e=>hK _ _ ⟨rfl,e⟩)
theorem wp_region_fix {id:Nat}{a0:Act}{w0:World}(p:PlanF) (h0:p.ws 0=w0.drew)
  (hm:P.follows .mixedOrders=true) (hck:fixOk ops p.D p.st p.sn p.late a0.tmps.size=true)
  (hs:EachOp' (FStep P ops Q p a0) 0 ops.toList)
  (hend:∀ a w,w=p.ws p.st.length→Agree p.D a0 a→(∀ i,i<ops.size→p.sn i=none→at_ ops a i=p.val i)→Q .normal a w) :
  (Code.region id ops true).wp P Q a0 w0:=by
 simp only[fixOk,Bool.and_eq_true]at hck;obtain⟨⟨hsel,hck⟩,hst⟩:=hck
 have hall:=fun i (o:Oper) (ho:ops[i]? = some o)=>by
  have h:=List.all_eq_true.1 hck i (List.mem_range.2 (Array.getElem?_eq_some_iff.1 ho).1);simp only[ho,Bool.and_eq_true]at h;exact h
 have hedge:∀ (i:Nat) (o:Oper),ops[i]? = some o→(o.after.all fun e => !binds e || decide (e.on<i))=true:=fun i o ho=>(hall i o ho).1.2
 have hsn:∀ k i,p.st[k]? = some i→p.sn i=some k∧i<ops.size:=by
  intro k i hk;have h:=List.all_eq_true.1 hst k (List.mem_range.2 (List.getElem?_eq_some_iff.1 hk).1);simp only[hk,Bool.and_eq_true,beq_iff_eq,decide_eq_true_eq]at h;exact h
 have hstore:∀ i o k,ops[i]? = some o→p.sn i=some k→o.dst=none∧p.st[k]? = some i∧(k=0 ∨ ∃ j,p.st[k - 1]? = some j∧dep ops ops.size i j=true):=by
  intro i o k ho hk;have h:=(hall i o ho).2;rw[hk]at h;simp only[Bool.and_eq_true,Option.isNone_iff_eq_none,beq_iff_eq,Bool.or_eq_true]at h;refine⟨h.1.1,h.1.2,h.2.imp (fun z=>z) fun h2=>?_⟩
  cases hj:p.st[k - 1]? with
  | none=>rw[hj]at h2;cases h2
  | some j=>rw[hj]at h2;exact⟨j,rfl,h2⟩
 have hop:∀ i o,ops[i]? = some o→p.sn i=none→(∃ d,o.dst=some d∧d<a0.tmps.size∧d∈p.D ∧ ∀ j,j<ops.size→j≠i→(ops[j]?).bind (·.dst)≠some d)∧(p.late i=true ∨ ∀ s,p.st[0]? = some s→dep ops ops.size s i=true):=by
  intro i o ho hk;have h:=(hall i o ho).2;rw[hk]at h;simp only[Bool.and_eq_true,Bool.or_eq_true]at h;obtain⟨h2,h3⟩:=h;refine⟨?_,h3.imp (fun z=>z) fun h4=>?_⟩
  ·cases hd:o.dst with
   | none=>simp [hd]at h2
   | some d =>
    simp only[hd,Bool.and_eq_true,decide_eq_true_eq,List.contains_iff_mem,List.all_eq_true,List.mem_range,Bool.or_eq_true,beq_iff_eq,Bool.not_eq_true',beq_eq_false_iff_ne,ne_eq]at h2;refine⟨d,rfl,h2.1.1,h2.1.2,fun j hj hne=>?_⟩
    rcases h2.2 j hj with e | e
    ·exact absurd e hne
    ·exact e
  ·intro s hs0
   cases hl:p.st with
   | nil=>rw[hl]at hs0;simp at hs0
   | cons a l=>rw[hl]at hs0 h4;simp at hs0;subst hs0;exact h4
 clear hck hst hall
 have hstep:∀ i o,ops[i]? = some o→FStep P ops Q p a0 i o:=fun i o ho=>by
  have:=EachOp'.get ops.toList 0 i o hs (by rw[Array.getElem?_toList];exact ho)
  rwa [Nat.zero_add]at this
 refine wp_region_held_drew (S:=fun _=>True) hm trivial fun _=>?_
 have hfin:∀ (L:Array Bool) (a:Act) (w:World),Mf ops p a0 L a w→Region.ready .any ops L = []→Q .normal a w:=by
  intro L a w hM h0
  have hl:∀ j,j<ops.size→L.getD j false=true:=by
   intro j
   induction j using Nat.strongRecOn with
   | _ j ihj =>
    intro hj
    cases hg:L.getD j false with
    | true=>rfl
    | false =>
     have hj':j<L.size:=by rw[hM.size];exact hj
     obtain⟨oj,hoj⟩:∃ oj,ops[j]? = some oj:=⟨_,Array.getElem?_eq_getElem hj⟩
     have hall:=Array.all_eq_true_iff_forall_mem.1 (hedge j oj hoj)
     have:j∈Region.ready .any ops L:=by
      refine mem_ready.2 ⟨by simp [Array.getD,hj']at hg ⊢;exact hg,oj,hoj,fun e he hbe=>?_⟩;have h1:=hall e he;have hb':binds e=true:=hbe;rw[hb']at h1;simp only[Bool.not_true,Bool.false_or,decide_eq_true_eq]at h1;exact ihj e.on h1 (by omega)
     rw[h0]at this
     cases this
  obtain⟨k,hk,rfl,hc⟩:=hM.cnt
  have hke:k=p.st.length:=by
   refine Nat.le_antisymm hk (Nat.le_of_not_lt fun hlt=>?_)
   obtain⟨i,hi⟩:∃ i,p.st[k]? = some i:=⟨_,List.getElem?_eq_getElem hlt⟩
   exact absurd ((hc k i hi).1 (hl i (hsn k i hi).2)) (Nat.lt_irrefl _)
  rw[hke]
  exact hend a _ rfl hM.ag fun i hi hn=>hM.post i (hl i hi) hn
 have key:∀ (fuel:Nat) (L:Array Bool) (a:Act) (w:World),unl ops.size L≤fuel→Mf ops p a0 L a w→wpAnyH P .any ops Q (fun _=>True) fuel L a w:=by
  intro fuel
  induction fuel with
  | zero =>
   intro L a w hf hM
   have h0:Region.ready .any ops L = []:=by
    refine List.eq_nil_iff_forall_not_mem.2 fun i hi=>?_
    obtain⟨hin,hiL,-⟩:=ready_spec hi;have:=unl_step hin (by rw[hM.size];exact hin) hiL;omega
   exact⟨h0,hfin L a w hM h0⟩
  | succ fuel ih =>
   intro L a w hf hM;refine⟨fun h0=>hfin L a w hM h0,fun i hir=>?_⟩;obtain⟨hin,hiL,o,ho,hpre⟩:=ready_spec hir;have hun:=unl_step hin (by rw[hM.size];exact hin) hiL
   have hiL':i<L.size:=by rw[hM.size];exact hin
   have hif:L.getD i false=false:=by simp [Array.getD,hiL']at hiL ⊢;exact hiL
   have hbl:∀ j∈bindsOf o,L.getD j false=true:=by
    intro j hj;obtain⟨e,he,rfl⟩:=List.mem_map.1 hj;obtain⟨h1,h2⟩:=List.mem_filter.1 he;exact hpre e (Array.mem_def.2 h1) h2
   have hgs:=hstep i o ho ho a ⟨hM.ag,fun j hj hc=>hM.post j (hbl j hj) hc⟩
   have hdp:∀ j,dep ops ops.size i j=true→L.getD j false=true:=by
    intro j hd
    cases hsz:ops.size with
    | zero=>omega
    | succ n =>
     rw[hsz]at hd;unfold dep at hd;rw[ho]at hd;obtain⟨e,he,h2⟩:=List.any_eq_true.1 hd;obtain⟨g,hg,rfl⟩:=List.mem_map.1 he;obtain⟨g1,g2⟩:=List.mem_filter.1 hg;have hlg:=hpre g (Array.mem_def.2 g1) g2;simp only[Bool.or_eq_true,beq_iff_eq]at h2
     rcases h2 with h2 | h2
     ·rw[←h2];exact hlg
     ·exact dep_listed hM.back _ _ _ hlg h2
   have hold':∀ j,j≠i→(L.setIfInBounds i true).getD j false=true→L.getD j false=true:=fun j hj hL=>by rwa [getD_set_ne false (Ne.symm hj)]at hL
   have hself':(L.setIfInBounds i true).getD i false=true:=by simp [Array.getD,hiL']
   have hup:∀ j,L.getD j false=true→(L.setIfInBounds i true).getD j false=true:=fun j hj=>by
    by_cases e:j=i
    ·subst e;exact hself'
    ·rw[getD_set_ne false (Ne.symm e)];exact hj
   have hback:∀ j oj,(L.setIfInBounds i true).getD j false=true→ops[j]? = some oj → ∀ e∈oj.after,binds e=true→(L.setIfInBounds i true).getD e.on false=true:=by
    intro j oj hj hoj e he hb
    by_cases e1:j=i
    ·subst e1;rw[ho]at hoj;injection hoj with hoj;subst hoj;exact hup _ (hpre e he hb)
    ·exact hup _ (hM.back j oj (hold' j e1 hj) hoj e he hb)
   have hsz:(L.setIfInBounds i true).size=ops.size:=by rw[Array.size_setIfInBounds];exact hM.size
   obtain⟨k,hk,rfl,hc⟩:=hM.cnt
   cases hsi:p.sn i with
   | some k0 =>
    rw[hsi]at hgs;obtain⟨hd,hk0,hpv⟩:=hstore i o k0 ho hsi
    have h1:¬ k0<k:=fun h=>by have:=(hc k0 i hk0).2 h;rw[hif]at this;cases this
    have h2:k0≤k:=by
     rcases hpv with h | ⟨j,hj,hdj⟩
     ·omega
     ·have:=(hc (k0 - 1) j hj).1 (hdp j hdj);omega
    have hkk:k=k0:=by omega
    subst hkk;refine wpOp_mono ?_ hgs;rintro a' w' ⟨rfl,rfl⟩;refine⟨trivial,ih _ _ _ (by omega) ⟨hsz,hM.ag,fun j hj hn=>hM.post j (hold' j (fun e=>by rw[e,hsi]at hn;cases hn) hj) hn,hback,k+1,(List.getElem?_eq_some_iff.1 hk0).1,rfl,fun m j hm=>?_⟩⟩
    by_cases e:j=i
    ·subst e;have:=(hsn m j hm).1;rw[hsi]at this
     injection this with this
     subst this;exact⟨fun _=>Nat.lt_succ_self _,fun _=>hself'⟩
    ·rw[getD_set_ne false (Ne.symm e)]
     have hmk:m≠k:=fun e2=>by rw[e2,hk0]at hm;injection hm with hm;exact e hm.symm
     have:=hc m j hm
     constructor
     ·intro h;have:=this.1 h;omega
     ·intro h;exact this.2 (by omega)
   | none =>
    rw[hsi]at hgs;obtain⟨⟨d,hod,hdn,hdD,hdu⟩,hla⟩:=hop i o ho hsi
    have hdisj:∀ (v:Value) (j:Nat),j≠i→j<ops.size→at_ ops (a.put o.dst v) j=at_ ops a j:=by
     intro v j hj hjn;unfold at_
     split
     ·rename_i k hk
      rw[hod]
      exact sl_other fun e=>hdu j hjn hj (by rw[hk,e])
     ·rfl
    have hself:∀ v,at_ ops (a.put o.dst v) i=v:=fun v=>by
     unfold at_;rw[ho,Option.bind_some,hod];exact sl_same (by rw[hM.ag.size];exact hdn)
    have hk0:p.late i=true∨k=0:=by
     rcases hla with h | h
     ·exact .inl h
     ·refine .inr (Nat.eq_zero_of_not_pos fun hpos=>?_)
      obtain⟨s,hs0⟩:∃ s,p.st[0]? = some s:=⟨_,List.getElem?_eq_getElem (by omega)⟩
      have:=dep_listed hM.back _ _ _ ((hc 0 s hs0).2 hpos) (h s hs0);rw[hif]at this;cases this
    refine wpOp_mono ?_ (hgs k hk0);rintro a' w' ⟨rfl,rfl⟩;refine⟨trivial,ih _ _ _ (by omega) ⟨hsz,hM.ag.put (fun k hk=>by rw[hod]at hk;injection hk with hk;subst hk;exact hdD),fun j hj hn=>?_,hback,k,hk,rfl,fun m j hm=>?_⟩⟩
    ·by_cases e:j=i
     ·subst e;exact hself _
     ·have hjL:=hold' j e hj
      have hjn:j<ops.size:=by
       rcases Nat.lt_or_ge j L.size with g | g
       ·rw[←hM.size];exact g
       ·simp [Array.getD,Nat.not_lt.2 g]at hjL
      rw[hdisj _ j e hjn];exact hM.post j hjL hn
    ·have e:j≠i:=fun e=>by have:=(hsn m j hm).1;rw[e,hsi]at this;cases this
     rw[getD_set_ne false (Ne.symm e)];exact hc m j hm
 refine key _ _ _ _ ?_ ⟨by simp,Agree.refl _ _,fun i h=>by simp [Array.getD]at h,fun i o h=>by simp [Array.getD]at h,0,Nat.zero_le _,h0.symm,fun m i h=>⟨fun hh=>by simp [Array.getD]at hh,fun hh=>absurd hh (Nat.not_lt_zero _)⟩⟩;unfold unl;exact Nat.le_trans (List.countP_le_length) (by simp)
end
end Go.Proofs.YtfofjalebhajhaaGreatDoor
