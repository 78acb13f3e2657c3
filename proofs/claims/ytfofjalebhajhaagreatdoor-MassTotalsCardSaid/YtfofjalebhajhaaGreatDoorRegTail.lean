/- A law for regions that draw their order and end with a tail of operations behind all others: what each other operation leaves is said once, as a thing that memory's growth keeps. -/
import Derived.Test.YtfofjalebhajhaaGreatDoorPartG
namespace Go.Proofs.YtfofjalebhajhaaGreatDoor
open Go Go.RowKit
structure Sx where
 holds:Value→World→Prop
 mono:∀ v w w',holds v w→Ext w w'→holds v w'
def Sx.val (u:Value):Sx:=⟨fun v _=>v=u,fun _ _ _ h _=>h⟩
def tailCk (ops:Array Oper) (D T:List Nat) (n:Nat):Bool :=
 Region.noSelect ops && ((List.range ops.size).all fun i=>match ops[i]? with
  | none=>false
  | some o=>(o.after.all fun e => !binds e || decide (e.on<i)) && (T.contains i || ((match o.dst with
    | none=>false
    | some d=>decide (d<n) && D.contains d && (List.range ops.size).all fun j=>j == i || T.contains j || !((ops[j]?).bind (·.dst) == some d)) && T.all fun t=>dep ops ops.size t i))) &&
 T.all (fun t=>decide (t<ops.size)) && (List.range T.length).all fun m=>(List.range m).all fun k=>match T[m]?,T[k]? with | some x,some y=>dep ops ops.size x y && !(x == y) | _,_=>false
section
variable {P:Program}{ops:Array Oper}{Q:Exit→Act→World→Prop}
def seqTail (P:Program) (ops:Array Oper) (Q:Exit→Act→World→Prop):List Nat→Act→World→Prop
 | [],a,w=>Q .normal a w
 | i :: l,a,w=>wpOp P ops Q i (fun a' w'=>seqTail P ops Q l a' w') a w
structure PreX (ops:Array Oper) (D T:List Nat) (sp:Nat→Sx) (a0:Act) (w0:World) (o:Oper) (a:Act) (w:World):Prop where
 ag:Agree D a0 a
 ext:Ext w0 w
 post:∀ j∈bindsOf o,T.contains j=false→(sp j).holds (at_ ops a j) w
theorem PreX.slot {D T:List Nat}{sp:Nat→Sx}{a0 a:Act}{w0 w:World}{o:Oper}(h:PreX ops D T sp a0 w0 o a w) (k:Nat){v:Value}(hk:D.contains k=false) (hv:sl a0 k=v):a.tmps[k]?.getD undef=v :=
 slot_of' h.ag (by intro hm;rw[List.contains_iff_mem.2 hm]at hk;cases hk) hv
theorem PreX.get {D T:List Nat}{sp:Nat→Sx}{a0 a:Act}{w0 w:World}{o:Oper}(h:PreX ops D T sp a0 w0 o a w) (j:Nat) (hj:(bindsOf o).contains j=true) (hs:T.contains j=false):(sp j).holds (at_ ops a j) w:=h.post j (List.contains_iff_mem.1 hj) hs
theorem PreX.g {D T:List Nat}{sp:Nat→Sx}{a0 a:Act}{w0 w:World}{o:Oper}(h:PreX ops D T sp a0 w0 o a w) (j:Nat) (hj:(bindsOf o).contains j=true:=by decide +kernel) (hs:T.contains j=false:=by exact rfl):(sp j).holds (at_ ops a j) w:=h.get j hj hs
def XStep (P:Program) (ops:Array Oper) (Q:Exit→Act→World→Prop) (D T:List Nat) (sp:Nat→Sx) (a0:Act) (w0:World) (i:Nat) (o:Oper):Prop :=
 ops[i]? = some o→T.contains i=true ∨ ∀ a w,PreX ops D T sp a0 w0 o a w→wpOp P ops Q i (fun a' w' => ∃ v,a'=a.put o.dst v∧(sp i).holds v w'∧Ext w w') a w
theorem XStep.op {D T:List Nat}{sp:Nat→Sx}{a0:Act}{w0:World}{i:Nat}{o:Oper}(hg:o.guard=none)
  (h:∀ a w,PreX ops D T sp a0 w0 o a w → ∀ (K:Act→World→Prop),Hid (∀ v w',(sp i).holds v w'→Ext w w'→K (a.put o.dst v) w')→Oper.wp P o a w K Q):XStep P ops Q D T sp a0 w0 i o:=by
 intro ho
 refine .inr fun a w hp=>wpOp_step ho fun K hK=>?_
 rw[if_pos (by unfold Region.wanted;rw[hg])];exact h a w hp K (Hd fun v w' h1 h2=>hK _ _ ⟨v,rfl,h1,h2⟩)
theorem XStep.yes {D T:List Nat}{sp:Nat→Sx}{a0:Act}{w0:World}{i:Nat}{o:Oper}(g:Nat) (b:Bool) (hg:o.guard=some (g,b)) (hgp:(bindsOf o).contains g=true) (hgt:T.contains g=false) (hgv:sp g=Sx.val (.bool b))
  (h:∀ a w,PreX ops D T sp a0 w0 o a w → ∀ (K:Act→World→Prop),Hid (∀ v w',(sp i).holds v w'→Ext w w'→K (a.put o.dst v) w')→Oper.wp P o a w K Q):XStep P ops Q D T sp a0 w0 i o:=by
 intro ho
 refine .inr fun a w hp=>wpOp_step ho fun K hK=>?_
 have hy:=hp.get g hgp hgt;rw[hgv]at hy;have hy':=yielded_at hy;rw[if_pos (by unfold Region.wanted;rw[hg];simp [hy'])];exact h a w hp K (Hd fun v w' h1 h2=>hK _ _ ⟨v,rfl,h1,h2⟩)
theorem XStep.no {D T:List Nat}{sp:Nat→Sx}{a0:Act}{w0:World}{i:Nat}{o:Oper}(g:Nat) (b:Bool) (hg:o.guard=some (g,b)) (hgp:(bindsOf o).contains g=true) (hgt:T.contains g=false) (hgv:sp g=Sx.val (.bool (!b))∨sp g=Sx.val undef)
  (hs:sp i=Sx.val undef):XStep P ops Q D T sp a0 w0 i o:=by
 intro ho
 refine .inr fun a w hp=>wpOp_step ho fun K hK=>?_
 have hy:=hp.get g hgp hgt
 have hn:yielded ops a.tmps g≠some b:=by
  rcases hgv with hgv | hgv
  ·rw[hgv]at hy;rw[yielded_at hy]
   cases b <;> simp
  ·rw[hgv]at hy;have hy:at_ ops a g=undef:=hy;unfold at_ at hy;unfold yielded
   cases hd:(ops[g]?).bind (·.dst) with
   | none=>simp
   | some d =>
    rw[hd]at hy;simp only[sl,Array.getD_eq_getD_getElem?]at hy
    cases hg':a.tmps[d]? with
    | none=>simp [hg']
    | some v =>
     rw[hg']at hy;simp only[Option.getD_some]at hy;subst hy;simp [hg',undef]
 rw[if_neg (by unfold Region.wanted;rw[hg];simp [hn])];exact hK _ _ ⟨undef,rfl,by rw[hs];rfl,Ext.refl _⟩
theorem seqTail.op {i:Nat}{l:List Nat}{a:Act}{w:World}{o:Oper}(ho:ops[i]? = some o) (hg:o.guard=none)
  (h:∀ K:Act→World→Prop,Hid (∀ a' w',seqTail P ops Q l a' w'→K a' w')→Oper.wp P o a w K Q):seqTail P ops Q (i :: l) a w:=by
 refine wpOp_step ho fun K hK=>?_
 rw[if_pos (by unfold Region.wanted;rw[hg])];exact h K (Hd fun a' w' h1=>hK _ _ h1)
structure Mx (ops:Array Oper) (D T:List Nat) (sp:Nat→Sx) (a0:Act) (w0:World) (L:Array Bool) (a:Act) (w:World):Prop where
 size:L.size=ops.size
 tl:∀ t∈T,L.getD t false=false
 ag:Agree D a0 a
 ext:Ext w0 w
 post:∀ i,L.getD i false=true→(sp i).holds (at_ ops a i) w
 back:∀ i o,L.getD i false=true→ops[i]? = some o → ∀ e∈o.after,binds e=true→L.getD e.on false=true
theorem wp_region_tail {id:Nat}{a0:Act}{w0:World}(D T:List Nat) (sp:Nat→Sx)
  (hm:P.follows .mixedOrders=true) (hck:tailCk ops D T a0.tmps.size=true)
  (hs:EachOp' (XStep P ops Q D T sp a0 w0) 0 ops.toList)
  (htail:∀ a w,Agree D a0 a→Ext w0 w→(∀ i,i<ops.size→T.contains i=false→(sp i).holds (at_ ops a i) w)→seqTail P ops Q T a w) :
  (Code.region id ops true).wp P Q a0 w0:=by
 simp only[tailCk,Bool.and_eq_true]at hck;obtain⟨⟨⟨hsel,hck⟩,hTlt⟩,hTT⟩:=hck
 have hall:=fun i (o:Oper) (ho:ops[i]? = some o)=>by
  have h:=List.all_eq_true.1 hck i (List.mem_range.2 (Array.getElem?_eq_some_iff.1 ho).1);simp only[ho,Bool.and_eq_true]at h;exact h
 have hedge:∀ (i:Nat) (o:Oper),ops[i]? = some o→(o.after.all fun e => !binds e || decide (e.on<i))=true:=fun i o ho=>(hall i o ho).1
 have hop:∀ i o,ops[i]? = some o→T.contains i=false→(∃ d,o.dst=some d∧d<a0.tmps.size∧d∈D ∧ ∀ j,j<ops.size→j≠i→T.contains j=false→(ops[j]?).bind (·.dst)≠some d) ∧ ∀ t∈T,dep ops ops.size t i=true:=by
  intro i o ho ht;have h:=(hall i o ho).2;rw[ht,Bool.false_or,Bool.and_eq_true]at h;refine⟨?_,fun t htm=>List.all_eq_true.1 h.2 t htm⟩;have h2:=h.1
  cases hd:o.dst with
  | none=>simp [hd]at h2
  | some d =>
   simp only[hd,Bool.and_eq_true,decide_eq_true_eq,List.contains_iff_mem,List.all_eq_true,List.mem_range,Bool.or_eq_true,beq_iff_eq,Bool.not_eq_true',beq_eq_false_iff_ne,ne_eq]at h2;refine⟨d,rfl,h2.1.1,h2.1.2,fun j hj hne hT=>?_⟩
   rcases h2.2 j hj with (e | e) | e
   ·exact absurd e hne
   ·rw[List.contains_iff_mem.2 e]at hT;cases hT
   ·exact e
 have hTT':∀ (m k x y:Nat),T[m]? = some x→T[k]? = some y→k<m→dep ops ops.size x y=true∧x≠y:=by
  intro m k x y hx hy hkm;have h:=List.all_eq_true.1 (List.all_eq_true.1 hTT m (List.mem_range.2 (List.getElem?_eq_some_iff.1 hx).1)) k (List.mem_range.2 hkm);simp only[hx,hy,Bool.and_eq_true,Bool.not_eq_true',beq_eq_false_iff_ne,ne_eq]at h;exact h
 have hTl:∀ t∈T,t<ops.size:=fun t ht=>by simpa using List.all_eq_true.1 hTlt t ht
 clear hck hTT hTlt hall
 have hstep:∀ i o,ops[i]? = some o→XStep P ops Q D T sp a0 w0 i o:=fun i o ho=>by
  have:=EachOp'.get ops.toList 0 i o hs (by rw[Array.getElem?_toList];exact ho)
  rwa [Nat.zero_add]at this
 refine wp_region_held_drew (S:=fun _=>True) hm trivial fun _=>?_
 have hno:∀ (L:Array Bool),L.size=ops.size→Region.ready .any ops L = [] → ∀ j,j<ops.size→L.getD j false=true:=by
  intro L hL h0 j
  induction j using Nat.strongRecOn with
  | _ j ihj =>
   intro hj
   cases hg:L.getD j false with
   | true=>rfl
   | false =>
    have hj':j<L.size:=by rw[hL];exact hj
    obtain⟨oj,hoj⟩:∃ oj,ops[j]? = some oj:=⟨_,Array.getElem?_eq_getElem hj⟩
    have hall:=Array.all_eq_true_iff_forall_mem.1 (hedge j oj hoj)
    have:j∈Region.ready .any ops L:=by
     refine mem_ready.2 ⟨by simp [Array.getD,hj']at hg ⊢;exact hg,oj,hoj,fun e he hbe=>?_⟩;have h1:=hall e he;have hb':binds e=true:=hbe;rw[hb']at h1;simp only[Bool.not_true,Bool.false_or,decide_eq_true_eq]at h1;exact ihj e.on h1 (by omega)
    rw[h0]at this
    cases this
 have hrd:∀ (L:Array Bool) (i:Nat),(∀ i o,L.getD i false=true→ops[i]? = some o → ∀ e∈o.after,binds e=true→L.getD e.on false=true)→i∈Region.ready .any ops L → ∀ j,dep ops ops.size i j=true→L.getD j false=true:=by
  intro L i hb hir j hd;obtain⟨hin,hiL,o,ho,hpre⟩:=ready_spec hir
  cases hsz:ops.size with
  | zero=>omega
  | succ n =>
   rw[hsz]at hd;unfold dep at hd;rw[ho]at hd;obtain⟨e,he,h2⟩:=List.any_eq_true.1 hd;obtain⟨g,hg,rfl⟩:=List.mem_map.1 he;obtain⟨g1,g2⟩:=List.mem_filter.1 hg;have hlg:=hpre g (Array.mem_def.2 g1) g2;simp only[Bool.or_eq_true,beq_iff_eq]at h2
   rcases h2 with h2 | h2
   ·rw[←h2];exact hlg
   ·exact dep_listed hb _ _ _ hlg h2
 have hbk:∀ (L:Array Bool) (i:Nat),L.size=ops.size→(∀ i o,L.getD i false=true→ops[i]? = some o → ∀ e∈o.after,binds e=true→L.getD e.on false=true)→i∈Region.ready .any ops L →
   (∀ j o,(L.setIfInBounds i true).getD j false=true→ops[j]? = some o → ∀ e∈o.after,binds e=true→(L.setIfInBounds i true).getD e.on false=true):=by
  intro L i hL hb hir j oj hj hoj e he hbe;obtain⟨hin,hiL,o,ho,hpre⟩:=ready_spec hir
  have hiL':i<L.size:=by rw[hL];exact hin
  have hup:∀ j,L.getD j false=true→(L.setIfInBounds i true).getD j false=true:=fun j hj=>by
   by_cases e:j=i
   ·subst e;simp [Array.getD,hiL']
   ·rw[getD_set_ne false (Ne.symm e)];exact hj
  by_cases e1:j=i
  ·subst e1;rw[ho]at hoj;injection hoj with hoj;subst hoj;exact hup _ (hpre e he hbe)
  ·rw[getD_set_ne false (Ne.symm e1)]at hj;exact hup _ (hb j oj hj hoj e he hbe)
 have ht2:∀ (l:List Nat) (k:Nat) (L:Array Bool) (a:Act) (w:World) (fuel:Nat),T.drop k=l→unl ops.size L≤fuel→L.size=ops.size→(∀ i o,L.getD i false=true→ops[i]? = some o → ∀ e∈o.after,binds e=true→L.getD e.on false=true) →
   (∀ i,i<ops.size→T.contains i=false→L.getD i false=true)→(∀ m t,T[m]? = some t→(L.getD t false=true↔m<k))→seqTail P ops Q l a w→wpAnyH P .any ops Q (fun _=>True) fuel L a w:=by
  intro l
  induction l with
  | nil =>
   intro k L a w fuel hk hf hL hb hn hc hsq;have hkl:T.length≤k:=List.drop_eq_nil_iff.1 hk
   have h0:Region.ready .any ops L = []:=by
    refine List.eq_nil_iff_forall_not_mem.2 fun i hi=>?_
    obtain⟨hin,hiL,-⟩:=ready_spec hi
    have hiL':i<L.size:=by rw[hL];exact hin
    have:L.getD i false=true:=by
     cases ht:T.contains i with
     | false=>exact hn i hin ht
     | true =>
      obtain⟨m,hm⟩:=List.getElem?_of_mem (List.contains_iff_mem.1 ht);exact (hc m i hm).2 (Nat.lt_of_lt_of_le (List.getElem?_eq_some_iff.1 hm).1 hkl)
    simp [Array.getD,hiL']at hiL this;rw[hiL]at this;cases this
   cases fuel with
   | zero=>exact⟨h0,hsq⟩
   | succ n=>exact⟨fun _=>hsq,fun i hi=>by rw[h0]at hi;cases hi⟩
  | cons t l ih =>
   intro k L a w fuel hk hf hL hb hn hc hsq
   have htk:T[k]? = some t:=by rw[←List.head?_drop,hk];rfl
   have hkl:T.drop (k+1)=l:=by rw[←List.tail_drop,hk];rfl
   have htn:=hTl t (List.mem_of_getElem? htk)
   have htL':t<L.size:=by rw[hL];exact htn
   have htf:¬ L.getD t false=true:=fun h=>Nat.lt_irrefl _ ((hc k t htk).1 h)
   have htf':L.getD t true=false:=by simp [Array.getD,htL']at htf ⊢;exact htf
   have hun:=unl_step htn htL' htf'
   cases fuel with
   | zero=>omega
   | succ n =>
    refine⟨fun h0=>absurd (hno L hL h0 t htn) htf,fun i hir=>?_⟩;obtain⟨hin,hiL,o,ho,hpre⟩:=ready_spec hir
    have hiL':i<L.size:=by rw[hL];exact hin
    have hif:¬ L.getD i false=true:=fun h=>by simp [Array.getD,hiL']at hiL h;rw[hiL]at h;cases h
    have hit:i=t:=by
     cases ht:T.contains i with
     | false=>exact absurd (hn i hin ht) hif
     | true =>
      obtain⟨m,hm⟩:=List.getElem?_of_mem (List.contains_iff_mem.1 ht)
      have hmk:¬ m<k:=fun h=>hif ((hc m i hm).2 h)
      rcases Nat.lt_or_eq_of_le (Nat.le_of_not_lt hmk) with h | h
      ·exact absurd (hrd L i hb hir t (hTT' m k i t hm htk h).1) htf
      ·subst h;rw[htk]at hm;injection hm with hm;exact hm.symm
    subst hit;refine wpOp_mono ?_ hsq;intro a' w' hsq';refine⟨trivial,ih (k+1) _ a' w' n hkl (by omega) (by rw[Array.size_setIfInBounds];exact hL) (hbk L i hL hb hir) (fun j hj hT=>?_) (fun m x hx=>?_) hsq'⟩
    ·by_cases e:j=i
     ·subst e;simp [Array.getD,hiL']
     ·rw[getD_set_ne false (Ne.symm e)];exact hn j hj hT
    ·by_cases e:x=i
     ·subst e
      have hmk:m=k:=by
       rcases Nat.lt_trichotomy m k with h | h | h
       ·exact absurd rfl (hTT' k m x x htk hx h).2
       ·exact h
       ·exact absurd rfl (hTT' m k x x hx htk h).2
      subst hmk;exact⟨fun _=>Nat.lt_succ_self _,fun _=>by simp [Array.getD,hiL']⟩
     ·rw[getD_set_ne false (Ne.symm e)]
      have hmk:m≠k:=fun e2=>by rw[e2,htk]at hx;injection hx with hx;exact e hx.symm
      have:=hc m x hx
      constructor
      ·intro h;have:=this.1 h;omega
      ·intro h;exact this.2 (by omega)
 have key:∀ (fuel:Nat) (L:Array Bool) (a:Act) (w:World),unl ops.size L≤fuel→Mx ops D T sp a0 w0 L a w→wpAnyH P .any ops Q (fun _=>True) fuel L a w:=by
  intro fuel
  induction fuel with
  | zero =>
   intro L a w hf hM
   have hl:∀ i,i<ops.size→L.getD i false=true:=fun i hi=>by
    cases hg:L.getD i false with
    | true=>rfl
    | false =>
     have hiL':i<L.size:=by rw[hM.size];exact hi
     have:=unl_step hi hiL' (by simp [Array.getD,hiL']at hg ⊢;exact hg);omega
   have hTe:T = []:=by
    cases hT:T with
    | nil=>rfl
    | cons t l =>
     have h1:=hM.tl t (by rw[hT];exact List.mem_cons_self ..);rw[hl t (hTl t (by rw[hT];exact List.mem_cons_self ..))]at h1
     cases h1
   subst hTe;exact ht2 [] 0 L a w 0 rfl hf hM.size hM.back (fun i hi _=>hl i hi) (fun m t h=>by simp at h) (htail a w hM.ag hM.ext fun i hi _=>hM.post i (hl i hi))
  | succ fuel ih =>
   intro L a w hf hM
   by_cases hrt:(∃ t∈T,t∈Region.ready .any ops L)∨Region.ready .any ops L = []
   ·have hl:∀ i,i<ops.size→T.contains i=false→L.getD i false=true:=fun i hi hT=>by
     rcases hrt with⟨t,ht,hr⟩ | h0
     ·exact hrd L t hM.back hr i ((hop i _ (Array.getElem?_eq_getElem hi) hT).2 t ht)
     ·exact hno L hM.size h0 i hi
    exact ht2 T 0 L a w (fuel+1) rfl hf hM.size hM.back hl (fun m t h=>⟨fun h1=>(by rw[hM.tl t (List.mem_of_getElem? h)]at h1;cases h1),fun h1=>absurd h1 (Nat.not_lt_zero _)⟩) (htail a w hM.ag hM.ext fun i hi hT=>hM.post i (hl i hi hT))
   ·refine⟨fun h0=>absurd (.inr h0) hrt,fun i hir=>?_⟩;obtain⟨hin,hiL,o,ho,hpre⟩:=ready_spec hir
    have hiL':i<L.size:=by rw[hM.size];exact hin
    have hun:=unl_step hin hiL' hiL
    have hiT:T.contains i=false:=by
     cases ht:T.contains i with
     | false=>rfl
     | true=>exact absurd (.inl ⟨i,List.contains_iff_mem.1 ht,hir⟩) hrt
    obtain⟨⟨d,hod,hdn,hdD,hdu⟩,-⟩:=hop i o ho hiT
    have hold':∀ j,j≠i→(L.setIfInBounds i true).getD j false=true→L.getD j false=true:=fun j hj hL=>by rwa [getD_set_ne false (Ne.symm hj)]at hL
    rcases hstep i o ho ho with h | hgs
    ·rw[h]at hiT;cases hiT
    refine wpOp_mono ?_ (hgs a w ⟨hM.ag,hM.ext,fun j hj _=>by
     obtain⟨e,he,rfl⟩:=List.mem_map.1 hj;obtain⟨h1,h2⟩:=List.mem_filter.1 he
     exact hM.post _ (hpre e (Array.mem_def.2 h1) h2)⟩)
    rintro a' w' ⟨v,rfl,hv,hx⟩;refine⟨trivial,ih _ _ _ (by omega) ⟨by rw[Array.size_setIfInBounds];exact hM.size,fun t ht=>?_,hM.ag.put (fun k hk=>by rw[hod]at hk;injection hk with hk;subst hk;exact hdD),hM.ext.trans hx,fun j hj=>?_,hbk L i hM.size hM.back hir⟩⟩
    ·rw[getD_set_ne false (fun e=>by rw[e,List.contains_iff_mem.2 ht]at hiT;cases hiT)];exact hM.tl t ht
    ·by_cases e:j=i
     ·subst e
      have:at_ ops (a.put o.dst v) j=v:=by
       unfold at_;rw[ho,Option.bind_some,hod];exact sl_same (by rw[hM.ag.size];exact hdn)
      rw[this];exact hv
     ·have hjL:=hold' j e hj
      have hjn:j<ops.size:=by
       rcases Nat.lt_or_ge j L.size with g | g
       ·rw[←hM.size];exact g
       ·simp [Array.getD,Nat.not_lt.2 g]at hjL
      have hjT:T.contains j=false:=by
       cases ht:T.contains j with
       | false=>rfl
       | true=>rw[hM.tl j (List.contains_iff_mem.1 ht)]at hjL;cases hjL
      have:at_ ops (a.put o.dst v) j=at_ ops a j:=by
       unfold at_
       split
       ·rename_i k hk
        rw[hod]
        exact sl_other fun e2=>hdu j hjn e hjT (by rw[hk,e2])
       ·rfl
      rw[this];exact (sp j).mono _ _ _ (hM.post j hjL) hx
 refine key _ _ _ _ ?_ ⟨by simp,fun t ht=>by simp [Array.getD],Agree.refl _ _,eR.drew,fun i h=>by simp [Array.getD]at h,fun i o h=>by simp [Array.getD]at h⟩;unfold unl;exact Nat.le_trans (List.countP_le_length) (by simp)
end
end Go.Proofs.YtfofjalebhajhaaGreatDoor
