/- Masses: plain facts. -/
import Derived.Test.YtfofjalebhajhaaGreatDoorVal4
namespace Go.Proofs.YtfofjalebhajhaaGreatDoor
open Go Go.RowKit
abbrev Pt:=VT × Rat
def sumW (W:VT→Rat):List Pt→Rat
 | []=>0
 | a :: l=>W a.1*a.2+sumW W l
theorem sumW_app (W:VT→Rat):∀ l m:List Pt,sumW W (l ++ m)=sumW W l+sumW W m
 | [],m=>by simp [sumW,Rat.zero_add]
 | a :: l,m=>by have:=sumW_app W l m;simp only[List.cons_append,sumW];grind
theorem sumW_perm {W:VT→Rat}{l m:List Pt}(h:l.Perm m):sumW W l=sumW W m:=by
 induction h with
 | nil=>rfl
 | cons x _ ih=>simp only[sumW,ih]
 | swap x y l=>simp only[sumW];grind
 | trans _ _ h1 h2=>exact h1.trans h2
def Cls (W:VT→Rat):Prop:=∀ a b,cmpV a b=0→W a=W b
def isV (v:VT):VT→Rat:=fun u=>if cmpV u v=0 then 1 else 0
def oneV:VT→Rat:=fun _=>1
theorem cls_one:Cls oneV:=fun _ _ _=>rfl
theorem cls_isV (v:VT):Cls (isV v):=fun a b h=>by unfold isV;rw[cmpV_congr h v]
def atV (M:List Pt) (v:VT):Rat:=sumW (isV v) M
def totV (M:List Pt):Rat:=sumW oneV M
theorem totV_cons (a:Pt) (l:List Pt):totV (a :: l)=a.2+totV l:=by simp only[totV,sumW,oneV];grind
theorem totV_app (l m:List Pt):totV (l ++ m)=totV l+totV m:=sumW_app _ _ _
theorem atV_congr {u v:VT}(h:cmpV u v=0) (M:List Pt):atV M u=atV M v:=by
 unfold atV
 congr 1
 funext x
 unfold isV;rw[cmpV_congr' h x]
def mstep (out:List Pt) (s:Pt):List Pt:=match out.getLast? with
 | some a=>if cmpV a.1 s.1=0 then out.dropLast ++ [(a.1,a.2+s.2)] else out ++ [s]
 | none => [s]
theorem mstep_nil (s:Pt):mstep [] s = [s]:=rfl
theorem mstep_eq (l:List Pt) (a s:Pt) (h:cmpV a.1 s.1=0):mstep (l ++ [a]) s=l ++ [(a.1,a.2+s.2)]:=by
 unfold mstep;simp [h]
theorem mstep_ne (l:List Pt) (a s:Pt) (h:cmpV a.1 s.1≠0):mstep (l ++ [a]) s=l ++ [a] ++ [s]:=by
 unfold mstep;simp [h]
def mergeP (l:List Pt):List Pt:=l.foldl mstep []
theorem mergeP_snoc (l:List Pt) (s:Pt):mergeP (l ++ [s])=mstep (mergeP l) s:=by unfold mergeP;rw[List.foldl_append];rfl
theorem snoc_cases {α:Type}(l:List α):l = [] ∨ ∃ m a,l=m ++ [a]:=by
 rcases List.eq_nil_or_concat l with h | ⟨m,a,h⟩
 ·exact .inl h
 ·exact .inr ⟨m,a,by rw[h];simp⟩
theorem snoc_ind {α:Type}{P:List α → Prop}(h0:P []) (h1:∀ l a,P l→P (l ++ [a])) (l:List α):P l:=by
 have:∀ l:List α,P l.reverse:=fun l=>by
  induction l with
  | nil=>exact h0
  | cons a l ih=>rw[List.reverse_cons];exact h1 _ _ ih
 have h:=this l.reverse
 rwa [List.reverse_reverse]at h
theorem mstep_sum {W:VT→Rat}(hW:Cls W) (out:List Pt) (s:Pt):sumW W (mstep out s)=sumW W out+W s.1*s.2:=by
 rcases snoc_cases out with rfl | ⟨m,a,rfl⟩
 ·rw[mstep_nil];simp only[sumW];grind
 ·by_cases h:cmpV a.1 s.1=0
  ·rw[mstep_eq _ _ _ h,sumW_app,sumW_app];have:=hW _ _ h;simp only[sumW];grind
  ·rw[mstep_ne _ _ _ h,sumW_app];simp only[sumW];grind
theorem mergeP_sum {W:VT→Rat}(hW:Cls W) (l:List Pt):sumW W (mergeP l)=sumW W l:=by
 induction l using snoc_ind with
 | h0=>rfl
 | h1 l a ih=>rw[mergeP_snoc,mstep_sum hW,ih,sumW_app];simp only[sumW];grind
theorem mstep_len (out:List Pt) (s:Pt):(mstep out s).length≤out.length+1:=by
 rcases snoc_cases out with rfl | ⟨m,a,rfl⟩
 ·rw[mstep_nil];simp
 ·by_cases h:cmpV a.1 s.1=0
  ·rw[mstep_eq _ _ _ h];simp
  ·rw[mstep_ne _ _ _ h];simp
theorem mergeP_len (l:List Pt):(mergeP l).length≤l.length:=by
 induction l using snoc_ind with
 | h0=>exact Nat.le_refl _
 | h1 l a ih=>rw[mergeP_snoc,List.length_append];have:=mstep_len (mergeP l) a;simp;omega
theorem mergeP_mem (l:List Pt):∀ a∈mergeP l,∃ q,(a.1,q)∈l:=by
 induction l using snoc_ind with
 | h0=>intro a h;cases h
 | h1 l s ih =>
  intro a h;rw[mergeP_snoc]at h
  have key:a∈mergeP l∨a=s ∨ ∃ b∈mergeP l,a.1=b.1:=by
   rcases snoc_cases (mergeP l) with e | ⟨m,b,e⟩
   ·rw[e,mstep_nil]at h;simp at h;exact .inr (.inl h)
   ·rw[e]at h ⊢
    by_cases hc:cmpV b.1 s.1=0
    ·rw[mstep_eq _ _ _ hc]at h
     rcases List.mem_append.1 h with h | h
     ·exact .inl (List.mem_append_left _ h)
     ·simp at h;exact .inr (.inr ⟨b,by simp,by rw[h]⟩)
    ·rw[mstep_ne _ _ _ hc]at h
     rcases List.mem_append.1 h with h | h
     ·exact .inl h
     ·simp at h;exact .inr (.inl h)
  rcases key with h | h | ⟨b,hb,e⟩
  ·obtain⟨q,hq⟩:=ih a h;exact⟨q,List.mem_append_left _ hq⟩
  ·subst h;exact⟨a.2,by simp⟩
  ·obtain⟨q,hq⟩:=ih b hb;exact⟨q,List.mem_append_left _ (e ▸ hq)⟩
def SrtP (l:List Pt):Prop:=l.Pairwise fun a b=>cmpV a.1 b.1≤0
def StrP (l:List Pt):Prop:=l.Pairwise fun a b=>cmpV a.1 b.1<0
theorem cmp_lt_le {a b c:VT}(h:cmpV a b<0) (g:cmpV b c≤0):cmpV a c<0:=(cmpV_trans a b c (by omega) g).2.1 (.inl h)
theorem mergeP_str (l:List Pt) (h:SrtP l):StrP (mergeP l):=by
 induction l using snoc_ind with
 | h0=>exact List.Pairwise.nil
 | h1 l s ih =>
  unfold SrtP at h;rw[List.pairwise_append]at h;have ih:=ih h.1;rw[mergeP_snoc]
  have hs:∀ a∈mergeP l,cmpV a.1 s.1≤0:=fun a ha=>by
   obtain⟨q,hq⟩:=mergeP_mem l a ha;exact h.2.2 (a.1,q) hq s (by simp)
  rcases snoc_cases (mergeP l) with e | ⟨m,b,e⟩
  ·rw[e,mstep_nil];exact List.pairwise_singleton _ _
  ·rw[e]at ih hs ⊢;unfold StrP at ih ⊢;rw[List.pairwise_append]at ih
   by_cases hc:cmpV b.1 s.1=0
   ·rw[mstep_eq _ _ _ hc,List.pairwise_append];refine⟨ih.1,List.pairwise_singleton _ _,fun a ha c hc=>?_⟩
    simp at hc;subst hc
    exact ih.2.2 a ha b (by simp)
   ·rw[mstep_ne _ _ _ hc,List.pairwise_append,List.pairwise_append];refine⟨ih,List.pairwise_singleton _ _,fun a ha c hc2=>?_⟩;simp only[List.mem_singleton]at hc2;subst hc2
    have hb:cmpV b.1 c.1<0:=by have:=hs b (by simp);omega
    rcases List.mem_append.1 ha with ha | ha
    ·exact cmp_lt_le (ih.2.2 a ha b (by simp)) (by omega)
    ·simp at ha;subst ha;exact hb
theorem atV_none {M:List Pt}{v:VT}(h:∀ a∈M,cmpV a.1 v≠0):atV M v=0:=by
 induction M with
 | nil=>rfl
 | cons a M ih =>
  have h1:=h a (by simp)
  have h2:=ih fun b hb=>h b (by simp [hb])
  unfold atV at h2 ⊢;rw[sumW,h2,isV,if_neg h1]
  grind
theorem atV_one {M:List Pt}(h:StrP M){a:Pt}(ha:a∈M):atV M a.1=a.2:=by
 induction M with
 | nil=>cases ha
 | cons b M ih =>
  unfold StrP at h;rw[List.pairwise_cons]at h
  rcases List.mem_cons.1 ha with rfl | ha
  ·have h2:atV M a.1=0:=atV_none fun c hc=>by have:=h.1 c hc;have e:=cmpV_swap a.1 c.1;omega
   unfold atV at h2 ⊢;rw[sumW,h2,isV,if_pos (cmpV_refl _)]
   grind
  ·have h1:=h.1 a ha;have h2:=ih h.2 ha;unfold atV at h2 ⊢;rw[sumW,h2,isV,if_neg (by omega)]
   grind
def Gath (M out:List Pt):Prop:=∃ S,S.Perm M∧SrtP S∧(M.length≤20→SrtP M→S=M)∧out=(mergeP S).filter fun a=>decide (0<a.2)
theorem Gath.str {M out:List Pt}(h:Gath M out):StrP out:=by
 obtain⟨S,-,h2,-,rfl⟩:=h;exact (mergeP_str S h2).filter _
theorem Gath.pos {M out:List Pt}(h:Gath M out){a:Pt}(ha:a∈out):0<a.2:=by
 obtain⟨S,-,h2,-,rfl⟩:=h;have:=(List.mem_filter.1 ha).2
 simpa using this
theorem Gath.at {M out:List Pt}(h:Gath M out){a:Pt}(ha:a∈out):atV M a.1=a.2:=by
 obtain⟨S,h1,h2,-,rfl⟩:=h;have:=atV_one (mergeP_str S h2) (List.mem_filter.1 ha).1;unfold atV at this ⊢;rw[mergeP_sum (cls_isV _),sumW_perm h1]at this;exact this
theorem Gath.mem {M out:List Pt}(h:Gath M out){a:Pt}(ha:a∈out):∃ q,(a.1,q)∈M:=by
 obtain⟨S,h1,h2,-,rfl⟩:=h;obtain⟨q,hq⟩:=mergeP_mem S a (List.mem_filter.1 ha).1;exact⟨q,h1.mem_iff.1 hq⟩
theorem Gath.len {M out:List Pt}(h:Gath M out):out.length≤M.length:=by
 obtain⟨S,h1,h2,-,rfl⟩:=h;have:=mergeP_len S;have:=h1.length_eq;have:=List.length_filter_le (fun a:Pt=>decide (0<a.2)) (mergeP S);omega
theorem Gath.has {M out:List Pt}(h:Gath M out){v:VT}(hv:0<atV M v):∃ a∈out,cmpV a.1 v=0:=by
 obtain⟨S,h1,h2,-,rfl⟩:=h
 have e:atV (mergeP S) v=atV M v:=by unfold atV;rw[mergeP_sum (cls_isV _),sumW_perm h1]
 by_cases hx:∃ a∈mergeP S,cmpV a.1 v=0
 ·obtain⟨a,ha,hc⟩:=hx;refine⟨a,List.mem_filter.2 ⟨ha,?_⟩,hc⟩;have:=atV_one (mergeP_str S h2) ha;rw[atV_congr hc,e]at this;rw[←this];simpa using hv
 ·have:atV (mergeP S) v=0:=atV_none fun a ha hc=>hx ⟨a,ha,hc⟩
  rw[e]at this;rw[this]at hv;exact absurd hv (by decide)
theorem sumW_pos {M:List Pt}(h:∀ a∈M,0<a.2){v:VT}{b:Pt}(hb:b∈M) (hc:cmpV b.1 v=0):0<atV M v:=by
 have nn:∀ l:List Pt,(∀ a∈l,0<a.2)→0≤atV l v:=fun l=>by
  induction l with
  | nil=>intro _;exact Rat.le_refl
  | cons a l ih =>
   intro g;have g1:=g a (by simp)
   have g2:=ih fun x hx=>g x (by simp [hx])
   unfold atV at g2 ⊢;simp only[sumW]
   have g3:isV v a.1=0∨isV v a.1=1:=by unfold isV;split <;> simp
   rcases g3 with e | e <;> rw[e] <;> grind
 induction M with
 | nil=>cases hb
 | cons a M ih =>
  have g1:=h a (by simp)
  have g2:=nn M fun x hx=>h x (by simp [hx])
  rcases List.mem_cons.1 hb with rfl | hb
  ·unfold atV at g2 ⊢;simp only[sumW]
   have e:isV v b.1=1:=by unfold isV;rw[if_pos hc]
   rw[e];grind
  ·have g4:=ih (fun x hx=>h x (by simp [hx])) hb;unfold atV at g4 ⊢;simp only[sumW]
   have g3:isV v a.1=0∨isV v a.1=1:=by unfold isV;split <;> simp
   rcases g3 with e | e <;> rw[e] <;> grind
theorem Gath.all {M S:List Pt}(h1:S.Perm M) (h2:SrtP S) (h:∀ a∈M,0<a.2):(mergeP S).filter (fun a=>decide (0<a.2))=mergeP S:=by
 refine List.filter_eq_self.2 fun a ha=>?_
 have e:=atV_one (mergeP_str S h2) ha;obtain⟨q,hq⟩:=mergeP_mem S a ha;unfold atV at e;rw[mergeP_sum (cls_isV _)]at e;have:=sumW_pos (v:=a.1) (fun x hx=>h x (h1.mem_iff.1 hx)) hq (cmpV_refl _);unfold atV at this;rw[e]at this
 simpa using this
theorem Gath.sum {M out:List Pt}(h:Gath M out) (hp:∀ a∈M,0<a.2){W:VT→Rat}(hW:Cls W):sumW W out=sumW W M:=by
 obtain⟨S,h1,h2,-,rfl⟩:=h;rw[Gath.all h1 h2 hp,mergeP_sum hW,sumW_perm h1]
theorem atV_low {M:List Pt}(h:∀ a∈M,a.2≤0) (v:VT):atV M v≤0:=by
 induction M with
 | nil=>exact Rat.le_refl
 | cons a M ih =>
  have g1:=h a (by simp)
  have g2:=ih fun x hx=>h x (by simp [hx])
  unfold atV at g2 ⊢;simp only[sumW]
  have g3:isV v a.1=0∨isV v a.1=1:=by unfold isV;split <;> simp
  rcases g3 with e | e <;> rw[e] <;> grind
theorem Gath.low {M out:List Pt}(h:Gath M out) (hp:∀ a∈M,a.2≤0):out = []:=by
 cases out with
 | nil=>rfl
 | cons a l =>
  have h1:=h.pos (a:=a) (by simp)
  have h2:=h.at (a:=a) (by simp)
  have h3:=atV_low hp a.1
  grind
theorem str_eq:∀ {l m:List Pt},StrP l→StrP m→(∀ x,x∈l↔x∈m)→l=m
 | [],[],_,_,_=>rfl
 | [],b :: m,_,_,h=>by have:=(h b).2 (by simp);cases this
 | a :: l,[],_,_,h=>by have:=(h a).1 (by simp);cases this
 | a :: l,b :: m,hl,hm,h=>by
  unfold StrP at hl hm;rw[List.pairwise_cons]at hl hm
  have hab:a=b:=by
   rcases List.mem_cons.1 ((h a).1 (by simp)) with e | e
   ·exact e
   ·rcases List.mem_cons.1 ((h b).2 (by simp)) with e2 | e2
    ·exact e2.symm
    ·have g1:=hm.1 a e;have g2:=hl.1 b e2;have:=cmpV_swap a.1 b.1;omega
  subst hab
  congr 1
  refine str_eq hl.2 hm.2 fun x=>⟨fun hx=>?_,fun hx=>?_⟩
  ·rcases List.mem_cons.1 ((h x).1 (by simp [hx])) with e | e
   ·subst e;have:=hl.1 x hx;rw[cmpV_refl]at this;omega
   ·exact e
  ·rcases List.mem_cons.1 ((h x).2 (by simp [hx])) with e | e
   ·subst e;have:=hm.1 x hx;rw[cmpV_refl]at this;omega
   ·exact e
def PlainP (M:List Pt):Prop:=∀ a∈M,∀ b∈M,cmpV a.1 b.1=0→a.1=b.1
theorem gath_sub {M M' o o':List Pt}(hp:PlainP M) (hm:M.Perm M') (h:Gath M o) (h':Gath M' o'){x:Pt}(hx:x∈o):x∈o':=by
 have h1:=h.at hx;have h2:=h.pos hx;have e:atV M' x.1=atV M x.1:=(sumW_perm hm).symm;obtain⟨y,hy,hc⟩:=h'.has (v:=x.1) (by rw[e,h1];exact h2);obtain⟨q,hq⟩:=h.mem hx;obtain⟨q',hq'⟩:=h'.mem hy;have ev:=hp _ (hm.mem_iff.2 hq') _ hq hc;have e2:=h'.at hy;have ev':y.1=x.1:=ev;rw[ev',e,h1]at e2;have:x=y:=Prod.ext ev'.symm e2;rw[this];exact hy
theorem gath_uniq {M M' o o':List Pt}(hp:PlainP M) (hm:M.Perm M') (h:Gath M o) (h':Gath M' o'):o=o':=by
 have hp':PlainP M':=fun a ha b hb=>hp a (hm.mem_iff.2 ha) b (hm.mem_iff.2 hb)
 exact str_eq h.str h'.str fun x=>⟨gath_sub hp hm h h',gath_sub hp' hm.symm h' h⟩
def MassP (M:List Pt):Prop:=StrP M ∧ ∀ a∈M,0<a.2
theorem Gath.mass {M out:List Pt}(h:Gath M out):MassP out:=⟨h.str,fun _=>h.pos⟩
theorem StrP.plain {M:List Pt}(h:StrP M):PlainP M:=by
 induction M with
 | nil=>intro a ha;cases ha
 | cons x M ih =>
  unfold StrP at h;rw[List.pairwise_cons]at h;intro a ha b hb hc
  rcases List.mem_cons.1 ha with ea | ha
  ·rcases List.mem_cons.1 hb with eb | hb
   ·rw[ea,eb]
   ·rw[ea]at hc;have:=h.1 b hb;omega
  ·rcases List.mem_cons.1 hb with eb | hb
   ·rw[eb]at hc;have:=h.1 a ha;have:=cmpV_swap x.1 a.1;omega
   ·exact ih h.2 a ha b hb hc
theorem mergeP_self {M:List Pt}(h:StrP M):mergeP M=M:=by
 induction M using snoc_ind with
 | h0=>rfl
 | h1 l s ih =>
  unfold StrP at h;rw[List.pairwise_append]at h;rw[mergeP_snoc,ih h.1]
  rcases snoc_cases l with rfl | ⟨m,b,rfl⟩
  ·rfl
  ·exact mstep_ne _ _ _ (by have:=h.2.2 b (by simp) s (by simp);omega)
theorem StrP.srt {M:List Pt}(h:StrP M):SrtP M:=List.Pairwise.imp (fun h=>Int.le_of_lt h) h
theorem mass_gath {M:List Pt}(h:MassP M):Gath M M :=
 ⟨M,List.Perm.refl _,h.1.srt,fun _ _=>rfl,by rw[mergeP_self h.1];exact (List.filter_eq_self.2 fun a ha=>by simpa using h.2 a ha).symm⟩
theorem Gath.self {M out:List Pt}(h:Gath M out) (hm:MassP M):out=M:=gath_uniq hm.1.plain (List.Perm.refl _) h (mass_gath hm)
theorem Gath.of_perm {M M' out:List Pt}(h:Gath M' out) (hp:M'.Perm M) (hm:MassP M):out=M:=(gath_uniq hm.1.plain hp.symm (mass_gath hm) h).symm
def Dn (D X:Nat) (q:Rat):Prop:=∃ z:Int,q*(D:Rat)=(z:Rat)∧z.natAbs≤X
theorem Dn.mono {D X Y:Nat}{q:Rat}(h:Dn D X q) (hY:X≤Y):Dn D Y q:=by
 obtain⟨z,h1,h2⟩:=h;exact⟨z,h1,by omega⟩
theorem Dn.zero (D X:Nat):Dn D X 0:=⟨0,by simp [Rat.zero_mul],by simp⟩
theorem Dn.add {D X Y:Nat}{p q:Rat}(h:Dn D X p) (g:Dn D Y q):Dn D (X+Y) (p+q):=by
 obtain⟨z,h1,h2⟩:=h;obtain⟨y,g1,g2⟩:=g;exact⟨z+y,by rw[Rat.add_mul,h1,g1,Rat.intCast_add],by omega⟩
theorem Dn.mul {D E X Y:Nat}{p q:Rat}(h:Dn D X p) (g:Dn E Y q):Dn (D*E) (X*Y) (p*q):=by
 obtain⟨z,h1,h2⟩:=h;obtain⟨y,g1,g2⟩:=g;refine⟨z*y,?_,by rw[Int.natAbs_mul];exact Nat.mul_le_mul h2 g2⟩;rw[Rat.intCast_mul,←h1,←g1,Rat.natCast_mul]
 grind
theorem Dn.scale {D X:Nat}{q:Rat}(h:Dn D X q) (E:Nat):Dn (D*E) (X*E) q:=by
 obtain⟨z,h1,h2⟩:=h;refine⟨z*E,?_,by rw[Int.natAbs_mul];exact Nat.mul_le_mul h2 (Nat.le_of_eq (Int.natAbs_natCast E))⟩;rw[Rat.intCast_mul,←h1,Rat.natCast_mul,Rat.intCast_natCast]
 grind
theorem Dn.self (q:Rat):Dn q.den q.num.natAbs q:=⟨q.num,by
 have hd:(q.den:Rat)≠0:=by intro h;exact q.den_nz (Rat.natCast_eq_zero_iff.1 h)
 have e:q=(q.num:Rat) / (q.den:Rat):=by rw[←Rat.mkRat_eq_div,Rat.mkRat_self]
 exact (show ∀ q a b:Rat,b≠0→q=a / b→q*b=a from fun q a b h e=>by grind) _ _ _ hd e,Nat.le_refl _⟩
theorem Dn.len {D X k:Nat}{q:Rat}(h:Dn D X q) (h0:D≠0) (hD:D<Bs^k) (hX:X<Bs^k) (hk:1≤k):LenR k q:=by
 obtain⟨z,h1,h2⟩:=h
 have e:q=mkRat z D:=by
  have hd:(D:Rat)≠0:=by intro h;exact h0 (Rat.natCast_eq_zero_iff.1 h)
  rw[Rat.mkRat_eq_div,←h1]
  grind
 rw[e];exact LenR.mk hk (by omega) hD
theorem mergeP_dn {D X:Nat}(l:List Pt) (h:∀ a∈l,Dn D X a.2):∀ a∈mergeP l,Dn D (l.length*X) a.2:=by
 induction l using snoc_ind with
 | h0=>intro a h;cases h
 | h1 l s ih =>
  have ih:=ih fun a ha=>h a (by simp [ha])
  have hs:=h s (by simp)
  have e:(l ++ [s]).length*X=l.length*X+X:=by rw[List.length_append,List.length_singleton,Nat.add_mul,Nat.one_mul]
  rw[mergeP_snoc,e];intro a ha
  rcases snoc_cases (mergeP l) with e | ⟨m,b,e⟩
  ·rw[e,mstep_nil]at ha;simp at ha;subst ha;exact hs.mono (by omega)
  ·rw[e]at ha ih
   by_cases hc:cmpV b.1 s.1=0
   ·rw[mstep_eq _ _ _ hc]at ha
    rcases List.mem_append.1 ha with ha | ha
    ·exact (ih a (by simp [ha])).mono (by omega)
    ·simp at ha;subst ha;exact (ih b (by simp)).add hs
   ·rw[mstep_ne _ _ _ hc]at ha
    rcases List.mem_append.1 ha with ha | ha
    ·exact (ih a ha).mono (by omega)
    ·simp at ha;subst ha;exact hs.mono (by omega)
theorem Gath.dn {M out:List Pt}(h:Gath M out){D X:Nat}(hM:∀ a∈M,Dn D X a.2):∀ a∈out,Dn D (M.length*X) a.2:=by
 obtain⟨S,h1,-,-,rfl⟩:=h;intro a ha;rw[←h1.length_eq];exact mergeP_dn S (fun b hb=>hM b (h1.mem_iff.1 hb)) a (List.mem_filter.1 ha).1
theorem sumW_dn {D X:Nat}{W:VT→Rat}(hW:∀ v,W v=0∨W v=1):∀ (l:List Pt),(∀ a∈l,Dn D X a.2)→Dn D (l.length*X) (sumW W l)
 | [],_=>Dn.zero _ _
 | a :: l,h=>by
  have ih:=sumW_dn hW l fun b hb=>h b (by simp [hb])
  have ha:=h a (by simp);rw[sumW,List.length_cons,Nat.add_mul,Nat.one_mul,Nat.add_comm];refine Dn.add ?_ ih
  rcases hW a.1 with e | e <;> rw[e]
  ·rw[Rat.zero_mul];exact Dn.zero _ _
  ·rw[Rat.one_mul];exact ha
end Go.Proofs.YtfofjalebhajhaaGreatDoor
