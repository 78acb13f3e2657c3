/- Values as trees, their order, whether two are the same: plain facts. -/
import Derived.Test.YtfofjalebhajhaaGreatDoorPartG
namespace Go.Proofs.YtfofjalebhajhaaGreatDoor
open Go Go.RowKit
inductive VT where
 | mk (k:Nat) (n:Int) (l:List VT)
def VT.k:VT→Nat | .mk k _ _=>k
def VT.n:VT→Int | .mk _ n _=>n
def VT.l:VT→List VT | .mk _ _ l=>l
mutual
theorem VT.ind1 {P:VT→Prop}(h:∀ k n l,(∀ x∈l,P x)→P (.mk k n l)):∀ t,P t
 | .mk k n l=>h k n l (VT.ind2 h l)
theorem VT.ind2 {P:VT→Prop}(h:∀ k n l,(∀ x∈l,P x)→P (.mk k n l)):∀ l:List VT,∀ x∈l,P x
 | [],_,hx=>by cases hx
 | a :: l,x,hx=>by
  cases hx with
  | head=>exact VT.ind1 h a
  | tail _ hx=>exact VT.ind2 h l x hx
end
mutual
def cmpV:VT→VT→Int
 | .mk k n l,.mk k' n' l'=>if k≠k' then cmpI k k' else if k=1∨k=2 then cmpI n n' else if k≠3∧k≠4 then 0 else cmpVs l l'
def cmpVs:List VT→List VT→Int
 | [],[]=>0
 | [],_ :: _ => -1
 | _ :: _,[]=>1
 | a :: l,b :: m=>if cmpV a b≠0 then cmpV a b else cmpVs l m
end
mutual
def sameV:VT→VT→Bool
 | .mk k n l,.mk k' n' l'=>k == k' && n == n' && sameVs l l'
def sameVs:List VT→List VT→Bool
 | [],[]=>true
 | [],_ :: _=>false
 | _ :: _,[]=>false
 | a :: l,b :: m=>sameV a b && sameVs l m
end
mutual
theorem sameV_eq:∀ {a b:VT},sameV a b=true→a=b
 | .mk k n l,.mk k' n' l',h=>by
  unfold sameV at h;simp only[Bool.and_eq_true,beq_iff_eq]at h;rw[h.1.1,h.1.2,sameVs_eq h.2]
theorem sameVs_eq:∀ {l m:List VT},sameVs l m=true→l=m
 | [],[],_=>rfl
 | [],_ :: _,h=>by unfold sameVs at h;cases h
 | _ :: _,[],h=>by unfold sameVs at h;cases h
 | a :: l,b :: m,h=>by
  unfold sameVs at h;simp only[Bool.and_eq_true]at h;rw[sameV_eq h.1,sameVs_eq h.2]
end
mutual
theorem sameV_refl:∀ a:VT,sameV a a=true
 | .mk k n l=>by unfold sameV;simp [sameVs_refl l]
theorem sameVs_refl:∀ l:List VT,sameVs l l=true
 | []=>by unfold sameVs;rfl
 | a :: l=>by unfold sameVs;rw[sameV_refl a,sameVs_refl l];rfl
end
theorem sameV_iff {a b:VT}:sameV a b=true↔a=b:=⟨sameV_eq,fun h=>h ▸ sameV_refl a⟩
theorem cmpI_vals (x y:Int):cmpI x y = -1∧x<y∨cmpI x y=0∧x=y∨cmpI x y=1∧y<x:=by
 unfold cmpI
 split
 ·exact .inl ⟨rfl,by omega⟩
 ·split
  ·exact .inr (.inr ⟨rfl,by omega⟩)
  ·exact .inr (.inl ⟨rfl,by omega⟩)
mutual
theorem cmpV_vals:∀ a b:VT,cmpV a b = -1∨cmpV a b=0∨cmpV a b=1
 | .mk k n l,.mk k' n' l'=>by
  unfold cmpV
  split
  ·have:=cmpI_vals k k';omega
  ·split
   ·have:=cmpI_vals n n';omega
   ·split
    ·exact .inr (.inl rfl)
    ·exact cmpVs_vals l l'
theorem cmpVs_vals:∀ l m:List VT,cmpVs l m = -1∨cmpVs l m=0∨cmpVs l m=1
 | [],[]=>by unfold cmpVs;exact .inr (.inl rfl)
 | [],_ :: _=>by unfold cmpVs;exact .inl rfl
 | _ :: _,[]=>by unfold cmpVs;exact .inr (.inr rfl)
 | a :: l,b :: m=>by
  unfold cmpVs
  split
  ·exact cmpV_vals a b
  ·exact cmpVs_vals l m
end
mutual
theorem cmpV_swap:∀ a b:VT,cmpV b a = -cmpV a b
 | .mk k n l,.mk k' n' l'=>by
  unfold cmpV
  by_cases hk:k=k'
  ·subst hk;simp only[ne_eq,not_true_eq_false,if_false]
   split
   ·exact cmpI_swap n n'
   ·split
    ·rfl
    ·exact cmpVs_swap l l'
  ·rw[if_pos hk,if_pos (Ne.symm hk)];exact cmpI_swap _ _
theorem cmpVs_swap:∀ l m:List VT,cmpVs m l = -cmpVs l m
 | [],[]=>by unfold cmpVs;rfl
 | [],_ :: _=>by unfold cmpVs;rfl
 | _ :: _,[]=>by unfold cmpVs;rfl
 | a :: l,b :: m=>by
  unfold cmpVs;have h:=cmpV_swap a b
  by_cases e:cmpV a b=0
  ·rw[if_neg (by rw[h,e];simp),if_neg (by simp [e])];exact cmpVs_swap l m
  ·rw[if_pos (by rw[h];omega),if_pos e];exact h
end
mutual
theorem cmpV_trans:∀ a b c:VT,cmpV a b≤0→cmpV b c≤0→cmpV a c≤0∧(cmpV a b<0∨cmpV b c<0→cmpV a c<0)∧(cmpV a b=0→cmpV b c=0→cmpV a c=0)
 | .mk k n l,.mk k' n' l',.mk k'' n'' l''=>by
  unfold cmpV
  by_cases h1:k=k'
  ·subst h1
   by_cases h2:k=k''
   ·subst h2;simp only[ne_eq,not_true_eq_false,if_false]
    split
    ·have a1:=cmpI_vals n n';have a2:=cmpI_vals n' n'';have a3:=cmpI_vals n n'';omega
    ·split
     ·intro _ _;exact⟨Int.le_refl _,fun h=>by omega,fun _ _=>rfl⟩
     ·exact cmpVs_trans l l' l''
   ·simp only[ne_eq,not_true_eq_false,if_false,h2,not_false_eq_true,if_true];have a2:=cmpI_vals k k'';intro _ g;omega
  ·by_cases h2:k'=k''
   ·subst h2;simp only[ne_eq,h1,not_false_eq_true,if_true,not_true_eq_false,if_false];have a2:=cmpI_vals k k';intro g _;omega
   ·rw[if_pos h1,if_pos h2];have a1:=cmpI_vals k k';have a2:=cmpI_vals k' k'';intro g1 g2
    have h3:k≠k'':=by omega
    rw[if_pos h3];have a3:=cmpI_vals k k'';omega
theorem cmpVs_trans:∀ l m o:List VT,cmpVs l m≤0→cmpVs m o≤0→cmpVs l o≤0∧(cmpVs l m<0∨cmpVs m o<0→cmpVs l o<0)∧(cmpVs l m=0→cmpVs m o=0→cmpVs l o=0)
 | [],[],[]=>by unfold cmpVs;omega
 | [],[],_ :: _=>by unfold cmpVs;omega
 | [],_ :: _,[]=>by unfold cmpVs;omega
 | [],_ :: _,_ :: _=>by unfold cmpVs;intro _ _;exact⟨by decide,fun _=>by decide,fun h=>by omega⟩
 | _ :: _,[],_=>by unfold cmpVs;intro h;exact absurd h (by decide)
 | _ :: _,_ :: _,[]=>by intro _ h;unfold cmpVs at h;exact absurd h (by decide)
 | a :: l,b :: m,c :: o=>by
  have h:=cmpV_trans a b c;have k:=cmpVs_trans l m o;unfold cmpVs
  by_cases e1:cmpV a b=0
  ·by_cases e2:cmpV b c=0
   ·have e3:=(h (by omega) (by omega)).2.2 e1 e2;rw[if_neg (by simp [e1]),if_neg (by simp [e2]),if_neg (by simp [e3])];exact k
   ·rw[if_neg (by simp [e1]),if_pos e2];intro _ g;have e3:=(h (by omega) g).2.1 (.inr (by omega));rw[if_pos (by omega)];exact⟨by omega,fun _=>e3,fun _ g2=>absurd g2 e2⟩
  ·rw[if_pos e1]
   by_cases e2:cmpV b c=0
   ·rw[if_neg (by simp [e2])];intro g _;have e3:=(h g (by omega)).2.1 (.inl (by omega));rw[if_pos (by omega)];exact⟨by omega,fun _=>e3,fun g2=>absurd g2 e1⟩
   ·rw[if_pos e2];intro g g2;have e3:=(h g g2).2.1 (.inl (by omega));rw[if_pos (by omega)];exact⟨by omega,fun _=>e3,fun g2=>absurd g2 e1⟩
end
mutual
theorem cmpV_refl:∀ a:VT,cmpV a a=0
 | .mk k n l=>by
  unfold cmpV;rw[if_neg (by simp)]
  split
  ·exact cmpI_self n
  ·split
   ·rfl
   ·exact cmpVs_refl l
theorem cmpVs_refl:∀ l:List VT,cmpVs l l=0
 | []=>by unfold cmpVs;rfl
 | a :: l=>by unfold cmpVs;rw[cmpV_refl a,if_neg (by simp)];exact cmpVs_refl l
end
theorem cmpV_congr {a b:VT}(h:cmpV a b=0) (c:VT):cmpV a c=cmpV b c:=by
 have h':cmpV b a=0:=by rw[cmpV_swap,h];rfl
 have v1:=cmpV_vals a c;have v2:=cmpV_vals b c
 rcases v1 with e | e | e
 ·have:=(cmpV_trans b a c (by omega) (by omega)).2.1 (.inr (by omega));omega
 ·have:=(cmpV_trans b a c (by omega) (by omega)).2.2 h' e;omega
 ·rcases v2 with f | f | f
  ·have:=(cmpV_trans a b c (by omega) (by omega)).2.1 (.inr (by omega));omega
  ·have:=(cmpV_trans a b c (by omega) (by omega)).2.2 h f;omega
  ·omega
theorem cmpV_congr' {a b:VT}(h:cmpV a b=0) (c:VT):cmpV c a=cmpV c b:=by
 have:=cmpV_congr h c
 rw[cmpV_swap a c,cmpV_swap b c] at *
 have h1:=cmpV_swap c a;have h2:=cmpV_swap c b;omega
theorem cmpVs_skip:∀ (i:Nat){l m:List VT},i≤l.length→i≤m.length→(∀ j,j<i → ∀ a b,l[j]? = some a→m[j]? = some b→cmpV a b=0)→cmpVs l m=cmpVs (l.drop i) (m.drop i)
 | 0,_,_,_,_,_=>rfl
 | i+1,[],_,h,_,_=>by simp at h
 | i+1,_ :: _,[],_,h,_=>by simp at h
 | i+1,a :: l,b :: m,h1,h2,h=>by
  simp only[List.length_cons]at h1 h2;have e:=h 0 (by omega) a b rfl rfl;rw[cmpVs,if_neg (by simp [e]),List.drop_succ_cons,List.drop_succ_cons]
  exact cmpVs_skip i (by omega) (by omega) fun j hj x y hx hy=>h (j+1) (by omega) x y (by simpa using hx) (by simpa using hy)
theorem cmpVs_at {l m:List VT}{i:Nat}(h1:i<l.length) (h2:i<m.length) (h:∀ j,j<i → ∀ a b,l[j]? = some a→m[j]? = some b→cmpV a b=0) (h0:cmpV l[i] m[i]≠0):cmpVs l m=cmpV l[i] m[i]:=by
 rw[cmpVs_skip i (by omega) (by omega) h,List.drop_eq_getElem_cons h1,List.drop_eq_getElem_cons h2,cmpVs,if_pos h0]
theorem cmpVs_end {l m:List VT}(h:∀ j,j<min l.length m.length → ∀ a b,l[j]? = some a→m[j]? = some b→cmpV a b=0):cmpVs l m=cmpI l.length m.length:=by
 rw[cmpVs_skip (min l.length m.length) (Nat.min_le_left _ _) (Nat.min_le_right _ _) h]
 rcases Nat.lt_trichotomy l.length m.length with g | g | g
 ·rw[Nat.min_eq_left (by omega),List.drop_eq_nil_of_le (Nat.le_refl _),List.drop_eq_getElem_cons g,cmpVs,cmpI,if_pos (by omega)]
 ·rw[Nat.min_eq_left (by omega),List.drop_eq_nil_of_le (Nat.le_refl _),List.drop_eq_nil_of_le (by omega),cmpVs,cmpI,if_neg (by omega),if_neg (by omega)]
 ·rw[Nat.min_eq_right (by omega),show m.drop m.length = [] from List.drop_eq_nil_of_le (Nat.le_refl _),List.drop_eq_getElem_cons g,cmpVs,cmpI,if_neg (by omega),if_pos (by omega)]
theorem sameVs_skip:∀ (i:Nat){l m:List VT},i≤l.length→i≤m.length→(∀ j,j<i → ∀ a b,l[j]? = some a→m[j]? = some b→sameV a b=true)→sameVs l m=sameVs (l.drop i) (m.drop i)
 | 0,_,_,_,_,_=>rfl
 | i+1,[],_,h,_,_=>by simp at h
 | i+1,_ :: _,[],_,h,_=>by simp at h
 | i+1,a :: l,b :: m,h1,h2,h=>by
  simp only[List.length_cons]at h1 h2;have e:=h 0 (by omega) a b rfl rfl;rw[sameVs,e,Bool.true_and,List.drop_succ_cons,List.drop_succ_cons]
  exact sameVs_skip i (by omega) (by omega) fun j hj x y hx hy=>h (j+1) (by omega) x y (by simpa using hx) (by simpa using hy)
theorem sameVs_len:∀ {l m:List VT},l.length≠m.length→sameVs l m=false
 | [],[],h=>absurd rfl h
 | [],_ :: _,_=>by unfold sameVs;rfl
 | _ :: _,[],_=>by unfold sameVs;rfl
 | a :: l,b :: m,h=>by unfold sameVs;rw[sameVs_len (l:=l) (m:=m) (by simpa using h),Bool.and_false]
theorem sameVs_at {l m:List VT}{i:Nat}(h1:i<l.length) (h2:i<m.length) (h:∀ j,j<i → ∀ a b,l[j]? = some a→m[j]? = some b→sameV a b=true) (h0:sameV l[i] m[i]=false):sameVs l m=false:=by
 rw[sameVs_skip i (by omega) (by omega) h,List.drop_eq_getElem_cons h1,List.drop_eq_getElem_cons h2,sameVs,h0,Bool.false_and]
theorem sameVs_end {l m:List VT}(hl:l.length=m.length) (h:∀ j,j<l.length → ∀ a b,l[j]? = some a→m[j]? = some b→sameV a b=true):sameVs l m=true:=by
 rw[sameVs_skip l.length (Nat.le_refl _) (by omega) h,List.drop_eq_nil_of_le (Nat.le_refl _),List.drop_eq_nil_of_le (by omega),sameVs]
end Go.Proofs.YtfofjalebhajhaaGreatDoor
