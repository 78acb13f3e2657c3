/- Facts for MassOne and MassTotals: a common denominator; rows of shares that were there; shares turned about. -/
import Derived.Test.YtfofjalebhajhaaGreatDoorMass20
import Derived.Test.YtfofjalebhajhaaGreatDoorMass18
namespace Go.Proofs.YtfofjalebhajhaaGreatDoor
open Go Go.RowKit
theorem Dn.le {D X Y:Nat}{q:Rat}(h:Dn D X q) (hY:X≤Y):Dn D Y q:=h.mono hY
theorem common_dn {j:Nat}:∀ (M:List Pt),(∀ a∈M,LenR j a.2) → ∃ D,D≠0∧D≤Bs^(j*M.length) ∧ ∀ a∈M,Dn D (Bs^(j*M.length)) a.2
 | [],_=>⟨1,by decide,by simp,fun a h=>by cases h⟩
 | a :: M,h=>by
  obtain⟨D,h0,h1,h2⟩:=common_dn M fun b hb=>h b (by simp [hb])
  have ha:=h a (by simp);have hn:0<a.2.den:=Nat.pos_of_ne_zero a.2.den_nz
  have e:Bs^(j*(a :: M).length)=Bs^j*Bs^(j*M.length):=by rw[List.length_cons,Nat.mul_add,Nat.mul_one,Nat.add_comm,Nat.pow_add]
  refine⟨a.2.den*D,Nat.mul_ne_zero a.2.den_nz h0,by rw[e];exact Nat.mul_le_mul (Nat.le_of_lt ha.2) h1,fun b hb=>?_⟩;rw[e]
  rcases List.mem_cons.1 hb with rfl | hb
  ·exact ((Dn.self b.2).scale D).le (Nat.mul_le_mul (Nat.le_of_lt ha.1) h1)
  ·have:=(h2 b hb).scale a.2.den;rw[Nat.mul_comm D]at this;refine this.le ?_;rw[Nat.mul_comm];exact Nat.mul_le_mul_right _ (Nat.le_of_lt ha.2)
theorem short_len {w:World}{v:Value}{Ls:List Ra}(h:SlS w v Ls) (hs:ShortS Ls):∀ p∈Ls.map ptRa,LenR 6 p.2:=by
 intro p hp;obtain⟨a,ha,rfl⟩:=List.mem_map.1 hp;have hl:=(hs a ha).1;obtain⟨i,hi⟩:=List.getElem?_of_mem ha;obtain⟨_,_,_,_,_,_,h5⟩:=h;obtain⟨bl,off,cs,-,hr,-⟩:=h5 i a hi;obtain⟨k,n,q,x,y,p1,n1,c1,p2,n2,c2,-,-,h3,h4⟩:=hr;exact InR.len (w:=w) (b:=a.2.1) ⟨_,_,h3,h4,rfl,hl.1,hl.2,by decide⟩
theorem mayRa_eq {a:Ra}(h:mayRa a=true):raPt (ptRa a)=a:=by
 unfold mayRa at h;obtain⟨-,h1,h2,h3⟩:=of_decide_eq_true h;obtain⟨t,s,l,m⟩:=a;exact Prod.ext rfl (Prod.ext h1 (Prod.ext h2 h3))
theorem MayS.eq {Ls:List Ra}(h:MayS Ls):(Ls.map ptRa).map raPt=Ls:=by
 rw[List.map_map]
 conv=>rhs;rw[←List.map_id Ls]
 refine List.map_congr_left fun a ha=>?_
 obtain⟨i,hi⟩:=List.getElem?_of_mem ha;exact mayRa_eq (h i (List.getElem?_eq_some_iff.1 hi).1 a hi).1
theorem str_of_next {M:List Pt}(h:∀ j a b,M[j]? = some a→M[j+1]? = some b→cmpV a.1 b.1<0):StrP M:=by
 induction M with
 | nil=>exact List.Pairwise.nil
 | cons x M ih =>
  have ih:=ih fun j a b ha hb=>h (j+1) a b (by simpa using ha) (by simpa using hb)
  unfold StrP at ih ⊢;rw[List.pairwise_cons];refine⟨?_,ih⟩
  cases M with
  | nil=>intro a ha;cases ha
  | cons y M =>
   have h1:=h 0 x y rfl rfl;intro a ha
   rcases List.mem_cons.1 ha with rfl | ha
   ·exact h1
   ·have h2:=(List.pairwise_cons.1 ih).1 a ha;exact cmp_lt_le h1 (Int.le_of_lt h2)
theorem MayS.mass {Ls:List Ra}(h:MayS Ls):MassP (Ls.map ptRa):=by
 refine⟨str_of_next fun j p q hp hq=>?_,fun p hp=>?_⟩
 ·rw[List.getElem?_map]at hp hq
  cases ha:Ls[j]? with
  | none=>rw[ha]at hp;cases hp
  | some a =>
   cases hb:Ls[j+1]? with
   | none=>rw[hb]at hq;cases hq
   | some b =>
    rw[ha]at hp;rw[hb]at hq;obtain rfl:=Option.some.inj hp;obtain rfl:=Option.some.inj hq;exact (h (j+1) (List.getElem?_eq_some_iff.1 hb).1 b hb).2.2 j a rfl ha
 ·obtain⟨a,ha,rfl⟩:=List.mem_map.1 hp;obtain⟨i,hi⟩:=List.getElem?_of_mem ha;exact (h i (List.getElem?_eq_some_iff.1 hi).1 a hi).2.1
structure AllR (B:Nat) (v:Value) (C:List (List Value)) (w:World):Prop where
 row:w.ownsRow B 47 6 v C.length C.flatten
 len:∀ e∈C,e.length=6
theorem AllR.nil (B:Nat) (w:World):AllR B (.slice none 0 0) [] w:=⟨World.ownsRow_nil ..,fun e h=>by cases h⟩
theorem AllR.ext {B:Nat}{v:Value}{C:List (List Value)}{w w':World}(h:AllR B v C w) (x:Ext w w'):AllR B v C w':=⟨ownsRow_ext' h.row x,h.len⟩
theorem AllR.slice {B:Nat}{v:Value}{C:List (List Value)}{w:World}(h:AllR B v C w):∃ p c,v = .slice p C.length c:=by
 rcases h.row.2 with⟨e,h0⟩ | ⟨g,cap,cur,e,-⟩
 ·exact⟨none,0,by rw[e,h0]⟩
 ·exact⟨_,_,e⟩
theorem append_raw {w W:World}{ops:Array Oper}{rest:List Oper}{o:Oper}{a:Act}{Q:Exit→Act→World→Prop}(hgd:o.guard=none) (s x:Operand) (t:TypeId) (ht:Tryz.prog.underlying t=some (.slice 47))
  (ho:o.op = .call { callee:=.builtin .append,args:=#[s,x],argTypes:=#[t,t] }){B b:Nat}{v u:Value}{R:List (List Value)}{e:List Value}{C:Array Value}{ty:TypeId}(hs:a.eval s=v) (hx:a.eval x=u) (hu:u = .slice (some ⟨b,0,none⟩) 1 1) (hw:w=W.alloc (.cells C ty)) (hb:b=W.heap.size) (hC:e=C.toList)
  (hA:AllR B v R W) (he:e.length=6) (h1:∀ u∈e,u.oneCell'=true) (hlen:R.length≤100000) (hB:B≤W.heap.size)
  (h:∀ v' w',AllR B v' (R ++ [e]) w'→Below B W w'→wpList Tryz.prog ops Q rest (a.put o.dst v') w'):wpList Tryz.prog ops Q (o :: rest) a w:=by
 subst hw hb hu;have X:Ext W (W.alloc (.cells C ty)):=eR.alloc _;have hA':=hA.ext X;have h12:=sl_one (w:=W.alloc (.cells C ty)) (b:=W.heap.size) (cs:=e) (fun j u hj=>at_new (by rw[hC]at hj;simpa using hj)) (by rw[he];decide);rw[he]at h12
 refine wpList_append_sl hgd s x t ho B 47 _ 6 96 ht info_share rfl (by decide) v R.length R.flatten hs hA'.row _ 1 e hx h12 h1 (by unfold maxLen;omega) (by omega) (Nat.le_trans hB X.size) fun v' w' h3 hg=>?_
 refine h v' w' ⟨?_,fun y hy=>?_⟩ ((X.mono hB).trans ((Below.refl _ _).grown hg (Nat.le_trans hB X.size) fun k hk=>?_))
 ·rw[List.length_append,List.length_singleton,List.flatten_append]
  simpa using h3
 ·rcases List.mem_append.1 hy with hy | hy
  ·exact hA.len y hy
  ·simp at hy;subst hy;exact he
 ·rcases hA.row.2 with⟨e,-⟩ | ⟨g',cap,cur,e,hg',-⟩
  ·rw[e]at hk;cases hk
  ·rw[e]at hk
   have e:g'=k:=by injection hk
   omega
def AlR (w:World) (Cs:List (List Value)) (Ps:List Ra):Prop:=Cs.length=Ps.length ∧ ∀ (i:Nat) (cs:List Value) (p:Ra),Cs[i]? = some cs→Ps[i]? = some p→RaS w cs p
theorem AlR.snoc {w:World}{Cs:List (List Value)}{Ps:List Ra}(h:AlR w Cs Ps){cs:List Value}{p:Ra}(hp:RaS w cs p):AlR w (Cs ++ [cs]) (Ps ++ [p]):=by
 refine⟨by simp [h.1],fun i c q hc hq=>?_⟩
 by_cases hi:i<Cs.length
 ·rw[List.getElem?_append_left hi]at hc;rw[List.getElem?_append_left (by rw[←h.1];exact hi)]at hq;exact h.2 i c q hc hq
 ·rw[List.getElem?_append_right (by omega)]at hc;rw[List.getElem?_append_right (by rw[←h.1];omega),←h.1]at hq
  cases hd:i - Cs.length with
  | zero =>
   rw[hd]at hc hq
   simp at hc hq
   rw[←hc,←hq];exact hp
  | succ j=>rw[hd]at hc;simp at hc
theorem AllR.slS {B:Nat}{v:Value}{C:List (List Value)}{w w0:World}{Ps:List Ra}(h:AllR B v C w) (ha:AlR w0 C Ps) (x:Ext w0 w):SlS w v Ps:=by
 have hrow:=h.row
 rcases h.row.2 with⟨e,h0⟩ | ⟨g,cap,cur,e,-,-,h1,h2,-⟩
 ·have hc:Ps = []:=List.eq_nil_of_length_eq_zero (by rw[←ha.1,h0]);subst hc;rw[e];exact SlS.nil w
 ·rw[e]at hrow;refine⟨_,cap,by rw[e,ha.1],by rw[←ha.1];exact h1,h2,fun e2=>(by cases e2),fun i a hi=>?_⟩
  have hil:i<C.length:=by rw[ha.1];exact (List.getElem?_eq_some_iff.1 hi).1
  refine⟨g,0,C[i],rfl,(ha.2 i _ a (List.getElem?_eq_getElem hil) hi).ext x,fun j u hj=>?_⟩;have hcl:=h.len _ (List.getElem_mem hil);have hjl:=(List.getElem?_eq_some_iff.1 hj).1;refine⟨?_,(hrow.lt g rfl).2⟩;rw[Nat.zero_add,World.ownsRow.cellAt hrow (i*6+j) (by omega),flat_get h.len (List.getElem?_eq_getElem hil) (by omega),hj]
def turnL (Ls:List Ra) (by_ i:Nat):List Ra:=(List.range i).filterMap fun q=>Ls[(q+by_) % Ls.length]?
theorem turnL_succ {Ls:List Ra}{y i:Nat}{a:Ra}(h:Ls[(i+y) % Ls.length]? = some a):turnL Ls y (i+1)=turnL Ls y i ++ [a]:=by
 unfold turnL;rw[List.range_succ,List.filterMap_append]
 congr 1
 simp [h]
theorem turnL_perm (Ls:List Ra) (y:Nat):(turnL Ls y Ls.length).Perm Ls:=by
 by_cases h0:Ls.length=0
 ·have:Ls = []:=List.eq_nil_of_length_eq_zero h0;subst this;exact List.Perm.refl _
 ·obtain⟨n,hn⟩:∃ n,Ls.length=n:=⟨_,rfl⟩
  obtain⟨r,hr⟩:∃ r,y % n=r:=⟨_,rfl⟩
  have hrn:r<n:=by rw[←hr];exact Nat.mod_lt _ (by omega)
  have key:∀ i,i≤n→turnL Ls y i=(Ls.drop r ++ Ls.take r).take i:=by
   intro i
   induction i with
   | zero=>intro _;simp [turnL]
   | succ i ih =>
    intro hi
    have hm:(i+y) % n=if i+r<n then i+r else i+r - n:=by
     rw[Nat.add_mod,hr,Nat.mod_eq_of_lt (show i<n by omega)]
     split
     ·rename_i h;exact Nat.mod_eq_of_lt h
     ·rename_i h
      rw[Nat.mod_eq_sub_mod (by omega),Nat.mod_eq_of_lt (by omega)]
    have hlt:(i+y) % n<Ls.length:=by rw[hn];exact Nat.mod_lt _ (by omega)
    have hg:Ls[(i+y) % Ls.length]? = some Ls[(i+y) % n]:=by rw[hn];exact List.getElem?_eq_getElem hlt
    have hg2:(Ls.drop r ++ Ls.take r)[i]? = some Ls[(i+y) % n]:=by
     rw[←List.getElem?_eq_getElem hlt,hm]
     by_cases h:i+r<n
     ·rw[if_pos h,List.getElem?_append_left (by rw[List.length_drop];omega),List.getElem?_drop,Nat.add_comm]
     ·rw[if_neg h,List.getElem?_append_right (by rw[List.length_drop];omega),List.length_drop,hn,List.getElem?_take,if_pos (by omega)]
      congr 1
      omega
    rw[turnL_succ hg,ih (by omega),List.take_add_one,hg2];rfl
  rw[hn,key n (Nat.le_refl _),List.take_of_length_le (by rw[List.length_append,List.length_drop,List.length_take,hn];omega)];exact List.perm_append_comm.trans (by rw[List.take_append_drop])
end Go.Proofs.YtfofjalebhajhaaGreatDoor
