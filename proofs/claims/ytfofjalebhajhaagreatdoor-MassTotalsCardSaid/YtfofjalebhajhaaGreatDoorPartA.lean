/- Facts and contracts, joined: Plain, Base, RegInv, Shelf, Word, Nat1, Nat2, Mul, DivPlain, Div64, Quo1, Div1, Builder, RefPlain, Ref02, RefTrim, Same, DecPlain. -/
import Derived.KernelRfl
import Derived.Test.YtfofjalebhajhaaGreatDoorRows
import Derived.WalkKit
import Derived.WalkSpells
import Derived.Handy
import Derived.PlainAid
import Derived.Deep.DeepMust
import Derived.Deep.QuietTactic
import Derived.BigQuiet
import Derived.Lib.Hide
import Derived.Laws.AppendOwnNone
import Derived.OrdersHeld
import Derived.Deep.RegionHeld3
import Derived.Shelf.Spec.BitsCarry
import Derived.Shelf.Strings.Trim
import Derived.Shelf.Small.Bits
import Derived.Shelf.Strings.BuilderK
import Derived.Shelf.Bits.Mul64
import Derived.Test.YtfofjalebhajhaaGreatDoorProg
import Derived.WalkLawsBesides
import Derived.WalkMore
import Derived.Deep.DeepCutAuto
import Derived.Deep.CutBlock
import Derived.Lib.EndianBits
namespace Go.Proofs.YtfofjalebhajhaaGreatDoor
theorem bs_ex:∃ b:Nat,b=18446744073709551616:=⟨_,rfl⟩
noncomputable def Bs:Nat:=Classical.choose bs_ex
theorem Bs_def:Bs=18446744073709551616:=Classical.choose_spec bs_ex
theorem Bs_pos:0<Bs:=by rw[Bs_def];omega
theorem two_le_Bs:2≤Bs:=by rw[Bs_def];omega
theorem lmax_ex:∃ b:Nat,b=1099511627776:=⟨_,rfl⟩
noncomputable def Lmax:Nat:=Classical.choose lmax_ex
theorem Lmax_def:Lmax=1099511627776:=Classical.choose_spec lmax_ex
theorem lmax_le {n:Nat}(h:n≤Lmax):n≤1099511627776:=by rw[←Lmax_def];exact h
noncomputable def val:List Nat→Nat
 | []=>0
 | x :: A=>x+Bs*val A
noncomputable def dig (n:Nat):List Nat:=if _h:n=0 then [] else n % Bs :: dig (n / Bs)
termination_by n
decreasing_by exact Nat.div_lt_self (by omega) (by rw[Bs_def];omega)
theorem dig_zero:dig 0 = []:=by rw[dig];simp
theorem dig_pos {n:Nat}(h:n≠0):dig n=n % Bs :: dig (n / Bs):=by rw[dig];simp [h]
theorem dig_cons {x n:Nat}(hx:x<Bs) (h:x≠0∨n≠0):dig (x+Bs*n)=x :: dig n:=by
 have hB:=Bs_pos
 have h0:x+Bs*n≠0:=by
  rcases h with h | h
  ·omega
  ·have:=Nat.mul_pos hB (Nat.pos_of_ne_zero h);omega
 rw[dig_pos h0,Nat.add_mul_mod_self_left,Nat.mod_eq_of_lt hx,Nat.add_mul_div_left _ _ hB,Nat.div_eq_of_lt hx,Nat.zero_add]
theorem val_dig (n:Nat):val (dig n)=n:=by
 induction n using Nat.strongRecOn with
 | _ n ih =>
  by_cases h:n=0
  ·subst h;rw[dig_zero];rfl
  ·rw[dig_pos h,val,ih _ (Nat.div_lt_self (by omega) (by rw[Bs_def];omega))];exact Nat.mod_add_div n Bs
theorem dig_lt (n:Nat):∀ x∈dig n,x<Bs:=by
 induction n using Nat.strongRecOn with
 | _ n ih =>
  by_cases h:n=0
  ·subst h;rw[dig_zero];intro x hx;cases hx
  ·rw[dig_pos h];intro x hx
   rcases List.mem_cons.1 hx with rfl | hx
   ·exact Nat.mod_lt _ Bs_pos
   ·exact ih _ (Nat.div_lt_self (by omega) (by rw[Bs_def];omega)) x hx
theorem val_append (A C:List Nat):val (A ++ C)=val A+Bs^A.length*val C:=by
 induction A with
 | nil=>simp [val]
 | cons x A ih=>rw[List.cons_append,val,val,ih,List.length_cons,Nat.pow_succ,Nat.mul_add,Nat.add_assoc,Nat.mul_comm (Bs^A.length) Bs,Nat.mul_assoc]
theorem val_lt {A:List Nat}(h:∀ x∈A,x<Bs):val A<Bs^A.length:=by
 induction A with
 | nil=>simp [val]
 | cons x A ih =>
  have h1:=h x (List.mem_cons_self ..)
  have h2:=ih fun y hy=>h y (List.mem_cons_of_mem _ hy)
  rw[val,List.length_cons,Nat.pow_succ,Nat.mul_comm (Bs^A.length)];have:=Nat.mul_le_mul_left Bs (Nat.succ_le_of_lt h2);rw[Nat.mul_succ]at this;omega
theorem val_zeros (n:Nat):val (List.replicate n 0)=0:=by
 induction n with
 | zero=>rfl
 | succ n ih=>rw[List.replicate_succ,val,ih];simp
theorem dig_val:∀ {A:List Nat},(∀ x∈A,x<Bs)→(A = []∨A.getLast?.getD 0≠0)→dig (val A)=A
 | [],_,_=>dig_zero
 | x :: A,h,hl=>by
  have hx:=h x (List.mem_cons_self ..)
  have hA:∀ y∈A,y<Bs:=fun y hy=>h y (List.mem_cons_of_mem _ hy)
  cases A with
  | nil =>
   have:x≠0:=by simpa using hl
   rw[val,dig_cons hx (.inl this)];simp [val,dig_zero]
  | cons y A =>
   have hl':(y :: A).getLast?.getD 0≠0:=by
    rcases hl with hl | hl
    ·cases hl
    ·simpa [List.getLast?_cons_cons] using hl
   have ih:=dig_val hA (.inr hl')
   have hne:val (y :: A)≠0:=by
    intro e;rw[e,dig_zero]at ih
    cases ih
   rw[val,dig_cons hx (.inr hne),ih]
def el (A:List Nat) (n:Nat):Nat:=A[n]?.getD 0
theorem el_of_lt {A:List Nat}{n:Nat}(h:n<A.length):el A n=A[n]:=by simp [el,List.getElem?_eq_getElem h]
theorem el_of_ge {A:List Nat}{n:Nat}(h:A.length≤n):el A n=0:=by simp [el,List.getElem?_eq_none h]
theorem el_lt {A:List Nat}(h:∀ x∈A,x<Bs) (n:Nat):el A n<Bs:=by
 by_cases hn:n<A.length
 ·rw[el_of_lt hn];exact h _ (List.getElem_mem hn)
 ·rw[el_of_ge (by omega)];exact Bs_pos
theorem dig_take {A:List Nat}(h:∀ x∈A,x<Bs){n:Nat}(hn:n≤A.length) (h0:∀ i,n≤i→el A i=0) (hl:n=0∨el A (n - 1)≠0) :
  dig (val A)=A.take n:=by
 have e:A=A.take n ++ List.replicate (A.length - n) 0:=by
  apply List.ext_getElem
  ·simp;omega
  ·intro i h1 h2
   by_cases hi:i<n
   ·rw[List.getElem_append_left (by simp;omega),List.getElem_take]
   ·rw[List.getElem_append_right (by simp;omega),List.getElem_replicate];have:=h0 i (by omega)
    rwa [el_of_lt h1]at this
 have ev:val A=val (A.take n):=by
  conv=>lhs;rw[e]
  rw[val_append,val_zeros];simp
 rw[ev];refine dig_val (fun x hx=>h x (List.mem_of_mem_take hx)) ?_
 rcases hl with hl | hl
 ·left;simp [hl]
 ·by_cases hn0:n=0
  ·left;simp [hn0]
  ·right
   rw[List.getLast?_eq_getElem?,List.length_take,Nat.min_eq_left hn,List.getElem?_take_of_lt (by omega)];exact hl
noncomputable def valTo (A:List Nat):Nat→Nat
 | 0=>0
 | k+1=>valTo A k+Bs^k*el A k
theorem valTo_take (A:List Nat) (k:Nat):valTo A k=val (A.take k):=by
 induction k with
 | zero=>rfl
 | succ k ih =>
  rw[valTo,ih]
  by_cases h:k<A.length
  ·rw[List.take_succ_eq_append_getElem h,val_append,el_of_lt h,List.length_take,Nat.min_eq_left (by omega)];simp [val]
  ·rw[el_of_ge (by omega),List.take_of_length_le (by omega:A.length≤k),List.take_of_length_le (by omega:A.length≤k+1)]
   simp
theorem valTo_all {A:List Nat}{k:Nat}(h:A.length≤k):valTo A k=val A:=by rw[valTo_take,List.take_of_length_le h]
theorem valTo_lt {A:List Nat}(h:∀ x∈A,x<Bs) (k:Nat):valTo A k<Bs^k:=by
 induction k with
 | zero=>simp [valTo]
 | succ k ih =>
  have h1:=el_lt h k;have h2:=Nat.mul_le_mul_left (Bs^k) (Nat.succ_le_of_lt h1);rw[valTo,Nat.pow_succ];rw[Nat.mul_succ]at h2;omega
def cmpN (a b:Nat):Int:=if a<b then -1 else if b<a then 1 else 0
theorem cmpN_lt {a b:Nat}(h:a<b):cmpN a b = -1:=by simp [cmpN,h]
theorem cmpN_gt {a b:Nat}(h:b<a):cmpN a b=1:=by simp [cmpN,h,show ¬ a<b by omega]
theorem cmpN_eq {a b:Nat}(h:a=b):cmpN a b=0:=by simp [cmpN,h]
theorem val_lt_of_el {A B:List Nat}(hA:∀ x∈A,x<Bs){i:Nat}(h:∀ j,i<j→el A j=el B j) (hl:el A i<el B i):val A<val B:=by
 have key:∀ k,valTo A (i+1+k)<valTo B (i+1+k):=by
  intro k
  induction k with
  | zero =>
   have h1:=valTo_lt hA i;have h2:=Nat.mul_le_mul_left (Bs^i) (Nat.succ_le_of_lt hl);rw[Nat.mul_succ]at h2
   show valTo A i+Bs^i*el A i<valTo B i+Bs^i*el B i
   omega
  | succ k ih =>
   rw[←Nat.add_assoc,valTo,valTo,h _ (by omega)];omega
 have:=key (max A.length B.length)
 rwa [valTo_all (by omega),valTo_all (by omega)]at this
theorem val_eq_of_el {A B:List Nat}(h:∀ j,el A j=el B j):val A=val B:=by
 have key:∀ k,valTo A k=valTo B k:=by
  intro k
  induction k with
  | zero=>rfl
  | succ k ih=>rw[valTo,valTo,ih,h]
 have:=key (max A.length B.length)
 rwa [valTo_all (by omega),valTo_all (by omega)]at this
def bl (n:Nat):Nat:=if n=0 then 0 else Nat.log2 n+1
theorem lt_bl (n:Nat):n<2^bl n:=by
 unfold bl;split
 ·simp [*]
 ·exact Nat.lt_log2_self
theorem bl_le_iff (n k:Nat):bl n≤k↔n<2^k:=by
 unfold bl;split
 ·rename_i h;subst h;simp [Nat.pow_pos]
 ·rename_i h;rw[Nat.add_one_le_iff,Nat.log2_lt h]
theorem bl_ge {n k:Nat}(h:2^k≤n):k<bl n:=by
 rcases Nat.lt_or_ge k (bl n) with g | g
 ·exact g
 ·have:=(bl_le_iff n k).1 g;omega
theorem bl_eq {n k:Nat}(h1:2^k≤n) (h2:n<2^(k+1)):bl n=k+1:=by
 have a:=bl_ge h1;have b:=(bl_le_iff n (k+1)).2 h2;omega
theorem bl_eq_zero (n:Nat):bl n=0↔n=0:=by
 have:=bl_le_iff n 0
 simp at this
 omega
theorem bl_small {n:Nat}(h:n<2):bl n=n:=by
 have:n=0∨n=1:=by omega
 rcases this with rfl | rfl
 ·rfl
 ·exact bl_eq (k:=0) (by simp) (by simp)
theorem bl_shift {n k:Nat}(h:n / 2^k≠0):bl n=k+bl (n / 2^k):=by
 have h1:=Nat.two_pow_pos k
 have hq:2^k≤n:=by
  rcases Nat.lt_or_ge n (2^k) with g | g
  ·exact absurd (Nat.div_eq_of_lt g) h
  ·exact g
 obtain⟨j,hj⟩:∃ j,bl (n / 2^k)=j+1:=by
  cases e:bl (n / 2^k) with
  | zero=>have:=(bl_le_iff (n / 2^k) 0).1 (by omega);simp at this;omega
  | succ j=>exact⟨j,rfl⟩
 have a:2^j≤n / 2^k:=by
  rcases Nat.lt_or_ge (n / 2^k) (2^j) with g | g
  ·have:=(bl_le_iff (n / 2^k) j).2 g;omega
  ·exact g
 have b:n / 2^k<2^(j+1):=by rw[←hj];exact lt_bl _
 rw[hj,←Nat.add_assoc];refine bl_eq ?_ ?_
 ·rw[Nat.pow_add,Nat.mul_comm];exact (Nat.le_div_iff_mul_le h1).1 a
 ·rw[Nat.add_assoc,Nat.pow_add,Nat.mul_comm];exact (Nat.div_lt_iff_lt_mul h1).1 b
def carryTo (F:Nat→Nat→Nat→Nat × Nat) (A B:List Nat):Nat→Nat
 | 0=>0
 | k+1=>(F (el A k) (el B k) (carryTo F A B k)).2
def outsTo (F:Nat→Nat→Nat→Nat × Nat) (A B:List Nat):Nat→List Nat
 | 0 => []
 | k+1=>outsTo F A B k ++ [(F (el A k) (el B k) (carryTo F A B k)).1]
theorem outsTo_length (F:Nat→Nat→Nat→Nat × Nat) (A B:List Nat) (k:Nat):(outsTo F A B k).length=k:=by
 induction k with
 | zero=>rfl
 | succ k ih=>rw[outsTo,List.length_append,ih];rfl
theorem carryTo_le {F:Nat→Nat→Nat→Nat × Nat}(hF:∀ x y c,x<Bs→y<Bs→c≤1→(F x y c).1<Bs∧(F x y c).2≤1){A B:List Nat}(hA:∀ x∈A,x<Bs) (hB:∀ x∈B,x<Bs) (k:Nat):carryTo F A B k≤1:=by
 induction k with
 | zero=>simp [carryTo]
 | succ k ih=>exact (hF _ _ _ (el_lt hA k) (el_lt hB k) ih).2
theorem outsTo_lt {F:Nat→Nat→Nat→Nat × Nat}(hF:∀ x y c,x<Bs→y<Bs→c≤1→(F x y c).1<Bs∧(F x y c).2≤1){A B:List Nat}(hA:∀ x∈A,x<Bs) (hB:∀ x∈B,x<Bs) (k:Nat):∀ x∈outsTo F A B k,x<Bs:=by
 induction k with
 | zero=>intro x hx;cases hx
 | succ k ih =>
  intro x hx;rw[outsTo,List.mem_append,List.mem_singleton]at hx
  rcases hx with hx | rfl
  ·exact ih x hx
  ·exact (hF _ _ _ (el_lt hA k) (el_lt hB k) (carryTo_le hF hA hB k)).1
theorem set_outs (D:List Nat) (x m:Nat):(D ++ List.replicate (m+1) 0).set D.length x=(D ++ [x]) ++ List.replicate m 0:=by
 rw[List.set_append_right _ _ (Nat.le_refl _),Nat.sub_self,List.replicate_succ];simp
noncomputable def addLo (x y c:Nat):Nat:=(x+y+c) % Bs
noncomputable def addHi (x y c:Nat):Nat:=(x+y+c) / Bs
noncomputable def subLo (x y c:Nat):Nat:=(x+Bs - y - c) % Bs
def subHi (x y c:Nat):Nat:=if x<y+c then 1 else 0
noncomputable def mulHi (x y:Nat):Nat:=x*y / Bs
noncomputable def mulLo (x y:Nat):Nat:=x*y % Bs
noncomputable def addF (x y c:Nat):Nat × Nat:=(addLo x y c,addHi x y c)
noncomputable def subF (x y c:Nat):Nat × Nat:=(subLo x y c,subHi x y c)
theorem addF_ok (x y c:Nat) (hx:x<Bs) (hy:y<Bs) (hc:c≤1):(addF x y c).1<Bs∧(addF x y c).2≤1:=by
 refine⟨Nat.mod_lt _ Bs_pos,?_⟩
 show (x+y+c) / Bs≤1
 rw[←Nat.lt_add_one_iff,Nat.div_lt_iff_lt_mul Bs_pos];omega
theorem subF_ok (x y c:Nat) (_hx:x<Bs) (_hy:y<Bs) (_hc:c≤1):(subF x y c).1<Bs∧(subF x y c).2≤1:=by
 refine⟨Nat.mod_lt _ Bs_pos,?_⟩
 show subHi x y c≤1
 unfold subHi;split <;> omega
theorem val_outs_succ (F:Nat→Nat→Nat→Nat × Nat) (A B:List Nat) (k:Nat) :
  val (outsTo F A B (k+1))=val (outsTo F A B k)+Bs^k*(F (el A k) (el B k) (carryTo F A B k)).1:=by
 rw[outsTo,val_append,outsTo_length];simp [val]
theorem add_inv (A B:List Nat) (k:Nat):val (outsTo addF A B k)+Bs^k*carryTo addF A B k=valTo A k+valTo B k:=by
 induction k with
 | zero=>simp [outsTo,carryTo,valTo,val]
 | succ k ih =>
  rw[val_outs_succ,carryTo,valTo,valTo,Nat.pow_succ]
  generalize carryTo addF A B k=c at *
  have h:(addF (el A k) (el B k) c).1+Bs*(addF (el A k) (el B k) c).2=el A k+el B k+c:=Nat.mod_add_div _ _
  generalize (addF (el A k) (el B k) c).1=p at *
  generalize (addF (el A k) (el B k) c).2=q at *
  have:Bs^k*p+Bs^k*Bs*q=Bs^k*el A k+Bs^k*el B k+Bs^k*c:=by
   rw[Nat.mul_assoc,←Nat.mul_add,h,Nat.mul_add,Nat.mul_add]
  omega
theorem add_outs {A B:List Nat}(hA:∀ x∈A,x<Bs) (hB:∀ x∈B,x<Bs):val (outsTo addF A B (max A.length B.length+1))=val A+val B:=by
 have la:A.length≤max A.length B.length+1:=by omega
 have lb:B.length≤max A.length B.length+1:=by omega
 have h:=add_inv A B (max A.length B.length+1);rw[valTo_all la,valTo_all lb]at h;have a:=Nat.lt_of_lt_of_le (val_lt hA) (Nat.pow_le_pow_right Bs_pos (Nat.le_max_left A.length B.length));have b:=Nat.lt_of_lt_of_le (val_lt hB) (Nat.pow_le_pow_right Bs_pos (Nat.le_max_right A.length B.length));rw[Nat.pow_succ]at h
 generalize Bs^max A.length B.length=p at *
 have h2:p*2≤p*Bs:=Nat.mul_le_mul_left p two_le_Bs
 generalize p*Bs=q at *
 rcases Nat.eq_zero_or_pos (carryTo addF A B (max A.length B.length+1)) with g | g
 ·rw[g]at h;simpa using h
 ·have h1:=Nat.le_mul_of_pos_right q g;omega
theorem sub_inv {A B:List Nat}(hA:∀ x∈A,x<Bs) (hB:∀ x∈B,x<Bs) (k:Nat):val (outsTo subF A B k)+valTo B k=valTo A k+Bs^k*carryTo subF A B k:=by
 induction k with
 | zero=>simp [outsTo,carryTo,valTo,val]
 | succ k ih =>
  rw[val_outs_succ,carryTo,valTo,valTo,Nat.pow_succ];have hc:=carryTo_le subF_ok hA hB k
  generalize carryTo subF A B k=c at *
  have hx:=el_lt hA k;have hy:=el_lt hB k
  have h:(subF (el A k) (el B k) c).1+el B k+c=el A k+Bs*(subF (el A k) (el B k) c).2:=by
   show subLo _ _ _+_+_=_+Bs*subHi _ _ _
   unfold subLo subHi
   split
   ·rw[Nat.mod_eq_of_lt (by omega)];omega
   ·rw[show el A k+Bs - el B k - c=(el A k - el B k - c)+Bs by omega,Nat.add_mod_right,Nat.mod_eq_of_lt (by omega)];omega
  generalize (subF (el A k) (el B k) c).1=p at *
  generalize (subF (el A k) (el B k) c).2=q at *
  have:Bs^k*p+Bs^k*el B k+Bs^k*c=Bs^k*el A k+Bs^k*Bs*q:=by
   rw[Nat.mul_assoc,←Nat.mul_add,←Nat.mul_add,←Nat.mul_add,h]
  omega
theorem sub_outs {A B:List Nat}(hA:∀ x∈A,x<Bs) (hB:∀ x∈B,x<Bs) (hle:val B≤val A):val (outsTo subF A B (max A.length B.length+1))=val A - val B:=by
 have la:A.length≤max A.length B.length+1:=by omega
 have lb:B.length≤max A.length B.length+1:=by omega
 have h:=sub_inv hA hB (max A.length B.length+1);rw[valTo_all la,valTo_all lb]at h;have hl:=val_lt (outsTo_lt subF_ok hA hB (max A.length B.length+1));rw[outsTo_length]at hl
 generalize Bs^(max A.length B.length+1)=q at *
 rcases Nat.eq_zero_or_pos (carryTo subF A B (max A.length B.length+1)) with g | g
 ·rw[g]at h;omega
 ·have h1:=Nat.le_mul_of_pos_right q g;omega
theorem val_set {O:List Nat}{j:Nat}(h:j<O.length) (z:Nat):val (O.set j z)+Bs^j*el O j=val O+Bs^j*z:=by
 induction O generalizing j with
 | nil=>simp at h
 | cons x O ih =>
  cases j with
  | zero=>simp [val,el];omega
  | succ j =>
   have:=ih (j:=j) (by simpa using h);rw[List.set_cons_succ,val,val,show el (x :: O) (j+1)=el O j by simp [el],Nat.pow_succ,Nat.mul_comm (Bs^j) Bs,Nat.mul_assoc,Nat.mul_assoc];have e:=congrArg (Bs * ·) this;simp only[Nat.mul_add]at e;omega
theorem el_set_same {O:List Nat}{j:Nat}(h:j<O.length) (z:Nat):el (O.set j z) j=z:=by simp [el,h]
theorem el_set_other {O:List Nat}{i j:Nat}(h:i≠j) (z:Nat):el (O.set i z) j=el O j:=by simp [el,h]
theorem set_lt {O:List Nat}(h:∀ x∈O,x<Bs){j z:Nat}(hz:z<Bs):∀ x∈O.set j z,x<Bs:=by
 intro x hx
 rcases List.mem_or_eq_of_mem_set hx with hx | rfl
 ·exact h x hx
 ·exact hz
noncomputable def mulS (x y o c:Nat):Nat:=addLo (addLo (mulLo x y) c 0) o 0
noncomputable def mulO (x y o c:Nat):Nat:=mulHi x y+addHi (mulLo x y) c 0+addHi (addLo (mulLo x y) c 0) o 0
theorem addLo_lt (x y c:Nat):addLo x y c<Bs:=Nat.mod_lt _ Bs_pos
theorem subLo_lt (x y c:Nat):subLo x y c<Bs:=Nat.mod_lt _ Bs_pos
theorem mulLo_lt (x y:Nat):mulLo x y<Bs:=Nat.mod_lt _ Bs_pos
theorem addHi_le {x y c:Nat}(hx:x<Bs) (hy:y<Bs) (hc:c≤1):addHi x y c≤1:=(addF_ok x y c hx hy hc).2
theorem mulS_eq {x y o c:Nat}:mulS x y o c+Bs*mulO x y o c=x*y+o+c:=by
 unfold mulS mulO;have h1:mulLo x y+Bs*mulHi x y=x*y:=Nat.mod_add_div _ _;have h2:addLo (mulLo x y) c 0+Bs*addHi (mulLo x y) c 0=mulLo x y+c+0:=Nat.mod_add_div _ _;have h3:addLo (addLo (mulLo x y) c 0) o 0+Bs*addHi (addLo (mulLo x y) c 0) o 0=addLo (mulLo x y) c 0+o+0:=Nat.mod_add_div _ _;rw[Nat.mul_add,Nat.mul_add];omega
theorem mulO_lt {x y o c:Nat}(hx:x<Bs) (hy:y<Bs) (ho:o<Bs) (hc:c<Bs):mulO x y o c<Bs:=by
 have h:=mulS_eq (x:=x) (y:=y) (o:=o) (c:=c);have h1:x*y≤(Bs - 1)*(Bs - 1):=Nat.mul_le_mul (by omega) (by omega)
 obtain⟨b,hb⟩:∃ b,Bs=b+1:=⟨Bs - 1,by have:=Bs_pos;omega⟩
 rcases Nat.lt_or_ge (mulO x y o c) Bs with g | g
 ·exact g
 ·have h2:=Nat.mul_le_mul_left Bs g;rw[hb]at h1 h2 h ho hc;simp only[show b+1 - 1=b by omega]at h1
  have e:(b+1)*(b+1)=b*b+b+b+1:=by rw[Nat.mul_succ,Nat.succ_mul];omega
  omega
structure MulOut (A B:List Nat) (i:Nat) (O:List Nat):Prop where
 len:O.length=A.length+B.length
 lt:∀ x∈O,x<Bs
 zero:∀ j,i+B.length≤j→el O j=0
 val_eq:val O=valTo A i*val B
structure MulIn (A B:List Nat) (i k c:Nat) (O:List Nat):Prop where
 len:O.length=A.length+B.length
 lt:∀ x∈O,x<Bs
 c_lt:c<Bs
 zero:∀ j,i+B.length≤j→el O j=0
 val_eq:val O+Bs^(i+k)*c=valTo A i*val B+Bs^i*el A i*valTo B k
theorem MulOut.start (A B:List Nat):MulOut A B 0 (List.replicate (A.length+B.length) 0):=by
 refine⟨by simp,fun x hx=>?_,fun j _=>?_,?_⟩
 ·rw[(List.mem_replicate.1 hx).2];exact Bs_pos
 ·by_cases h:j<A.length+B.length
  ·simp [el,h]
  ·exact el_of_ge (by simp;omega)
 ·rw[val_zeros];simp [valTo]
theorem MulOut.inner {A B:List Nat}{i:Nat}{O:List Nat}(h:MulOut A B i O):MulIn A B i 0 0 O :=
 ⟨h.len,h.lt,Bs_pos,h.zero,by rw[h.val_eq];simp [valTo]⟩
theorem MulIn.next {A B:List Nat}{i k c:Nat}{O:List Nat}(h:MulIn A B i k c O) (hA:∀ x∈A,x<Bs) (hB:∀ x∈B,x<Bs) (hi:i<A.length) (hk:k<B.length) :
  MulIn A B i (k+1) (mulO (el A i) (el B k) (el O (i+k)) c) (O.set (i+k) (mulS (el A i) (el B k) (el O (i+k)) c)):=by
 have hlen:=h.len;refine⟨by rw[List.length_set];exact h.len,set_lt h.lt (addLo_lt ..),mulO_lt (el_lt hA i) (el_lt hB k) (el_lt h.lt _) h.c_lt,fun j hj=>?_,?_⟩
 ·rw[el_set_other (by omega)];exact h.zero j hj
 ·have h1:=val_set (O:=O) (j:=i+k) (by omega) (mulS (el A i) (el B k) (el O (i+k)) c);have h2:=h.val_eq;have h3:=mulS_eq (x:=el A i) (y:=el B k) (o:=el O (i+k)) (c:=c);rw[valTo,←Nat.add_assoc,Nat.pow_succ,Nat.mul_assoc (Bs^(i+k))];rw[Nat.mul_add (Bs^i*el A i)]
  have h4:Bs^(i+k)*(mulS (el A i) (el B k) (el O (i+k)) c+Bs*mulO (el A i) (el B k) (el O (i+k)) c)=Bs^(i+k)*(el A i*el B k+el O (i+k)+c):=by rw[h3]
  rw[Nat.mul_add,Nat.mul_add,Nat.mul_add]at h4
  have h5:Bs^i*el A i*(Bs^k*el B k)=Bs^(i+k)*(el A i*el B k):=by
   rw[Nat.pow_add];ac_rfl
  rw[h5]
  generalize Bs^(i+k)=p at *
  generalize val (O.set (i+k) (mulS (el A i) (el B k) (el O (i+k)) c))=r at *
  generalize mulS (el A i) (el B k) (el O (i+k)) c=m1 at *
  generalize Bs*mulO (el A i) (el B k) (el O (i+k)) c=m2 at *
  generalize valTo A i*val B=q at *
  generalize Bs^i*el A i*valTo B k=t at *
  generalize p*(el A i*el B k)=e1 at *
  generalize p*el O (i+k)=e2 at *
  generalize p*c=e3 at *
  generalize p*m1=e4 at *
  generalize p*m2=e5 at *
  omega
theorem MulIn.outer {A B:List Nat}{i c:Nat}{O:List Nat}(h:MulIn A B i B.length c O) (hi:i<A.length):MulOut A B (i+1) (O.set (i+B.length) c):=by
 have hlen:=h.len;refine⟨by rw[List.length_set];exact h.len,set_lt h.lt h.c_lt,fun j hj=>?_,?_⟩
 ·rw[el_set_other (by omega)];exact h.zero j (by omega)
 ·have h1:=val_set (O:=O) (j:=i+B.length) (by omega) c;have h2:=h.val_eq;rw[h.zero _ (Nat.le_refl _),Nat.mul_zero,Nat.add_zero]at h1;rw[h1,h2,valTo_all (Nat.le_refl _),valTo,Nat.add_mul]
theorem Bs_eq:Bs=2^64:=by rw[Bs_def]
theorem bl_val {A:List Nat}(hA:∀ x∈A,x<Bs){n:Nat}(h0:∀ i,n+1≤i→el A i=0) (hl:el A n≠0):bl (val A)=n*64+bl (el A n):=by
 have e:val A=valTo A n+Bs^n*el A n:=by
  have key:∀ k,valTo A (n+1+k)=valTo A (n+1):=by
   intro k
   induction k with
   | zero=>rfl
   | succ k ih=>rw[←Nat.add_assoc,valTo,ih,h0 _ (by omega)];simp
  rw[←valTo_all (A:=A) (k:=n+1+A.length) (by omega),key];rfl
 have h1:=valTo_lt hA n
 obtain⟨k,hk⟩:∃ k,bl (el A n)=k+1:=by
  cases e:bl (el A n) with
  | zero=>have:=(bl_le_iff (el A n) 0).1 (by omega);simp at this;omega
  | succ j=>exact⟨j,rfl⟩
 have a:2^k≤el A n:=by
  rcases Nat.lt_or_ge (el A n) (2^k) with g | g
  ·have:=(bl_le_iff (el A n) k).2 g;omega
  ·exact g
 have b:el A n<2^(k+1):=by rw[←hk];exact lt_bl _
 have hB:Bs^n=2^(n*64):=by rw[Bs_eq,←Nat.pow_mul,Nat.mul_comm]
 rw[hk,←Nat.add_assoc,e];refine bl_eq ?_ ?_
 ·rw[Nat.pow_add,←hB];have:=Nat.mul_le_mul_left (Bs^n) a;omega
 ·rw[Nat.add_assoc,Nat.pow_add,←hB];have:=Nat.mul_le_mul_left (Bs^n) (Nat.succ_le_of_lt b);rw[Nat.mul_succ]at this;omega
theorem bl_le_64 {n:Nat}(h:n<Bs):bl n≤64:=by rw[bl_le_iff,←Bs_eq];exact h
theorem val_zero_of {A:List Nat}(h:∀ i,el A i=0):val A=0:=by
 rw[val_eq_of_el (B:=[]) (fun j=>by rw[h];rfl)];rfl
end Go.Proofs.YtfofjalebhajhaaGreatDoor
namespace Go.Proofs.YtfofjalebhajhaaGreatDoor
open Go Go.RowKit
def Sl (s:Nat) (w:World) (v:Value) (n:Nat) (xs:List Value):Prop :=
 xs.length=n*s ∧ ∃ a cap,v = .slice a n cap∧n≤cap∧cap≤maxLen∧(a=none→n=0∧cap=0) ∧
  ∀ p,a=some p→0<n→p.spot=none∧p.block<w.heap.size ∧ ∀ j (h:j<xs.length),w.cell? ⟨p.block,p.off+j,none⟩=some xs[j]
def lv (x:Nat):Value:=.int .u64 (x:Int)
def Limbs (w:World) (v:Value) (A:List Nat):Prop:=Sl 1 w v A.length (A.map lv) ∧ ∀ x∈A,x<Bs
def Ext (w w':World):Prop:=Below w.heap.size w w'
theorem Ext.refl (w:World):Ext w w:=Below.refl _ _
theorem eR {w:World}:Ext w w:=Ext.refl w
theorem Hd {p:Prop}(h:p):RowKit.Hid p:=Lib.hid h
theorem Ext.trans {a b c:World}(h:Ext a b) (k:Ext b c):Ext a c:=Below.trans h (Below.mono k h.size)
theorem Ext.alloc {a w:World}(h:Ext a w) (o:Obj):Ext a (w.alloc o):=Below.alloc h h.size o
theorem Ext.drew {a w:World}(h:Ext a w):Ext a w.drew:=Below.drew h
theorem Ext.drewN {a w:World}(h:Ext a w) (n:Nat):Ext a (w.drewN n):=Below.trans h ⟨rfl,rfl,rfl,Nat.le_refl _,fun _ _=>rfl⟩
theorem Ext.below {a b c:World}(h:Ext a b) (k:Below a.heap.size b c):Ext a c:=Below.trans h k
theorem Sl.ext {s:Nat}{w w':World}{v:Value}{n:Nat}{xs:List Value}(h:Sl s w v n xs) (k:Ext w w'):Sl s w' v n xs:=by
 obtain⟨h1,a,cap,h2,h3,h4,h5,h6⟩:=h;refine⟨h1,a,cap,h2,h3,h4,h5,fun p hp h0=>?_⟩;obtain⟨q1,q2,q3⟩:=h6 p hp h0;exact⟨q1,Nat.lt_of_lt_of_le q2 k.size,fun j hj=>by rw[←q3 j hj];exact Below.cell k (p:=⟨p.block,p.off+j,none⟩) q2⟩
theorem Limbs.ext {w w':World}{v:Value}{A:List Nat}(h:Limbs w v A) (k:Ext w w'):Limbs w' v A:=⟨h.1.ext k,h.2⟩
theorem Limbs.nil (w:World):Limbs w (.slice none 0 0) [] :=
 ⟨⟨rfl,none,0,rfl,Nat.le_refl _,Nat.zero_le _,fun _=>⟨rfl,rfl⟩,fun p hp _=>by cases hp⟩,fun x hx=>by cases hx⟩
theorem Limbs.open {w:World}{v:Value}{A:List Nat}(h:Limbs w v A) :
  ∃ a cap,v = .slice a A.length cap∧A.length≤cap∧cap≤maxLen ∧
   ∀ i,i<A.length → ∃ b o,a=some ⟨b,o,none⟩∧b<w.heap.size ∧ ∀ j,j<A.length→w.cell? ⟨b,o+j,none⟩=some (.int .u64 (el A j:Nat)):=by
 obtain⟨⟨h1,a,cap,h2,h3,h4,h5,h6⟩,h7⟩:=h;refine⟨a,cap,h2,h3,h4,fun i hi=>?_⟩
 cases a with
 | none=>have:=h5 rfl;omega
 | some p =>
  obtain⟨q1,q2,q3⟩:=h6 p rfl (by omega);obtain⟨b,o,sp⟩:=p;subst q1;refine⟨b,o,rfl,q2,fun j hj=>?_⟩;rw[q3 j (by simpa using hj)];simp [lv,el_of_lt hj]
theorem Limbs.lt {w:World}{v:Value}{A:List Nat}(h:Limbs w v A) (i:Nat):el A i<Bs:=el_lt h.2 i
def Own (B:Nat) (e:TypeId) (s:Nat) (w:World) (v:Value) (n:Nat) (xs:List Value):Prop :=
 w.ownsRow B e s v n xs∨(∃ a,v = .slice a 0 0∧n=0∧xs = [] ∧ ∀ p,a=some p→p.spot=none∧p.block<w.heap.size)
theorem Own.sl {B:Nat}{e:TypeId}{s:Nat}{w:World}{v:Value}{n:Nat}{xs:List Value}(h:Own B e s w v n xs):Sl s w v n xs:=by
 rcases h with⟨h1,h2⟩ | ⟨a,rfl,rfl,rfl,h⟩
 ·refine⟨h1,?_⟩
  rcases h2 with⟨rfl,rfl⟩ | ⟨g,cap,cur,rfl,hg,hh,h3,h4,h5,h6⟩
  ·exact⟨none,0,rfl,Nat.le_refl _,Nat.zero_le _,fun _=>⟨rfl,rfl⟩,fun p hp _=>by cases hp⟩
  ·refine⟨some ⟨g,0,none⟩,cap,rfl,h3,h4,(fun e=>by cases e),fun p hp _=>?_⟩;obtain rfl:=Option.some.inj hp;refine⟨rfl,(Array.getElem?_eq_some_iff.1 hh).1,fun j hj=>?_⟩
   have hjc:j<cur.size:=by
    rw[h5];exact Nat.lt_of_lt_of_le hj (by rw[h1];exact Nat.mul_le_mul_right _ h3)
   have e1:xs[j]=cur[j]:=by
    have:(cur.toList.take (n*s))[j]? = some xs[j]:=by rw[h6];exact List.getElem?_eq_getElem hj
    rw[List.getElem?_take_of_lt (by omega)]at this
    simpa [hjc] using this.symm
   rw[e1];simp [World.cell?,hh,hjc]
 ·exact⟨by simp,a,0,rfl,Nat.le_refl _,Nat.zero_le _,fun _=>⟨rfl,rfl⟩,fun p hp h0=>absurd h0 (by omega)⟩
theorem Own.ext {B:Nat}{e:TypeId}{s:Nat}{w w':World}{v:Value}{n:Nat}{xs:List Value}(h:Own B e s w v n xs) (k:Ext w w'):Own B e s w' v n xs:=by
 rcases h with⟨h1,h2⟩ | ⟨a,rfl,rfl,rfl,h⟩
 ·refine .inl ⟨h1,?_⟩
  rcases h2 with h2 | ⟨g,cap,cur,rfl,hg,hh,rest⟩
  ·exact .inl h2
  ·exact .inr ⟨g,cap,cur,rfl,hg,by rw[k.block g (Array.getElem?_eq_some_iff.1 hh).1];exact hh,rest⟩
 ·exact .inr ⟨a,rfl,rfl,rfl,fun p hp=>⟨(h p hp).1,Nat.lt_of_lt_of_le (h p hp).2 k.size⟩⟩
theorem Own.mono {B B':Nat}{e:TypeId}{s:Nat}{w:World}{v:Value}{n:Nat}{xs:List Value}(h:Own B e s w v n xs) (k:B'≤B):Own B' e s w v n xs:=by
 rcases h with⟨h1,h2⟩ | h
 ·refine .inl ⟨h1,?_⟩
  rcases h2 with h2 | ⟨g,cap,cur,rfl,hg,rest⟩
  ·exact .inl h2
  ·exact .inr ⟨g,cap,cur,rfl,Nat.le_trans k hg,rest⟩
 ·exact .inr h
def OwnL (B:Nat) (w:World) (v:Value) (A:List Nat):Prop:=Own B 53 1 w v A.length (A.map lv) ∧ ∀ x∈A,x<Bs
theorem OwnL.limbs {B:Nat}{w:World}{v:Value}{A:List Nat}(h:OwnL B w v A):Limbs w v A:=⟨h.1.sl,h.2⟩
theorem OwnL.ext {B:Nat}{w w':World}{v:Value}{A:List Nat}(h:OwnL B w v A) (k:Ext w w'):OwnL B w' v A:=⟨h.1.ext k,h.2⟩
theorem OwnL.mono {B B':Nat}{w:World}{v:Value}{A:List Nat}(h:OwnL B w v A) (k:B'≤B):OwnL B' w v A:=⟨h.1.mono k,h.2⟩
theorem OwnL.nil (B:Nat) (w:World):OwnL B w (.slice none 0 0) []:=⟨.inl (World.ownsRow_nil ..),fun x hx=>by cases hx⟩
theorem Ext.grown {a w w':World}{row:Option Nat}(h:Ext a w) (hg:w.grownBy w' row) (hr:∀ k,row=some k→a.heap.size≤k):Ext a w' :=
 Below.grown h hg h.size hr
theorem cell_set_same {w:World}{b o:Nat}{u:Value}(h:w.cell? ⟨b,o,none⟩=some u) (v:Value):(w.setCell ⟨b,o,none⟩ v).cell? ⟨b,o,none⟩=some v:=by
 simp only[World.setCell,World.cell?,Array.getElem?_modify,if_true]at h ⊢
 cases e:w.heap[b]? with
 | none=>rw[e]at h;cases h
 | some x =>
  rw[e]at h
  cases x with
  | cells c t f =>
   simp only[Option.isSome_none,Bool.false_eq_true,if_false]at h;simp only[Option.map_some,Option.isSome_none,Bool.false_eq_true,if_false];exact Array.getElem?_setIfInBounds_self_of_lt (Array.getElem?_eq_some_iff.1 h).1
  | _=>cases h
theorem cell_set_other {w:World}{b o b' o':Nat}(h:b≠b'∨o≠o') (v:Value):(w.setCell ⟨b,o,none⟩ v).cell? ⟨b',o',none⟩=w.cell? ⟨b',o',none⟩:=by
 by_cases hb:b=b'
 ·subst hb
  have ho:o≠o':=by omega
  simp only[World.setCell,World.cell?,Array.getElem?_modify,if_true]
  cases e:w.heap[b]? with
  | none=>rfl
  | some x =>
   cases x with
   | cells c t f=>simp [Array.getElem?_setIfInBounds_ne ho]
   | _=>rfl
 ·exact World.cell?_of_block (w:=w) (Below.heap_setCell _ _ _ _ (fun e=>hb e.symm))
theorem wpList_append_sl {P:Program}{w:World}{ops:Array Oper}{rest:List Oper}{o:Oper}{a:Act}{Q:Exit→Act→World→Prop}(hgd:o.guard=none) (s x:Operand) (t:TypeId)
  (ho:o.op = .call { callee:=.builtin .append,args:=#[s,x],argTypes:=#[t,t] })
  (base:Nat) (e:TypeId) (z:Value) (size bytes:Nat) (ht:P.underlying t=some (.slice e)) (hinfo:(P.info? e).map (fun i=>(i.zero,i.size,i.bytes))=some (some z,size,bytes))
  (hzs:z.cells.size=size) (hsz:0<size)
  (v:Value) (n:Nat) (xs:List Value) (hs:a.eval s=v) (hown:w.ownsRow base e size v n xs)
  (u:Value) (m:Nat) (news:List Value) (hx:a.eval x=u) (hu:Sl size w u m news) (h1:∀ u∈news,u.oneCell'=true)
  (h63:n+m≤maxLen) (hbytes:(n+m)*bytes≤140737488355328) (hbase:base≤w.heap.size)
  (h:∀ v' w',w'.ownsRow base e size v' (n+m) (xs ++ news)→w.grownBy w' v.ownBlock→wpList P ops Q rest (a.put o.dst v') w'):wpList P ops Q (o :: rest) a w:=by
 obtain⟨i,hi,hz,hsize,hby⟩:=info_parts hinfo;obtain⟨hl,ad,cap,rfl,hm,hc,hn,hp⟩:=hu
 cases ad with
 | none =>
  obtain⟨rfl,rfl⟩:=hn rfl;have:news = []:=List.eq_nil_of_length_eq_zero (by simpa using hl);subst this;refine wpList_append_own_none hgd s x t ho base e i size ht hi v n xs hs hown hx ?_;exact h v w (by simpa using hown) (World.grownBy.refl _ _)
 | some p =>
  refine wpList_append_own w hgd s x t ho base e i z size bytes ht hi hz hsize hby hzs hsz v n xs hs hown p m cap news hx hl ?_ h1 h63 hbytes hbase (fun v' w' r1 r2 _=>h v' w' r1 r2);intro j y hj;obtain⟨hj',rfl⟩:=List.getElem?_eq_some_iff.1 hj
  obtain⟨q1,q2,q3⟩:=hp p rfl (by
   rcases Nat.eq_zero_or_pos m with g | g
   ·rw[g,Nat.zero_mul]at hl;omega
   ·exact g)
  obtain⟨b,of,sp⟩:=p;subst q1;rw[Addr.add_lit];exact q3 j hj'
theorem lmax_fits {n:Nat}(h:n≤Lmax):n≤maxLen∧n*8≤140737488355328:=by
 rw[Lmax_def]at h;unfold maxLen;omega
theorem lv_oneCell (A:List Nat):∀ u∈A.map lv,u.oneCell'=true:=by
 intro u hu;obtain⟨_,_,rfl⟩:=List.mem_map.1 hu;rfl
theorem info_u64:(Tryz.prog.info? 53).map (fun i=>(i.zero,i.size,i.bytes))=some (some (.int .u64 0),1,8):=by kernel_rfl
theorem append_limbs {w:World}{ops:Array Oper}{rest:List Oper}{o:Oper}{a:Act}{Q:Exit→Act→World→Prop}(hgd:o.guard=none) (s x:Operand) (t:TypeId)
  (ht:Tryz.prog.underlying t=some (.slice 53)) (ho:o.op = .call { callee:=.builtin .append,args:=#[s,x],argTypes:=#[t,t] })
  (base:Nat) (v:Value) (n:Nat) (C:List Value) (hs:a.eval s=v) (hown:w.ownsRow base 53 1 v n C) (hbase:base≤w.heap.size)
  (u:Value) (A:List Nat) (hx:a.eval x=u) (hA:Limbs w u A) (hlen:n+A.length≤Lmax)
  (h:∀ v' w',w'.ownsRow base 53 1 v' (n+A.length) (C ++ A.map lv)→w.grownBy w' v.ownBlock→wpList Tryz.prog ops Q rest (a.put o.dst v') w'):wpList Tryz.prog ops Q (o :: rest) a w :=
 wpList_append_sl hgd s x t ho base 53 (.int .u64 0) 1 8 ht info_u64 rfl (by decide) v n C hs hown u A.length (A.map lv) hx hA.1 (lv_oneCell A) (lmax_fits hlen).1 (lmax_fits hlen).2 hbase h
theorem make_limbs {w:World}{ops:Array Oper}{rest:List Oper}{o:Oper}{a:Act}{Q:Exit→Act→World→Prop}(hgd:o.guard=none) (l c:Operand) (t:TypeId)
  (ht:Tryz.prog.underlying t=some (.slice 53)) (hop:o.op=Op.makeSlice t l c) (n:Nat) (C:Int) (hC:C=(n:Int)) (hl:a.eval l = .int .i64 C) (hc:a.eval c = .int .i64 C) (hn:n≤Lmax)
  (h:∀ w',w'.ownsRow w.heap.size 53 1 (.slice (some ⟨w.heap.size,0,none⟩) n n) n ((List.replicate n 0).map lv)→w.grownBy w' none →
   wpList Tryz.prog ops Q rest (a.put o.dst (.slice (some ⟨w.heap.size,0,none⟩) n n)) w'):wpList Tryz.prog ops Q (o :: rest) a w:=by
 obtain⟨i,hi,hz,hsize,hby⟩:=info_parts info_u64
 have hn':n≤1099511627776:=by rw[←Lmax_def];exact hn
 refine wpList_make_full w hgd l c t hop w.heap.size 53 i (.int .u64 0) 1 ht hi hz hsize .i64 .i64 C C n hl hc hC hC (by rw[hby];omega) (lmax_fits hn).1 (Nat.le_refl _) (fun w' h1 h2=>h w' ?_ h2);rw[show (Value.int IntKind.u64 0).cells = #[Value.int IntKind.u64 0] from rfl,Nat.mul_one,toList_madeCells_one]at h1
 simpa [lv] using h1
def RetNat (w:World) (n:Nat) (e:Ending) (w':World):Prop:=∃ v,e = .returned v∧OwnL w.heap.size w' v (dig n)∧Ext w w'
theorem ret_eq {a b:Value}(h:a=b):Ending.returned a = .returned b:=by rw[h]
theorem int_eq {k:IntKind}{a b:Int}(h:a=b):Value.int k a = .int k b:=by rw[h]
end Go.Proofs.YtfofjalebhajhaaGreatDoor
namespace Go.Proofs.YtfofjalebhajhaaGreatDoor
open Go Go.RowKit
def sl (a:Act) (k:Nat):Value:=a.tmps.getD k undef
def at_ (ops:Array Oper) (a:Act) (i:Nat):Value:=match (ops[i]?).bind (·.dst) with | some d=>sl a d | none=>undef
theorem sl_same {a:Act}{k:Nat}{v:Value}(h:k<a.tmps.size):sl (a.put (some k) v) k=v:=by
 simp [sl,Act.put,Array.getD,h]
theorem sl_other {a:Act}{j k:Nat}{v:Value}(h:j≠k):sl (a.put (some j) v) k=sl a k:=by
 simp only[sl,Act.put,Array.getD_eq_getD_getElem?,Array.getElem?_setIfInBounds_ne h]
structure Agree (D:List Nat) (a0 a:Act):Prop where
 size:a.tmps.size=a0.tmps.size
 defers:a.defers=a0.defers
 slots:∀ k,k ∉ D→sl a k=sl a0 k
theorem Agree.refl (D:List Nat) (a:Act):Agree D a a:=⟨rfl,rfl,fun _ _=>rfl⟩
theorem Agree.put {D:List Nat}{a0 a:Act}(h:Agree D a0 a){d:Option Nat}{v:Value}(hd:∀ k,d=some k→k∈D):Agree D a0 (a.put d v):=by
 cases d with
 | none=>exact h
 | some k =>
  refine⟨by simp [Act.put,h.size],h.defers,fun j hj=>?_⟩;rw[sl_other (fun e=>hj (by rw[←e];exact hd k rfl))];exact h.slots j hj
def lay (D:List Nat) (a0:Act) (X:Nat→Value):Act:={ a0 with tmps:=D.foldl (fun t d=>t.setIfInBounds d (X d)) a0.tmps }
theorem foldl_size (X:Nat→Value):∀ (D:List Nat) (t:Array Value),(D.foldl (fun t d=>t.setIfInBounds d (X d)) t).size=t.size
 | [],_=>rfl
 | d :: D,t=>by rw[List.foldl_cons,foldl_size X D];simp
theorem foldl_get (X:Nat→Value):∀ (D:List Nat) (t:Array Value) (k:Nat),k<t.size →
  (D.foldl (fun t d=>t.setIfInBounds d (X d)) t).getD k undef=if k∈D then X k else t.getD k undef
 | [],t,k,_=>by simp
 | d :: D,t,k,hk=>by
  rw[List.foldl_cons,foldl_get X D _ k (by simpa using hk)]
  by_cases h:k∈D
  ·simp [h]
  ·by_cases e:k=d
   ·subst e;simp [h,Array.getD,hk]
   ·simp only[h,if_false,List.mem_cons,e,or_self];simp only[Array.getD_eq_getD_getElem?,Array.getElem?_setIfInBounds_ne (Ne.symm e)]
theorem tmps_lay {t u:Array Value}{D:List Nat}{X:Nat→Value}(hs:t.size=u.size) (hX:∀ k,t.getD k undef=X k) (h:∀ k,k ∉ D→t.getD k undef=u.getD k undef) :
  t=D.foldl (fun t d=>t.setIfInBounds d (X d)) u:=by
 have hz:=foldl_size X D u;have hg:=foldl_get X D u
 obtain⟨r,hr⟩:∃ r,r=D.foldl (fun t d=>t.setIfInBounds d (X d)) u:=⟨_,rfl⟩
 rw[←hr]at hz hg ⊢
 refine Array.ext (by rw[hz,hs]) fun k h1 h2=>?_
 have e2:=hg k (by rw[←hs];exact h1)
 have g1:t.getD k undef=t[k]:=by simp [Array.getD,h1]
 have g2:r.getD k undef=r[k]:=by simp [Array.getD,h2]
 rw[←g1,←g2,e2]
 by_cases hk:k∈D
 ·rw[if_pos hk,hX]
 ·rw[if_neg hk];exact h k hk
theorem Agree.lay {D:List Nat}{a0 a:Act}(h:Agree D a0 a):a=lay D a0 (sl a):=by
 obtain⟨t,ds⟩:=a;have e:=tmps_lay (t:=t) (u:=a0.tmps) (D:=D) (X:=sl ⟨t,ds⟩) h.size (fun _=>rfl) h.slots;have hd:ds=a0.defers:=h.defers;unfold Proofs.YtfofjalebhajhaaGreatDoor.lay;rw[←e,←hd]
section
variable {P:Program}{ops:Array Oper}{Q:Exit→Act→World→Prop}
def binds (e:Edge):Bool:=Region.binds .any e
def dIn (ops:Array Oper) (tail:Nat→Bool) (D:List Nat):Bool :=
 (List.range ops.size).all fun i=>tail i || match (ops[i]?).bind (·.dst) with
  | none=>true
  | some d=>D.contains d
def dstOk (ops:Array Oper) (tail:Nat→Bool) (n:Nat):Bool :=
 (List.range ops.size).all fun i=>tail i || match (ops[i]?).bind (·.dst) with
  | none=>false
  | some d=>decide (d<n) && (List.range ops.size).all fun j=>j == i || tail j || !((ops[j]?).bind (·.dst) == some d)
def blkOf:Value→Nat
 | .pointer (some p)=>p.block
 | _=>0
structure Mid (ops:Array Oper) (D:List Nat) (tail fr:Nat→Bool) (Post:Nat→Value→World→Prop) (S:World→Prop) (a0:Act) (L:Array Bool) (a:Act) (w:World):Prop where
 size:L.size=ops.size
 tl:∀ t,tail t=true→L.getD t false=false
 ag:Agree D a0 a
 post:∀ i,L.getD i false=true→Post i (at_ ops a i) w
 s:S w
 fresh:∀ i j,i≠j→fr i=true→fr j=true→L.getD i false=true→L.getD j false=true→blkOf (at_ ops a i)≠blkOf (at_ ops a j)
def unl (n:Nat) (L:Array Bool):Nat:=(List.range n).countP fun i => !L.getD i true
theorem countP_step {p q:Nat→Bool}{i:Nat}(hi:p i=true) (hq:q i=false) (h:∀ j,q j=true→p j=true):∀ l:List Nat,i∈l→l.countP q+1≤l.countP p:=by
 intro l
 induction l with
 | nil=>intro h;cases h
 | cons a l ih =>
  intro hm
  have hle:l.countP q≤l.countP p:=List.countP_mono_left fun j _=>h j
  rw[List.countP_cons,List.countP_cons]
  by_cases e:a=i
  ·subst e;rw[hi,hq];simp;omega
  ·have hm':i∈l:=by rcases List.mem_cons.1 hm with e' | e';exact absurd e'.symm e;exact e'
   have:=ih hm';have h1:=h a
   cases hqa:q a
   ·simp;omega
   ·rw[h1 hqa];simp;omega
theorem unl_step {n i:Nat}{L:Array Bool}(hn:i<n) (hL:i<L.size) (h:L.getD i true=false):unl n (L.setIfInBounds i true)+1≤unl n L:=by
 refine countP_step (i:=i) (by rw[h];rfl) (by simp [Array.getD,hL]) (fun j hj=>?_) _ (List.mem_range.2 hn)
 by_cases e:i=j
 ·subst e;simp [Array.getD,hL]at hj
 ·rwa [getD_set_ne true e]at hj
theorem ready_spec {L:Array Bool}{i:Nat}(h:i∈Region.ready .any ops L):i<ops.size∧L.getD i true=false ∧ ∃ o,ops[i]? = some o ∧ ∀ e∈o.after,binds e=true→L.getD e.on false=true:=by
 obtain⟨h1,o,ho,h2⟩:=mem_ready.1 h;exact⟨(Array.getElem?_eq_some_iff.1 ho).1,h1,o,ho,h2⟩
theorem dst_mem {D:List Nat}{tail:Nat→Bool}(hD:dIn ops tail D=true){i:Nat}{o:Oper}(ho:ops[i]? = some o) (ht:tail i=false):∀ k,o.dst=some k→k∈D:=fun k hk=>by
 have:=List.all_eq_true.1 hD i (List.mem_range.2 (Array.getElem?_eq_some_iff.1 ho).1);rw[ht,Bool.false_or,ho,Option.bind_some,hk]at this
 simpa using this
theorem Mid.step {D:List Nat}{tail fr:Nat→Bool}{Post:Nat→Value→World→Prop}{S:World→Prop}{a0 a:Act}{L:Array Bool}{w w':World}{i:Nat}{o:Oper}{v:Value}
  (hDi:dIn ops tail D=true) (hd:dstOk ops tail a0.tmps.size=true) (hmono:∀ i v w w',Post i v w→Ext w w'→Post i v w') (hS:∀ w w',S w→Ext w w'→S w') (hfr:∀ i v w,fr i=true→Post i v w→blkOf v<w.heap.size)
  (h:Mid ops D tail fr Post S a0 L a w) (ho:ops[i]? = some o) (hi:L.getD i true=false) (ht:tail i=false) (hp:Post i v w') (hx:Ext w w') (hf:fr i=true→blkOf v=w.heap.size) :
  Mid ops D tail fr Post S a0 (L.setIfInBounds i true) (a.put o.dst v) w':=by
 have hin:i<ops.size:=(Array.getElem?_eq_some_iff.1 ho).1
 have hiL:i<L.size:=by rw[h.size];exact hin
 have hdi:=List.all_eq_true.1 hd i (List.mem_range.2 hin);rw[ht,Bool.false_or,ho]at hdi
 obtain⟨d,hod⟩:∃ d,o.dst=some d:=by
  cases e:o.dst with
  | none=>simp [e]at hdi
  | some d=>exact⟨d,rfl⟩
 simp only[Option.bind_some,hod,Bool.and_eq_true,decide_eq_true_eq]at hdi;obtain⟨hdn,hdu⟩:=hdi
 have hself:at_ ops (a.put o.dst v) i=v:=by
  unfold at_;rw[ho,Option.bind_some,hod];exact sl_same (by rw[h.ag.size];exact hdn)
 have hoth:∀ j,j≠i→L.getD j false=true→at_ ops (a.put o.dst v) j=at_ ops a j:=by
  intro j hj hL
  have hjn:j<ops.size:=by
   rcases Nat.lt_or_ge j L.size with g | g
   ·rw[←h.size];exact g
   ·simp [Array.getD,Nat.not_lt.2 g]at hL
  have h1:=List.all_eq_true.1 hdu j (List.mem_range.2 hjn)
  have htj:tail j=false:=by
   cases e:tail j with
   | false=>rfl
   | true=>rw[h.tl j e]at hL;cases hL
  simp only[beq_iff_eq,hj,htj,Bool.or_false,Bool.or_eq_true,false_or,Bool.not_eq_true',beq_eq_false_iff_ne,ne_eq]at h1;unfold at_
  split
  ·rename_i k hk
   rw[hod]
   refine sl_other fun e=>?_
   subst e;simp [hk]at h1
  ·rfl
 have hold:∀ j,j≠i→(L.setIfInBounds i true).getD j false=true→L.getD j false=true:=fun j hj hL=>by rwa [getD_set_ne false (Ne.symm hj)]at hL
 refine⟨by rw[Array.size_setIfInBounds];exact h.size,fun t htt=>?_,h.ag.put (dst_mem hDi ho ht),fun j hL=>?_,hS _ _ h.s hx,fun j k hjk fj fk hLj hLk=>?_⟩
 ·rw[getD_set_ne false (fun e=>by rw[e,htt]at ht;cases ht)];exact h.tl t htt
 ·by_cases e:j=i
  ·subst e;rw[hself];exact hp
  ·rw[hoth j e (hold j e hL)];exact hmono _ _ _ _ (h.post j (hold j e hL)) hx
 ·by_cases e1:j=i
  ·subst e1;have e2:k≠j:=Ne.symm hjk;rw[hself,hoth k e2 (hold k e2 hLk),hf fj];exact Nat.ne_of_gt (hfr k _ w fk (h.post k (hold k e2 hLk)))
  ·by_cases e2:k=i
   ·subst e2;rw[hself,hoth j e1 (hold j e1 hLj),hf fk];exact Nat.ne_of_lt (hfr j _ w fj (h.post j (hold j e1 hLj)))
   ·rw[hoth j e1 (hold j e1 hLj),hoth k e2 (hold k e2 hLk)];exact h.fresh j k hjk fj fk (hold j e1 hLj) (hold k e2 hLk)
end
end Go.Proofs.YtfofjalebhajhaaGreatDoor
namespace Go.Proofs
open Go.Shelf
def Tryz.lays231_ren:Go.Shelf.Ren:=⟨fun | 231 => 119 | n=>n,fun | 9 => 9 | 5 => 5 | 3 => 3 | 4 => 4 | n=>n,fun | n=>n⟩
theorem Tryz.lays231:Go.Proofs.Lays.n231 Tryz.prog Tryz.lays231_ren:={
 mixed:=by kernel_rfl
 f231:=Tryz.func119.trans (congrArg some (by kernel_rfl))
 t3:=Tryz.underlying3
 a3:=Tryz.isAgg3
 z3:=Tryz.sizeOf3
 v3:=Tryz.zeroValue3
 t4:=Tryz.underlying4
 a4:=Tryz.isAgg4
 z4:=Tryz.sizeOf4
 v4:=Tryz.zeroValue4
 t5:=Tryz.underlying5
 a5:=Tryz.isAgg5
 z5:=Tryz.sizeOf5
 v5:=Tryz.zeroValue5
 t9:=Tryz.underlying9
 a9:=Tryz.isAgg9
 z9:=Tryz.sizeOf9
 v9:=Tryz.zeroValue9 }
def Tryz.lays264_ren:Go.Shelf.Ren:=⟨fun | 264 => 131 | n=>n,fun | 53 => 53 | 46 => 181 | n=>n,fun | n=>n⟩
theorem Tryz.lays264:Go.Proofs.Lays.n264 Tryz.prog Tryz.lays264_ren:={
 mixed:=by kernel_rfl
 f264:=Tryz.func131.trans (congrArg some (by kernel_rfl))
 t46:=Tryz.underlying181
 a46:=Tryz.isAgg181
 z46:=Tryz.sizeOf181
 v46:=Tryz.zeroValue181
 t53:=Tryz.underlying53
 a53:=Tryz.isAgg53
 z53:=Tryz.sizeOf53
 v53:=Tryz.zeroValue53 }
def Tryz.lays25_ren:Go.Shelf.Ren:=⟨fun | 25 => 132 | n=>n,fun | 22 => 53 | n=>n,fun | n=>n⟩
theorem Tryz.lays25:Go.Proofs.Lays7.n25 Tryz.prog Tryz.lays25_ren:={
 mixed:=by kernel_rfl
 f25:=Tryz.func132.trans (congrArg some (by kernel_rfl))
 t22:=Tryz.underlying53
 a22:=Tryz.isAgg53
 z22:=Tryz.sizeOf53
 v22:=Tryz.zeroValue53
 i22:=by kernel_rfl }
def Tryz.lays26_ren:Go.Shelf.Ren:=⟨fun | 26 => 150 | n=>n,fun | 22 => 53 | n=>n,fun | n=>n⟩
theorem Tryz.lays26:Go.Proofs.Lays7.n26 Tryz.prog Tryz.lays26_ren:={
 mixed:=by kernel_rfl
 f26:=Tryz.func150.trans (congrArg some (by kernel_rfl))
 t22:=Tryz.underlying53
 a22:=Tryz.isAgg53
 z22:=Tryz.sizeOf53
 v22:=Tryz.zeroValue53
 i22:=by kernel_rfl }
def Tryz.lays134_ren:Go.Shelf.Ren:=⟨fun | 134 => 154 | 129 => 159 | n=>n,fun | 53 => 53 | 3 => 3 | 4 => 4 | 46 => 181 | 5 => 5 | 9 => 9 | n=>n,fun | n=>n⟩
theorem Tryz.lays134:Go.Proofs.Lays.n134 Tryz.prog Tryz.lays134_ren:={
 mixed:=by kernel_rfl
 f129:=Tryz.func159.trans (congrArg some (by kernel_rfl))
 f134:=Tryz.func154.trans (congrArg some (by kernel_rfl))
 t3:=Tryz.underlying3
 a3:=Tryz.isAgg3
 z3:=Tryz.sizeOf3
 v3:=Tryz.zeroValue3
 t4:=Tryz.underlying4
 a4:=Tryz.isAgg4
 z4:=Tryz.sizeOf4
 v4:=Tryz.zeroValue4
 t5:=Tryz.underlying5
 a5:=Tryz.isAgg5
 z5:=Tryz.sizeOf5
 v5:=Tryz.zeroValue5
 t9:=Tryz.underlying9
 a9:=Tryz.isAgg9
 z9:=Tryz.sizeOf9
 v9:=Tryz.zeroValue9
 t46:=Tryz.underlying181
 a46:=Tryz.isAgg181
 z46:=Tryz.sizeOf181
 v46:=Tryz.zeroValue181
 t53:=Tryz.underlying53
 a53:=Tryz.isAgg53
 z53:=Tryz.sizeOf53
 v53:=Tryz.zeroValue53 }
def Tryz.lays169_ren:Go.Shelf.Ren:=⟨fun | 169 => 95 | n=>n,fun | 70 => 123 | 9 => 9 | 0 => 0 | 72 => 126 | 37 => 124 | 127 => 166 | 3 => 3 | 5 => 5 | n=>n,fun | n=>n⟩
theorem Tryz.lays169:Go.Proofs.Lays.n169 Tryz.prog Tryz.lays169_ren:={
 mixed:=by kernel_rfl
 f169:=Tryz.func95.trans (congrArg some (by kernel_rfl))
 t0:=Tryz.underlying0
 a0:=Tryz.isAgg0
 z0:=Tryz.sizeOf0
 v0:=Tryz.zeroValue0
 t3:=Tryz.underlying3
 a3:=Tryz.isAgg3
 z3:=Tryz.sizeOf3
 v3:=Tryz.zeroValue3
 t9:=Tryz.underlying9
 a9:=Tryz.isAgg9
 z9:=Tryz.sizeOf9
 v9:=Tryz.zeroValue9
 t37:=Tryz.underlying124
 a37:=Tryz.isAgg124
 z37:=Tryz.sizeOf124
 v37:=Tryz.zeroValue124
 t70:=Tryz.underlying123
 a70:=Tryz.isAgg123
 z70:=Tryz.sizeOf123
 v70:=Tryz.zeroValue123
 t72:=Tryz.underlying126
 a72:=Tryz.isAgg126
 z72:=Tryz.sizeOf126
 v72:=Tryz.zeroValue126
 t127:=Tryz.underlying166
 a127:=Tryz.isAgg166
 z127:=Tryz.sizeOf166
 v127:=Tryz.zeroValue166 }
theorem Tryz.Builder_Extra_169:Builder.Extra Tryz.prog Tryz.lays169_ren:={
 sizeBuilder:=by kernel_rfl
 liesBuilder:=by kernel_rfl
 t5:=Tryz.underlying5
 a5:=Tryz.isAgg5
 z5:=Tryz.sizeOf5
 v5:=Tryz.zeroValue5
 infoByte:=by kernel_rfl
 cellsByte:=by kernel_rfl
 sizeByte:=by kernel_rfl
 neB5:=by decide }
end Go.Proofs
namespace Go.Proofs.YtfofjalebhajhaaGreatDoor
open Go Go.RowKit Go.Shelf
theorem one_calls (w:World) (c:Nat) :
  Calls Tryz.prog 133 #[.int .u64 (c:Int)] w fun e w'=>e = .returned (.int .u64 ((min c 1:Nat):Int))∧w=w':=by
 go_enter Tryz.func133,Tryz.ntmps133
 go_wp2
 all_goals (go_ret;exact⟨ret_eq (int_eq (by omega)),rfl⟩)
theorem add64_run (x y c:Nat) (hc:c≤1) (w:World) :
  (callFunc 132 #[.int .u64 (x:Int),.int .u64 (y:Int),.int .u64 (c:Int)]).run Tryz.prog w =
   .ok (.value (.tuple #[.int .u64 (addLo x y c:Nat),.int .u64 (addHi x y c:Nat)])) w:=by
 unfold addLo addHi;rw[Bs_def];exact Any7.bits_Add64 Tryz.lays25 x y c hc w
theorem sub64_run (x y c:Nat) (hc:c≤1) (w:World) :
  (callFunc 150 #[.int .u64 (x:Int),.int .u64 (y:Int),.int .u64 (c:Int)]).run Tryz.prog w =
   .ok (.value (.tuple #[.int .u64 (subLo x y c:Nat),.int .u64 (subHi x y c:Nat)])) w:=by
 unfold subLo subHi;rw[Bs_def];exact Any7.bits_Sub64 Tryz.lays26 x y c hc w
theorem mul64_calls (x y:Nat) (hx:x<Bs) (hy:y<Bs) (w:World) :
  Calls Tryz.prog 131 #[.int .u64 (x:Int),.int .u64 (y:Int)] w fun e w' =>
   e = .returned (.tuple #[.int .u64 (mulHi x y:Nat),.int .u64 (mulLo x y:Nat)])∧w=w':=by
 unfold mulHi mulLo
 rw[Bs_def] at *
 exact (Any.bits_Mul64 Tryz.lays264 x y hx hy w).mono fun _ _ ⟨h1,h2⟩=>⟨h1,h2.symm⟩
theorem add_calls (w:World) (x y c:Nat) (hc:c≤1) :
  Calls Tryz.prog 104 #[.int .u64 (x:Int),.int .u64 (y:Int),.int .u64 (c:Int)] w fun e w' =>
   e = .returned (.tuple #[.int .u64 (addLo x y c:Nat),.int .u64 (addHi x y c:Nat)])∧w=w':=by
 have hm:min c 1=c:=by omega
 have h1:=fun W=>add64_run x y c hc W
 go_enter Tryz.func104,Tryz.ntmps104
 go_wp2_with (go_at_call 133;refine (one_calls _ c).mono ?_;rintro e w' ⟨rfl,rfl⟩;rw[hm])
 go_ret2;exact⟨rfl,rfl⟩
theorem add0_calls (w:World) (x y:Nat) :
  Calls Tryz.prog 104 #[.int .u64 (x:Int),.int .u64 (y:Int),.int .u64 0] w fun e w' =>
   e = .returned (.tuple #[.int .u64 (addLo x y 0:Nat),.int .u64 (addHi x y 0:Nat)])∧w=w':=add_calls w x y 0 (Nat.zero_le _)
theorem sub_calls (w:World) (x y c:Nat) (hc:c≤1) :
  Calls Tryz.prog 139 #[.int .u64 (x:Int),.int .u64 (y:Int),.int .u64 (c:Int)] w fun e w' =>
   e = .returned (.tuple #[.int .u64 (subLo x y c:Nat),.int .u64 (subHi x y c:Nat)])∧w=w':=by
 have hm:min c 1=c:=by omega
 have h1:=fun W=>sub64_run x y c hc W
 go_enter Tryz.func139,Tryz.ntmps139
 go_wp2_with (go_at_call 133;refine (one_calls _ c).mono ?_;rintro e w' ⟨rfl,rfl⟩;rw[hm])
 go_ret2;exact⟨rfl,rfl⟩
theorem mul_calls (w:World) (x y:Nat) (hx:x<Bs) (hy:y<Bs) :
  Calls Tryz.prog 103 #[.int .u64 (x:Int),.int .u64 (y:Int)] w fun e w' =>
   e = .returned (.tuple #[.int .u64 (mulHi x y:Nat),.int .u64 (mulLo x y:Nat)])∧w=w':=by
 go_enter Tryz.func103,Tryz.ntmps103
 go_wp2_with (go_at_call 131;refine (mul64_calls x y hx hy _).mono ?_;rintro e w' ⟨rfl,rfl⟩)
 go_ret2;exact⟨rfl,rfl⟩
def LenInv (x y n b:Nat):Prop:=bl x=n+bl y∧(b≠0→y<2^(2*b))∧(b=0→y<2)∧(b=0∨b=1∨b=2∨b=4∨b=8∨b=16∨b=32)∧n+2*b≤64
theorem LenInv.b_le {x y n b:Nat}(h:LenInv x y n b):b≤32:=by have:=h.2.2.2.1;omega
theorem LenInv.n_le {x y n b:Nat}(h:LenInv x y n b):n≤64:=by have:=h.2.2.2.2;omega
theorem LenInv.start {x:Nat}(h:x<Bs):LenInv x x 0 32:=⟨by simp,fun _=>by rw[Bs_def]at h;omega,by omega,by omega,by omega⟩
theorem LenInv.fin {x y n:Nat}(h:LenInv x y n 0):bl x=n+y:=by rw[h.1,bl_small (h.2.2.1 rfl)]
theorem LenInv.y_lt {x y n:Nat}(h:LenInv x y n 0):y<2:=h.2.2.1 rfl
theorem LenInv.big {x y n b:Nat}(h:LenInv x y n b) (hb:b≠0) (hq:y / 2^b≠0):LenInv x (y / 2^b) (n+b) (b / 2):=by
 obtain⟨h1,h2,_,h4,h5⟩:=h;have h6:=h2 hb
 have h7:y / 2^b<2^b:=by
  rw[Nat.div_lt_iff_lt_mul (Nat.two_pow_pos b),←Nat.pow_add]
  rwa [show b+b=2*b by omega]
 refine⟨by rw[h1,bl_shift hq];omega,fun hb2=>?_,fun hb0=>?_,by omega,by omega⟩
 ·have:2*(b / 2)=b:=by omega
  rw[this];exact h7
 ·have:b=1:=by omega
  subst this;simpa using h7
theorem LenInv.small {x y n b:Nat}(h:LenInv x y n b) (hb:b≠0) (hq:y / 2^b=0):LenInv x y n (b / 2):=by
 obtain⟨h1,h2,_,h4,h5⟩:=h
 have h7:y<2^b:=by
  rcases Nat.lt_or_ge y (2^b) with g | g
  ·exact g
  ·have:=Nat.div_pos g (Nat.two_pow_pos b);omega
 refine⟨h1,fun hb2=>?_,fun hb0=>?_,by omega,by omega⟩
 ·have:2*(b / 2)=b:=by omega
  rw[this];exact h7
 ·have:b=1:=by omega
  subst this;simpa using h7
theorem nz_of {y b:Nat}(h:((y:Int) / 2^b != 0)=true):y / 2^b≠0:=by
 intro e
 have:((y:Int) / 2^b)=((y / 2^b:Nat):Int):=by simp
 rw[this,e]at h;exact absurd h (by decide)
theorem z_of {y b:Nat}(h:((y:Int) / 2^b != 0)=false):y / 2^b=0:=by
 have:((y:Int) / 2^b)=((y / 2^b:Nat):Int):=by simp
 rw[this,bne_eq_false_iff_eq]at h;omega
set_option maxHeartbeats 1000000 in
theorem len_calls (w:World) (x:Nat) (hx:x<Bs) :
  Calls Tryz.prog 111 #[.int .u64 (x:Int)] w fun e w'=>e = .returned (.int .i64 (bl x:Nat))∧w=w':=by
 go_enter Tryz.func111,Tryz.ntmps111
 go_wp2
 go_step3
 go_wp2
 go_step3
 go_wp2
 go_loop [0,3,4] (fun v0 v3 v4 => ∃ y n b:Nat,v0 = .int .u64 (y:Int)∧v3 = .int .i64 (n:Int)∧v4 = .int .i64 (b:Int)∧LenInv x y n b) (fun _ _ v4=>(intOf v4).toNat)
 case atStart=>exact⟨x,0,32,rfl,rfl,rfl,LenInv.start hx⟩
 case round =>
  obtain⟨y,n,b,rfl,rfl,rfl,hI⟩:=hrel;have hb:=hI.b_le;have hn:=hI.n_le
  by_cases h0:b=0
  ·subst h0;have e0:=Hd hI.fin;have e1:=hI.y_lt
   go_wp2
   go_ret;exact⟨ret_eq (int_eq (by rw[e0.out];omega)),rfl⟩
  ·go_wp2
   ·rename_i hq
    exact⟨⟨_,_,_,by rw[Int.natCast_ediv,Int.natCast_pow];rfl,by rw[Int.natCast_add],by rw[Int.natCast_ediv];rfl,hI.big h0 (nz_of hq)⟩,by simp [intOf];omega⟩
   ·rename_i hq
    exact⟨⟨_,_,_,rfl,rfl,by rw[Int.natCast_ediv];rfl,hI.small h0 (z_of hq)⟩,by simp [intOf];omega⟩
end Go.Proofs.YtfofjalebhajhaaGreatDoor
namespace Go.Proofs.YtfofjalebhajhaaGreatDoor
open Go Go.RowKit
def limbAt (A:List Nat) (i:Int):Nat:=if i<0 then 0 else el A i.toNat
theorem limbAt_neg {A:List Nat}{i:Int}(h:i<0):limbAt A i=0:=by simp [limbAt,h]
theorem limbAt_ge {A:List Nat}{i:Int}(h:(A.length:Int)≤i):limbAt A i=0:=by
 unfold limbAt;split
 ·rfl
 ·exact el_of_ge (by omega)
theorem limbAt_nat (A:List Nat) (n:Nat):limbAt A (n:Int)=el A n:=by unfold limbAt;rw[if_neg (by omega)];rfl
theorem limbAt_lt {A:List Nat}(h:∀ x∈A,x<Bs) (i:Int):limbAt A i<Bs:=by
 unfold limbAt;split
 ·exact Bs_pos
 ·exact el_lt h _
set_option maxHeartbeats 400000 in
theorem limb_calls {w:World}{v:Value}{A:List Nat}(hA:Limbs w v A) (i:Int) :
  Calls Tryz.prog 108 #[v,.int .i64 i] w fun e w'=>e = .returned (.int .u64 (limbAt A i:Nat))∧w=w':=by
 obtain⟨a,cap,rfl,h1,h2,h3⟩:=hA.open;unfold maxLen at h2
 by_cases hi:i<0
 ·have H:=Hd (limbAt_neg (A:=A) hi)
  go_enter Tryz.func108,Tryz.ntmps108
  go_wp2
  go_ret;exact⟨ret_eq (int_eq (by rw[H.out];rfl)),rfl⟩
 by_cases hj:(A.length:Int)≤i
 ·have H:=Hd (limbAt_ge (A:=A) hj)
  go_enter Tryz.func108,Tryz.ntmps108
  go_wp2
  go_ret;exact⟨ret_eq (int_eq (by rw[H.out];rfl)),rfl⟩
 obtain⟨n,rfl⟩:=Int.eq_ofNat_of_zero_le (Int.not_lt.1 hi);obtain⟨b,o,rfl,hb,hc⟩:=h3 n (by omega);have hcell:=hc n (by omega);have H:=Hd (limbAt_nat A n);clear hc h3
 go_enter Tryz.func108,Tryz.ntmps108
 go_wp2
 go_ret;exact⟨ret_eq (int_eq (by rw[H.out])),rfl⟩
def RetL (w:World) (A:List Nat) (e:Ending) (w':World):Prop:=∃ v,e = .returned v∧OwnL w.heap.size w' v A∧Ext w w'
theorem nat_eq_nil (W:World) (a:Option Addr) (n c:Nat):(binOp .eql 32 (.slice a n c) (.slice none 0 0)).run Tryz.prog W = .ok (.bool a.isNone) W :=
 Lib.run_eql_slice_nil W 32 53 a n c 0 0 Tryz.underlying32
set_option maxHeartbeats 400000 in
theorem clone_calls {w:World}{v:Value}{A:List Nat}(hA:Limbs w v A) (hlen:A.length≤Lmax) :
  Calls Tryz.prog 109 #[v] w (RetL w A):=by
 obtain⟨a,cap,rfl,h1,h2,h3⟩:=hA.open
 have heq:=fun W=>nat_eq_nil W a A.length cap
 have HL:=Hd hlen;have H3:=Hd h3;clear hlen h3 h1 h2
 cases a with
 | none =>
  have hn:A = []:=by
   cases A with
   | nil=>rfl
   | cons x A=>obtain⟨b,o,e,_⟩:=H3.out 0 (by simp);cases e
  subst hn;clear heq
  have heq:=fun W=>nat_eq_nil W none 0 cap
  go_enter Tryz.func109,Tryz.ntmps109
  go_wp2
  go_ret;exact⟨_,rfl,OwnL.nil _ _,Ext.refl _⟩
 | some p =>
  go_enter Tryz.func109,Tryz.ntmps109
  go_wp2_with (at_builtin;refine append_limbs rfl _ _ 32 Tryz.underlying32 rfl w.heap.size _ 0 [] rfl (World.ownsRow_made w #[] 0 (Nat.le_refl _) (Nat.zero_le _) rfl) (by simp) _ A rfl (hA.ext ((Ext.refl w).alloc _)) (by rw[Nat.zero_add];exact HL.out) ?_;intro v' w' hown' hgrow)
  go_ret;refine⟨_,rfl,⟨.inl (by simpa using hown'),hA.2⟩,((Ext.refl w).alloc _).grown hgrow (fun k hk=>by cases hk;exact Nat.le_refl _)⟩
theorem trim_read {A:List Nat}(h:∀ x∈A,x<Bs){n:Nat}(hn:n≤A.length) (h0:∀ i,n≤i→el A i=0) (hl:n=0∨el A (n - 1)≠0) :
  A.take n=dig (val A):=(dig_take h hn h0 hl).symm
theorem Limbs.take {w:World}{a:Option Addr}{A:List Nat}{cap:Nat}(h:Limbs w (.slice a A.length cap) A){n:Nat}(hn:n≤A.length):Limbs w (.slice a n cap) (A.take n):=by
 obtain⟨⟨h1,a',cap',h2,h3,h4,h5,h6⟩,h7⟩:=h
 cases h2
 have hl:(A.take n).length=n:=by simp;omega
 refine⟨⟨by simp,a,cap,by rw[hl],by omega,h4,fun e=>?_,fun p hp h0=>?_⟩,fun x hx=>h7 x (List.mem_of_mem_take hx)⟩
 ·have:=h5 e;omega
 ·obtain⟨q1,q2,q3⟩:=h6 p hp (by omega);refine⟨q1,q2,fun j hj=>?_⟩
  have hj':j<A.length:=by simp at hj;omega
  rw[q3 j (by simpa using hj')]
  simp
set_option maxHeartbeats 400000 in
theorem trim_calls {w:World}{v:Value}{A:List Nat}(hA:Limbs w v A) (hlen:A.length≤Lmax) :
  Calls Tryz.prog 89 #[v] w (RetNat w (val A)):=by
 obtain⟨a,cap,rfl,h1,h2,h3⟩:=hA.open;unfold maxLen at h2;have HL:=Hd hlen;have H3:=Hd h3;clear hlen h3
 go_enter Tryz.func89,Tryz.ntmps89
 go_wp2
 go_loop [3] (fun v3 => ∃ n:Nat,v3 = .int .i64 (n:Int)∧n≤A.length∧(∀ i,n≤i→el A i=0)) (fun v3=>(intOf v3).toNat)
 case atStart=>exact⟨A.length,rfl,Nat.le_refl _,fun i hi=>el_of_ge hi⟩
 case round =>
  obtain⟨n,rfl,hn,hz⟩:=hrel;have HZ:=Hd hz;clear hz;have hsl:=hA.take hn;have HT:Hid ((A.take n).length≤Lmax):=Nat.le_trans (by simp;omega) HL.out
  by_cases h0:n=0
  ·have HF:=Hd (trim_read hA.2 hn HZ.out (.inl h0));subst h0
   go_wp2_with (go_at_call 109;refine (clone_calls hsl HT.out).mono ?_;rintro e w' ⟨v',rfl,hv,hx⟩)
   go_ret;exact⟨_,rfl,by rw[←HF.out];exact hv,hx⟩
  ·obtain⟨b,o,rfl,hb,hc⟩:=H3.out (n - 1) (by omega);have hcell:=hc (n - 1) (by omega);clear hc
   have HE:Hid ((((el A (n - 1):Nat):Int) == 0)=false→A.take n=dig (val A)):=fun h=>trim_read hA.2 hn HZ.out (.inr (by simpa using h))
   go_wp2_with (go_at_call 109;refine (clone_calls hsl HT.out).mono ?_;rintro e w' ⟨v',rfl,hv,hx⟩)
   ·rename_i hz
    refine⟨⟨n - 1,by simp;omega,by omega,fun i hi=>?_⟩,by simp [intOf];omega⟩
    by_cases hi':n≤i
    ·exact HZ.out i hi'
    ·obtain rfl:i=n - 1:=by omega
     simpa using hz
   ·rename_i hz _
    go_ret;exact⟨_,rfl,by rw[←HE.out hz];exact hv,hx⟩
theorem limbs_lit (w:World) (A:List Nat) (hA:∀ x∈A,x<Bs) (C:Array Value) (hC:C.toList=A.map lv) (n:Nat) (hn:n=A.length) (hl:A.length≤Lmax) :
  Limbs (w.alloc (.cells C 53)) (.slice (some ⟨w.heap.size,0,none⟩) n n) A:=by
 subst hn;refine⟨⟨by simp,_,_,rfl,Nat.le_refl _,(lmax_fits hl).1,fun e=>(by cases e),fun p hp _=>?_⟩,hA⟩;obtain rfl:=Option.some.inj hp;refine⟨rfl,by simp,fun j hj=>?_⟩
 have hs:C.size=A.length:=by rw[←Array.length_toList,hC];simp
 have hj':j<C.size:=by rw[hs];simpa using hj
 have e:C[j]=(A.map lv)[j]:=by rw[←Array.getElem_toList hj'];simp [hC]
 rw[cell_of_row _ w.heap.size _ C 53 (0,0) (heap_alloc_new w _),Nat.zero_add,Array.getElem?_eq_getElem hj',e]
theorem RetNat.of_ext {w w1:World}{n:Nat}{e:Ending}{w':World}(h:RetNat w1 n e w') (k:Ext w w1):RetNat w n e w':=by
 obtain⟨v,rfl,h1,h2⟩:=h;exact⟨v,rfl,h1.mono k.size,k.trans h2⟩
theorem of_calls {w:World}{n:Nat}(hn:n<Bs) :
  Calls Tryz.prog 105 #[.int .u64 (n:Int)] w (RetNat w n):=by
 have hL:Limbs (w.alloc (.cells #[.int .u64 (n:Int)] 53)) (.slice (some ⟨w.heap.size,0,none⟩) 1 1) [n] :=
  limbs_lit w [n] (by simpa using hn) _ rfl 1 rfl (by rw[Lmax_def];simp)
 have hl:Hid ([n].length≤Lmax):=by show 1≤Lmax;rw[Lmax_def];omega
 have hv:Hid (val [n]=n):=by show val [n]=n;simp [val]
 have HN:=Hd hn;clear hn
 go_enter Tryz.func105,Tryz.ntmps105
 go_wp2_with (go_at_call 89;refine (trim_calls hL hl.out).mono ?_;rintro e w' ⟨v',rfl,hr,hx⟩)
 go_ret;rw[hv.out]at hr;exact RetNat.of_ext ⟨_,rfl,hr,hx⟩ ((Ext.refl w).alloc _)
set_option maxHeartbeats 400000 in
theorem natlen_calls {w:World}{v:Value}{A:List Nat}(hA:Limbs w v A) (hlen:A.length≤Lmax) :
  Calls Tryz.prog 117 #[v] w fun e w'=>e = .returned (.int .i64 (bl (val A):Nat))∧w=w':=by
 obtain⟨a,cap,rfl,h1,h2,h3⟩:=hA.open;unfold maxLen at h2;have HL:=Hd hlen;have H3:=Hd h3;clear hlen h3
 go_enter Tryz.func117,Tryz.ntmps117
 go_wp2
 go_loop [3] (fun v3 => ∃ n:Nat,v3 = .int .i64 ((n:Int) - 1)∧n≤A.length∧(∀ i,n≤i→el A i=0)) (fun v3=>(intOf v3+1).toNat)
 case atStart=>exact⟨A.length,rfl,Nat.le_refl _,fun i hi=>el_of_ge hi⟩
 case round =>
  obtain⟨n,rfl,hn,hz⟩:=hrel;have HZ:=Hd hz;clear hz
  by_cases h0:n=0
  ·subst h0
   have HE:Hid (bl (val A)=0):=by
    show bl (val A)=0
    rw[val_zero_of (fun i=>HZ.out i (Nat.zero_le _))];rfl
   go_wp2
   go_ret;exact⟨ret_eq (int_eq (by rw[HE.out];rfl)),rfl⟩
  ·obtain⟨m,rfl⟩:∃ m,n=m+1:=⟨n - 1,by omega⟩
   obtain⟨b,o,rfl,hb,hc⟩:=H3.out m (by omega);have hcell:=hc m (by omega);have hlt:=hA.lt m;have hb64:=bl_le_64 hlt
   have hm40:m≤1099511627776:=by have:=HL.out;rw[Lmax_def]at this;omega
   clear hc
   have HB:Hid (el A m≠0→bl (val A)=m*64+bl (el A m)):=fun h=>bl_val hA.2 HZ.out h
   go_wp2_with (go_at_call 111;refine (len_calls _ _ hlt).mono ?_;rintro e w' ⟨rfl,rfl⟩)
   ·rename_i hq _
    go_ret;refine⟨ret_eq (int_eq ?_),rfl⟩;rw[HB.out (by simpa using hq)]
    simp
   ·rename_i hq
    refine⟨⟨m,rfl,by omega,fun i hi=>?_⟩,by simp [intOf]⟩
    by_cases hi':m+1≤i
    ·exact HZ.out i hi'
    ·obtain rfl:i=m:=by omega
     simpa using hq
theorem beq_bl (n:Nat):(((bl n:Nat):Int) == 0)=decide (n=0):=by
 rw[Bool.eq_iff_iff];have:=bl_eq_zero n;simp only[beq_iff_eq,decide_eq_true_eq];omega
set_option maxHeartbeats 400000 in
theorem zero_calls {w:World}{v:Value}{A:List Nat}(hA:Limbs w v A) (hlen:A.length≤Lmax) :
  Calls Tryz.prog 100 #[v] w fun e w'=>e = .returned (.bool (decide (val A=0)))∧w=w':=by
 have HE:=Hd (bl_eq_zero (val A));have HL:=Hd hlen;clear hlen
 go_enter Tryz.func100,Tryz.ntmps100
 go_wp2_with (go_at_call 117;refine (natlen_calls hA HL.out).mono ?_;rintro e w' ⟨rfl,rfl⟩)
 go_ret;refine⟨ret_eq ?_,rfl⟩
 show Value.bool (((bl (val A):Nat):Int) == 0)=_
 rw[beq_bl]
noncomputable def smallN (n:Nat):Nat:=if n<Bs then n else 0
theorem val_small {A:List Nat}(h:val A<Bs):el A 0=val A:=by
 cases A with
 | nil=>rfl
 | cons x A =>
  rw[val]at h ⊢
  have:val A=0:=by
   rcases Nat.eq_zero_or_pos (val A) with g | g
   ·exact g
   ·have:=Nat.le_mul_of_pos_right Bs g;omega
  rw[this];simp [el]
set_option maxHeartbeats 400000 in
theorem small_calls {w:World}{v:Value}{A:List Nat}(hA:Limbs w v A) (hlen:A.length≤Lmax) :
  Calls Tryz.prog 91 #[v] w fun e w'=>e = .returned (.tuple #[.int .u64 (smallN (val A):Nat),.bool (decide (val A<Bs))])∧w=w':=by
 have HL:=Hd hlen;have hb:=bl_le_iff (val A) 64;rw[←Bs_eq]at hb;clear hlen
 by_cases h:val A<Bs
 ·have h64:bl (val A)≤64:=hb.2 h
  have HE:Hid (((limbAt A 0:Nat):Int)=(smallN (val A):Nat)):=by
   show ((limbAt A 0:Nat):Int)=(smallN (val A):Nat)
   rw[show limbAt A 0=limbAt A ((0:Nat):Int) from rfl,limbAt_nat,smallN,if_pos h,val_small h]
  have HD:Hid (decide (val A<Bs)=true):=by show decide _=true;simpa using h
  clear hb h
  go_enter Tryz.func91,Tryz.ntmps91
  go_wp2_with (first | (go_at_call 117;refine (natlen_calls hA HL.out).mono ?_;rintro e w' ⟨rfl,rfl⟩) | (go_at_call 108;refine (limb_calls hA 0).mono ?_;rintro e w' ⟨rfl,rfl⟩))
  go_ret2;exact⟨ret_eq (by rw[HD.out,←HE.out];rfl),rfl⟩
 ·have h64:¬ bl (val A)≤64:=fun g=>h (hb.1 g)
  have HE:Hid (smallN (val A)=0):=by show smallN (val A)=0;rw[smallN,if_neg h]
  have HD:Hid (decide (val A<Bs)=false):=by show decide _=false;simpa using h
  clear hb h
  go_enter Tryz.func91,Tryz.ntmps91
  go_wp2_with (first | (go_at_call 117;refine (natlen_calls hA HL.out).mono ?_;rintro e w' ⟨rfl,rfl⟩) | (go_at_call 108;refine (limb_calls hA 0).mono ?_;rintro e w' ⟨rfl,rfl⟩))
  go_ret2;exact⟨ret_eq (by rw[HD.out,HE.out];rfl),rfl⟩
set_option maxHeartbeats 400000 in
theorem cmp_calls {w:World}{v u:Value}{A B:List Nat}(hA:Limbs w v A) (hB:Limbs w u B) (hlA:A.length≤Lmax) (hlB:B.length≤Lmax) :
  Calls Tryz.prog 88 #[v,u] w fun e w'=>e = .returned (.int .i64 (cmpN (val A) (val B)))∧w=w':=by
 obtain⟨a,cap,rfl,h1,h2,h3⟩:=hA.open;obtain⟨b,cap',rfl,g1,g2,g3⟩:=hB.open;have HL:=Hd hlA;have HL':=Hd hlB;unfold maxLen at h2 g2;clear h3 g3 hlA hlB
 go_enter Tryz.func88,Tryz.ntmps88
 go_wp2_with fail
 go_loop [5] (fun v5 => ∃ n:Nat,v5 = .int .i64 ((n:Int) - 1)∧n≤max A.length B.length∧(∀ i,n≤i→el A i=el B i)) (fun v5=>(intOf v5+1).toNat)
 case atStart=>exact⟨max A.length B.length,by simp;omega,Nat.le_refl _,fun i hi=>by rw[el_of_ge (by omega),el_of_ge (by omega)]⟩
 case round =>
  obtain⟨n,rfl,hn,hz⟩:=hrel;have HZ:=Hd hz;clear hz
  by_cases h0:n=0
  ·subst h0;have HE:Hid (cmpN (val A) (val B)=0):=cmpN_eq (val_eq_of_el (fun j=>HZ.out j (Nat.zero_le _)));go_wp2_with fail;go_ret;exact⟨ret_eq (int_eq (by rw[HE.out])),rfl⟩
  ·obtain⟨m,rfl⟩:∃ m,n=m+1:=⟨n - 1,by omega⟩
   have hltA:=hA.lt m;have hltB:=hB.lt m
   have H1:Hid (el A m<el B m→cmpN (val A) (val B) = -1):=fun h=>cmpN_lt (val_lt_of_el hA.2 (fun j hj=>HZ.out j hj) h)
   have H2:Hid (el B m<el A m→cmpN (val A) (val B)=1):=fun h=>cmpN_gt (val_lt_of_el hB.2 (fun j hj=>(HZ.out j hj).symm) h)
   go_wp2_with (go_at_call 108;first | ((with_reducible refine (limb_calls hA _).mono ?_);rintro e w' ⟨rfl,rfl⟩;rw[limbAt_nat]) | ((with_reducible refine (limb_calls hB _).mono ?_);rintro e w' ⟨rfl,rfl⟩;rw[limbAt_nat]))
   ·rename_i hq
    go_ret;exact⟨ret_eq (int_eq (by rw[H1.out (by omega)])),rfl⟩
   ·rename_i hp hq
    go_ret;exact⟨ret_eq (int_eq (by rw[H2.out (by omega)])),rfl⟩
   ·rename_i hp hq
    refine⟨⟨m,rfl,by omega,fun i hi=>?_⟩,by simp [intOf]⟩
    by_cases hi':m+1≤i
    ·exact HZ.out i hi'
    ·obtain rfl:i=m:=by omega
     omega
end Go.Proofs.YtfofjalebhajhaaGreatDoor
namespace Go.Proofs.YtfofjalebhajhaaGreatDoor
open Go Go.RowKit
theorem Below.of_ext {w0 w:World}(h:Ext w0 w):Below w0.heap.size w0 w:=h
structure EachInv (w0:World) (g bc n:Nat) (F:Nat→Nat→Nat→Nat × Nat) (A B:List Nat) (k:Nat) (wr:World):Prop where
 own:wr.ownsRow g 53 1 (.slice (some ⟨g,0,none⟩) n n) n ((outsTo F A B k ++ List.replicate (n - k) 0).map lv)
 cell:wr.cell? ⟨bc,0,none⟩=some (.int .u64 (carryTo F A B k:Nat))
 froz:wr.frozen? ⟨bc,0,none⟩=false
 ext:Ext w0 wr
section
variable {w0:World}{g bc n:Nat}{F:Nat→Nat→Nat→Nat × Nat}{A B:List Nat}{k:Nat}{wr w2:World}{u:Value}
theorem EachInv.cell2 (h:EachInv w0 g bc n F A B k wr) (hw:wr.setCell ⟨bc,0,none⟩ u=w2) (hb:bc<g) (hk:k<n):w2.cell? ⟨g,k,none⟩=some (lv 0):=by
 subst hw;rw[World.cell?_of_block (w:=wr) (Below.heap_setCell _ _ _ _ (by show g≠bc;omega)),h.own.cellAt k (by omega)];simp [outsTo_length,show 0<n - k by omega]
theorem EachInv.froz2 (h:EachInv w0 g bc n F A B k wr) (hw:wr.setCell ⟨bc,0,none⟩ u=w2) (hb:bc<g) (j:Nat):w2.frozen? ⟨g,j,none⟩=false:=by
 subst hw;rw[World.frozen?_of_block (w:=wr) (Below.heap_setCell _ _ _ _ (by show g≠bc;omega)),h.own.frozenAt j]
theorem EachInv.next (h:EachInv w0 g bc n F A B k wr) (hw:wr.setCell ⟨bc,0,none⟩ (.int .u64 (carryTo F A B (k+1):Nat))=w2) (hb:bc<g) (hbc:w0.heap.size≤bc) (hk:k<n) :
  EachInv w0 g bc n F A B (k+1) (w2.setCell ⟨g,k,none⟩ (.int .u64 ((F (el A k) (el B k) (carryTo F A B k)).1:Nat))):=by
 subst hw
 have o2:(wr.setCell ⟨bc,0,none⟩ (.int .u64 (carryTo F A B (k+1):Nat))).ownsRow g 53 1 (.slice (some ⟨g,0,none⟩) n n) n ((outsTo F A B k ++ List.replicate (n - k) 0).map lv) :=
  ownsRow_setCell_below h.own (by show bc<g;exact hb) _
 obtain⟨o3,g3⟩:=o2.stored k (.int .u64 ((F (el A k) (el B k) (carryTo F A B k)).1:Nat));refine⟨?_,?_,?_,?_⟩
 ·obtain⟨m,hm⟩:∃ m,n - k=m+1:=⟨n - k - 1,by omega⟩
  rw[outsTo,show n - (k+1)=m by omega,←set_outs,←hm,outsTo_length,List.map_set];exact o3
 ·rw[cell_set_other (.inl (by omega))];exact cell_set_same h.cell _
 ·rw[World.frozen?_setCell,World.frozen?_setCell];exact h.froz
 ·exact Below.setCell (Below.setCell h.ext (by show w0.heap.size≤bc;exact hbc) _) (by show w0.heap.size≤g;omega) _
theorem EachInv.out (h:EachInv w0 g bc n F A B n wr) (hl:∀ x∈outsTo F A B n,x<Bs):Limbs wr (.slice (some ⟨g,0,none⟩) n n) (outsTo F A B n):=by
 have:=h.own;rw[Nat.sub_self,List.replicate_zero,List.append_nil]at this;exact⟨by rw[outsTo_length];exact Own.sl (B:=g) (e := 53) (.inl this),hl⟩
end
set_option maxHeartbeats 1000000 in
theorem each_calls {w0 w:World}{v u:Value}{A B:List Nat}(hA:Limbs w0 v A) (hB:Limbs w0 u B) (hlA:A.length≤Lmax) (hlB:B.length≤Lmax) (hln:max A.length B.length+1≤Lmax)
  (hx:Ext w0 w) (bc:Nat) (hbc:w0.heap.size≤bc) (hbl:bc<w.heap.size) (hc0:w.cell? ⟨bc,0,none⟩=some (.int .u64 0)) (hf0:w.frozen? ⟨bc,0,none⟩=false)
  (f:FuncId) (hcall:∀ args W,(callFunc f args).run Tryz.prog W = .ok (.enter f args) W)
  (F:Nat→Nat→Nat→Nat × Nat) (hF:∀ x y c,x<Bs→y<Bs→c≤1→(F x y c).1<Bs∧(F x y c).2≤1)
  (hstep:∀ (W:World) (x y c:Nat),c≤1→W.cell? ⟨bc,0,none⟩=some (.int .u64 (c:Int))→W.frozen? ⟨bc,0,none⟩=false →
   Calls Tryz.prog f #[.int .u64 (x:Int),.int .u64 (y:Int),.pointer (some ⟨bc,0,none⟩)] W fun e W' =>
    e = .returned (.int .u64 ((F x y c).1:Nat))∧W.setCell ⟨bc,0,none⟩ (.int .u64 ((F x y c).2:Nat))=W') :
  Calls Tryz.prog 144 #[v,u,.func (.func f) #[] #[.pointer (some ⟨bc,0,none⟩)]] w fun e w' =>
   ∃ r,e = .returned r∧OwnL w0.heap.size w' r (dig (val (outsTo F A B (max A.length B.length+1))))∧Ext w0 w':=by
 have hoA:=hA.open;have hoB:=hB.open;obtain⟨a,cap,rfl,h1,h2,-⟩:=hoA;obtain⟨b,cap',rfl,g1,g2,-⟩:=hoB;have HL:=Hd hlA;have HL':=Hd hlB;have HF:=Hd hF;have HS:=Hd hstep;have HC:=Hd hc0;have HG:=Hd hf0
 obtain⟨n,hn⟩:∃ n,n=max A.length B.length+1:=⟨_,rfl⟩
 rw[←hn]at hln ⊢;have kn:=lmax_le hln
 have lA:A.length<n:=by omega
 have lB:B.length<n:=by omega
 have HM:=Hd hn;have HN:=Hd hln;clear hn;have kA:=lmax_le hlA;have kB:=lmax_le hlB;unfold maxLen at h2 g2;clear hlA hlB hln hF hstep hc0 hf0
 go_enter Tryz.func144,Tryz.ntmps144
 go_wp2_with (at_make;refine make_limbs rfl _ _ 32 Tryz.underlying32 rfl n _ (by rw[HM.out];omega) rfl rfl HN.out ?_;intro w1 hown1 hg1;have O1:=Hd hown1;clear hown1)
 have hI0:EachInv w0 w.heap.size bc n F A B 0 w1:=⟨by simpa [outsTo] using O1.out,(hg1.cell HC.out (by simp)),by rw[World.frozen?_of_block (hg1.block bc hbl (by simp))];exact HG.out,hx.grown hg1 (by intro k hk;cases hk)⟩
 go_loopw [18] (fun v18 wr => ∃ k:Nat,v18 = .int .i64 (k:Int)∧k≤n∧EachInv w0 w.heap.size bc n F A B k wr) (fun v18 _=>n - (intOf v18).toNat)
 case atStart=>exact⟨0,rfl,Nat.zero_le _,hI0⟩
 case round =>
  obtain⟨k,rfl,hk,hI⟩:=hrel
  by_cases hkn:k<n
  ·have hc1:=carryTo_le HF.out hA.2 hB.2 k;have hAk:=hA.ext hI.ext;have hBk:=hB.ext hI.ext
   go_wp2_with (first
    | (go_at_call 108;first | ((with_reducible refine (limb_calls hAk _).mono ?_);rintro e w' ⟨rfl,rfl⟩;rw[limbAt_nat]) | ((with_reducible refine (limb_calls hBk _).mono ?_);rintro e w' ⟨rfl,rfl⟩;rw[limbAt_nat]))
    | ((with_reducible refine (HS.out wr _ _ _ hc1 hI.cell hI.froz).mono ?_);rintro e w2 ⟨rfl,hw2⟩;have HW:=Hd hw2;clear hw2;have c2:=hI.cell2 HW.out hbl hkn;have f2:=hI.froz2 HW.out hbl k))
   exact⟨⟨k+1,by go_num,by omega,hI.next HW.out hbl hbc hkn⟩,by simp [intOf];omega⟩
  ·obtain rfl:k=n:=by omega
   have hT:=hI.out (fun x hx=>outsTo_lt HF.out hA.2 hB.2 k x hx)
   have hlen:Hid ((outsTo F A B k).length≤Lmax):=by show _≤Lmax;rw[outsTo_length];exact HN.out
   go_wp2_with (go_at_call 89;refine (trim_calls hT hlen.out).mono ?_;rintro e w' ⟨r,rfl,hr,hx'⟩)
   go_ret;exact⟨r,rfl,hr.mono hI.ext.size,hI.ext.trans hx'⟩
set_option maxHeartbeats 400000 in
theorem add1_calls (bc:Nat) (W:World) (x y c:Nat) (hc:c≤1) (h1:W.cell? ⟨bc,0,none⟩=some (.int .u64 (c:Int))) (h2:W.frozen? ⟨bc,0,none⟩=false) :
  Calls Tryz.prog 145 #[.int .u64 (x:Int),.int .u64 (y:Int),.pointer (some ⟨bc,0,none⟩)] W fun e W' =>
   e = .returned (.int .u64 ((addF x y c).1:Nat))∧W.setCell ⟨bc,0,none⟩ (.int .u64 ((addF x y c).2:Nat))=W':=by
 go_enter Tryz.func145,Tryz.ntmps145
 go_wp2_with (go_at_call 104;refine (add_calls _ x y c hc).mono ?_;rintro e w' ⟨rfl,rfl⟩)
 go_ret;exact⟨rfl,rfl⟩
theorem RetNat.mk {w w':World}{n m:Nat}{r:Value}(h:OwnL w.heap.size w' r (dig m)) (k:Ext w w') (e:m=n):RetNat w n (.returned r) w':=⟨r,rfl,e ▸ h,k⟩
set_option maxHeartbeats 400000 in
theorem natadd_calls {w:World}{v u:Value}{A B:List Nat}(hA:Limbs w v A) (hB:Limbs w u B) (hlA:A.length<Lmax) (hlB:B.length<Lmax) :
  Calls Tryz.prog 125 #[v,u] w (RetNat w (val A+val B)):=by
 have HLA:=Hd hlA;have HLB:=Hd hlB;have hA1:=Hd hA.2;have hB1:=Hd hB.2;clear hlA hlB
 go_enter Tryz.func125,Tryz.ntmps125
 go_wp2_with (go_at_call 144;refine (each_calls hA hB (Nat.le_of_lt HLA.out) (Nat.le_of_lt HLB.out) (by have:=HLA.out;have:=HLB.out;omega) ((Ext.refl w).alloc _) w.heap.size (Nat.le_refl _) (by simp) (by simp [go_sem]) (by simp [go_sem]) _ (fun _ _=>by simp [go_sem]) addF addF_ok (fun W x y c=>add1_calls _ W x y c)).mono ?_;rintro e w' ⟨r,rfl,hr,hx⟩)
 go_ret;exact RetNat.mk hr hx (add_outs hA1.out hB1.out)
end Go.Proofs.YtfofjalebhajhaaGreatDoor
namespace Go.Proofs.YtfofjalebhajhaaGreatDoor
open Go Go.RowKit
structure MulMem (w:World) (g n:Nat) (O:List Nat) (wr:World):Prop where
 own:wr.ownsRow g 53 1 (.slice (some ⟨g,0,none⟩) n n) n (O.map lv)
 ext:Ext w wr
theorem MulMem.cell {w:World}{g n:Nat}{O:List Nat}{wr:World}(h:MulMem w g n O wr){j:Nat}(hj:j<n) (hl:O.length=n):wr.cell? ⟨g,j,none⟩=some (.int .u64 (el O j:Nat)):=by
 rw[h.own.cellAt j (by omega)];simp [lv,el,List.getElem?_eq_getElem (show j<O.length by omega)]
theorem MulMem.froz {w:World}{g n:Nat}{O:List Nat}{wr:World}(h:MulMem w g n O wr) (j:Nat):wr.frozen? ⟨g,j,none⟩=false:=h.own.frozenAt j
theorem MulMem.set {w:World}{g n:Nat}{O:List Nat}{wr:World}(h:MulMem w g n O wr) (hg:w.heap.size≤g) (j z:Nat):MulMem w g n (O.set j z) (wr.setCell ⟨g,j,none⟩ (.int .u64 (z:Int))):=by
 obtain⟨o3,_⟩:=h.own.stored j (.int .u64 (z:Int));refine⟨by rw[List.map_set];exact o3,Below.setCell h.ext (by show w.heap.size≤g;exact hg) _⟩
theorem mul_bounds {x y o c:Nat}(hx:x<Bs) (hy:y<Bs) (ho:o<Bs) (hc:c<Bs) :
  mulHi x y+addHi (mulLo x y) c 0≤18446744073709551615∧mulHi x y+addHi (mulLo x y) c 0+addHi (addLo (mulLo x y) c 0) o 0≤18446744073709551615:=by
 have h:=mulO_lt hx hy ho hc;unfold mulO at h;rw[Bs_def]at h;omega
set_option maxHeartbeats 2000000 in
theorem natmul_calls {w:World}{v u:Value}{A B:List Nat}(hA:Limbs w v A) (hB:Limbs w u B) (hln:A.length+B.length≤Lmax) :
  Calls Tryz.prog 73 #[v,u] w (RetNat w (val A*val B)):=by
 have hoA:=hA.open;have hoB:=hB.open;obtain⟨a,cap,rfl,h1,h2,h3⟩:=hoA;obtain⟨b,cap',rfl,g1,g2,g3⟩:=hoB
 obtain⟨n,hn⟩:∃ n,n=A.length+B.length:=⟨_,rfl⟩
 rw[←hn]at hln;have kn:=lmax_le hln
 have lA:A.length≤n:=by omega
 have lB:B.length≤n:=by omega
 have HM:=Hd hn;have HN:=Hd hln;have H3:=Hd h3;have G3:=Hd g3;unfold maxLen at h2 g2;clear hn hln h3 g3
 go_enter Tryz.func73,Tryz.ntmps73
 go_wp2_with (at_make;refine make_limbs rfl _ _ 32 Tryz.underlying32 rfl n _ (by rw[HM.out];omega) rfl rfl HN.out ?_;intro w1 hown1 hg1;have O1:=Hd hown1;clear hown1)
 have hI0:MulMem w w.heap.size n (List.replicate n 0) w1:=⟨O1.out,(Ext.refl w).grown hg1 (by intro k hk;cases hk)⟩
 have hM0:Hid (MulOut A B 0 (List.replicate n 0)):=by show MulOut A B 0 (List.replicate n 0);rw[HM.out];exact MulOut.start A B
 go_loopw [22] (fun v22 wr => ∃ (i:Nat) (O:List Nat),v22 = .int .i64 (i:Int)∧i≤A.length∧MulOut A B i O∧MulMem w w.heap.size n O wr) (fun v22 _=>n - (intOf v22).toNat)
 case atStart=>exact⟨0,_,rfl,Nat.zero_le _,hM0.out,hI0⟩
 case round =>
  obtain⟨i,O,rfl,hi,hO,hI⟩:=hrel
  by_cases hin:i<A.length
  ·obtain⟨ba,oa,rfl,hba,hca⟩:=H3.out i hin
   have hcA:wr.cell? ⟨ba,oa+i,none⟩=some (.int .u64 (el A i:Nat)):=by rw[Below.cell hI.ext (p:=⟨ba,oa+i,none⟩) hba];exact hca i hin
   clear hca
   obtain⟨wo,rfl⟩:∃ wo:World,wo=wr:=⟨_,rfl⟩
   have HO:=Hd hO;have hAi:=el_lt hA.2 i;clear hO;go_wp2_with fail
   go_loopw [8,29] (fun v8 v29 wr => ∃ (k c:Nat) (O:List Nat),v29 = .int .i64 (k:Int)∧v8 = .int .u64 (c:Int)∧k≤B.length∧MulIn A B i k c O∧MulMem w w.heap.size n O wr) (fun _ v29 _=>n - (intOf v29).toNat)
   case atStart=>exact⟨0,0,O,rfl,rfl,Nat.zero_le _,HO.out.inner,hI⟩
   case round =>
    obtain⟨k,c,O',rfl,rfl,hk,hO',hI'⟩:=hrel
    by_cases hkn:k<B.length
    ·obtain⟨bb,ob,rfl,hbb,hcb⟩:=G3.out k hkn
     have hcB:wr.cell? ⟨bb,ob+k,none⟩=some (.int .u64 (el B k:Nat)):=by rw[Below.cell hI'.ext (p:=⟨bb,ob+k,none⟩) hbb];exact hcb k hkn
     clear hcb;have HO':=Hd hO';have hBk:=el_lt hB.2 k
     have hikn:i+k<n:=by have:=HM.out;omega
     have hcO:=hI'.cell hikn (by rw[hO'.len];exact HM.out.symm);have hfO:=hI'.froz (i+k);have ho:=el_lt hO'.lt (i+k);have hc:=hO'.c_lt;obtain⟨mb1,mb2⟩:=mul_bounds hAi hBk ho hc;have hl1:=mulLo_lt (el A i) (el B k);have hl2:=addLo_lt (mulLo (el A i) (el B k)) c 0;clear hO'
     go_wp2_with (first
      | (go_at_call 103;(with_reducible refine (mul_calls _ _ _ hAi hBk).mono ?_);rintro e w' ⟨rfl,rfl⟩)
      | (go_at_call 104;first | ((with_reducible refine (add0_calls _ (mulLo (el A i) (el B k)) c).mono ?_);rintro e w' ⟨rfl,rfl⟩) | ((with_reducible refine (add0_calls _ (addLo (mulLo (el A i) (el B k)) c 0) (el O' (i+k))).mono ?_);rintro e w' ⟨rfl,rfl⟩)))
     exact⟨⟨k+1,mulO (el A i) (el B k) (el O' (i+k)) c,_,by go_num,int_eq (by unfold mulO;omega),by omega,HO'.out.next hA.2 hB.2 hin hkn,hI'.set (Nat.le_refl _) _ _⟩,by simp [intOf];omega⟩
    ·obtain rfl:k=B.length:=by omega
     have hibn:i+B.length<n:=by have:=HM.out;omega
     have hcO:=hI'.cell hibn (by rw[hO'.len];exact HM.out.symm);have hfO:=hI'.froz (i+B.length);go_wp2_with fail;exact⟨⟨i+1,_,by go_num,by omega,hO'.outer hin,hI'.set (Nat.le_refl _) _ _⟩,by simp [intOf];omega⟩
  ·obtain rfl:i=A.length:=by omega
   have hT:Limbs wr (.slice (some ⟨w.heap.size,0,none⟩) n n) O:=⟨by have:=Own.sl (B:=w.heap.size) (e := 53) (.inl hI.own);rwa [show n=O.length by rw[hO.len];exact HM.out]at this ⊢,hO.lt⟩
   have hlen:Hid (O.length≤Lmax):=by show _≤Lmax;rw[hO.len,←HM.out];exact HN.out
   have hv:Hid (val O=val A*val B):=by show val O=_;rw[hO.val_eq,valTo_all (Nat.le_refl _)]
   go_wp2_with (go_at_call 89;refine (trim_calls hT hlen.out).mono ?_;rintro e w' ⟨r,rfl,hr,hx'⟩)
   go_ret;rw[hv.out]at hr;exact RetNat.of_ext ⟨r,rfl,hr,hx'⟩ hI.ext
end Go.Proofs.YtfofjalebhajhaaGreatDoor
namespace Go.Proofs.YtfofjalebhajhaaGreatDoor
theorem hs_ex:∃ b:Nat,b=4294967296:=⟨_,rfl⟩
noncomputable def Hs:Nat:=Classical.choose hs_ex
theorem Hs_def:Hs=4294967296:=Classical.choose_spec hs_ex
theorem Hs_Bs:Hs*Hs=Bs:=by rw[Hs_def,Bs_def]
structure Half (u d y1 y0 q r:Nat):Prop where
 eq:q*y1+r=u
 r_lt:r<Hs
 q_le:q≤Hs+1
 ge:(u*Hs+d) / (y1*Hs+y0)≤q
theorem Half.start {u d y1 y0:Nat}(hu:u<y1*Hs+y0) (hd:d<Hs) (h1:Hs≤2*y1) (h1':y1<Hs) (h0:y0<Hs):Half u d y1 y0 (u / y1) (u - u / y1*y1):=by
 have hy:0<y1:=by rw[Hs_def]at h1;omega
 have hdm:=Nat.div_add_mod u y1;have hm:=Nat.mod_lt u hy;rw[Nat.mul_comm]at hdm;refine⟨by omega,by omega,?_,?_⟩
 ·have:u / y1<Hs+2:=by
   rw[Nat.div_lt_iff_lt_mul hy,Nat.add_mul,Nat.mul_comm Hs y1];omega
  omega
 ·rw[Nat.div_le_iff_le_mul_add_pred (by rw[Nat.add_pos_iff_pos_or_pos];left;exact Nat.mul_pos hy (by rw[Hs_def];omega))]
  have e:u=u / y1*y1+u % y1:=by omega
  generalize u / y1=q at *
  generalize u % y1=r at *
  subst e
  have h2:(y1*Hs+y0)*q=q*y1*Hs+y0*q:=by rw[Nat.add_mul];ac_rfl
  rw[h2,Nat.add_mul];have h3:r*Hs≤(y1 - 1)*Hs:=Nat.mul_le_mul_right _ (by omega)
  have h4:y1*Hs=(y1 - 1)*Hs+Hs:=by
   obtain⟨z,rfl⟩:∃ z,y1=z+1:=⟨y1 - 1,by omega⟩
   rw[Nat.add_sub_cancel,Nat.add_mul,Nat.one_mul]
  generalize q*y1*Hs=a at *
  generalize y0*q=b at *
  generalize r*Hs=c at *
  generalize (y1 - 1)*Hs=e at *
  omega
theorem Half.right {u d y1 y0 q r:Nat}(h:Half u d y1 y0 q r) (hy:0<y1) (hc:q*y0≤Hs*r+d):q=(u*Hs+d) / (y1*Hs+y0):=by
 refine Nat.le_antisymm ?_ h.ge
 have hp:0<y1*Hs+y0:=by
  have:=Nat.mul_pos hy (by rw[Hs_def];omega:0<Hs);omega
 rw[Nat.le_div_iff_mul_le hp];have e:=h.eq
 have:u*Hs=q*y1*Hs+r*Hs:=by rw[←e,Nat.add_mul]
 rw[this,Nat.mul_add,←Nat.mul_assoc,Nat.mul_comm r Hs];omega
theorem Half.over {u d y1 y0 q r:Nat}(h:Half u d y1 y0 q r) (hu:u<y1*Hs+y0) (hd:d<Hs) (hc:Hs≤q∨Hs*r+d<q*y0):(u*Hs+d) / (y1*Hs+y0)+1≤q:=by
 have hp:0<y1*Hs+y0:=by omega
 rw[Nat.add_one_le_iff,Nat.div_lt_iff_lt_mul hp]
 rcases hc with hc | hc
 ·have h1:(u+1)*Hs≤(y1*Hs+y0)*Hs:=Nat.mul_le_mul_right _ hu;have h2:Hs*(y1*Hs+y0)≤q*(y1*Hs+y0):=Nat.mul_le_mul_right _ hc;rw[Nat.add_mul,Nat.one_mul]at h1;rw[Nat.mul_comm Hs]at h2;omega
 ·have e:=h.eq
  have:u*Hs=q*y1*Hs+r*Hs:=by rw[←e,Nat.add_mul]
  rw[this,Nat.mul_add,←Nat.mul_assoc,Nat.mul_comm r Hs];omega
theorem Half.next {u d y1 y0 q r:Nat}(h:Half u d y1 y0 q r) (hu:u<y1*Hs+y0) (hd:d<Hs) (hc:Hs≤q∨Hs*r+d<q*y0) (hr:r+y1<Hs):Half u d y1 y0 (q - 1) (r+y1):=by
 have ho:=h.over hu hd hc;have e:=h.eq;have hq1:1≤q:=Nat.le_trans (Nat.le_add_left 1 _) ho
 obtain⟨p,rfl⟩:∃ p,q=p+1:=⟨q - 1,(Nat.sub_add_cancel hq1).symm⟩
 rw[Nat.add_mul,Nat.one_mul]at e;exact⟨by rw[Nat.add_sub_cancel];omega,hr,by have:=h.q_le;omega,by omega⟩
theorem Half.last {u d y1 y0 q r:Nat}(h:Half u d y1 y0 q r) (hu:u<y1*Hs+y0) (hd:d<Hs) (_hy:0<y1) (h0:y0<Hs) (hc:Hs≤q∨Hs*r+d<q*y0) (hr:Hs≤r+y1):q - 1=(u*Hs+d) / (y1*Hs+y0):=by
 have ho:=h.over hu hd hc;have e:=h.eq;have hq:=h.q_le;have hq1:1≤q:=Nat.le_trans (Nat.le_add_left 1 _) ho
 obtain⟨p,rfl⟩:∃ p,q=p+1:=⟨q - 1,(Nat.sub_add_cancel hq1).symm⟩
 rw[Nat.add_mul,Nat.one_mul]at e
 rw[Nat.add_sub_cancel] at *
 refine Nat.le_antisymm ?_ (by omega)
 have hp:0<y1*Hs+y0:=by omega
 rw[Nat.le_div_iff_mul_le hp];have h1:p*y0≤Hs*(r+y1):=Nat.mul_le_mul (by omega) (by omega)
 have:u*Hs=p*y1*Hs+(r+y1)*Hs:=by rw[←e,←Nat.add_mul];congr 1;omega
 rw[this,Nat.mul_add,←Nat.mul_assoc,Nat.mul_comm (r+y1) Hs];omega
theorem norm_lt {y s:Nat}(hy:y≠0) (hl:y<Bs) (hs:s=64 - bl y):y*2^s<Bs∧Bs≤2*(y*2^s):=by
 have h64:=bl_le_64 hl
 obtain⟨k,hk⟩:∃ k,bl y=k+1:=by
  cases e:bl y with
  | zero=>exact absurd ((bl_eq_zero y).1 e) hy
  | succ k=>exact⟨k,rfl⟩
 have a:2^k≤y:=by
  rcases Nat.lt_or_ge y (2^k) with g | g
  ·have:=(bl_le_iff y k).2 g;omega
  ·exact g
 have b:y<2^(k+1):=by rw[←hk];exact lt_bl _
 have e1:2^(k+1)*2^s=Bs:=by rw[←Nat.pow_add,Bs_eq];congr 1;omega
 have e2:2*(2^k*2^s)=Bs:=by rw[←e1,Nat.pow_succ,Nat.mul_comm (2^k) 2,Nat.mul_assoc]
 constructor
 ·rw[←e1];exact Nat.mul_lt_mul_of_pos_right b (Nat.two_pow_pos s)
 ·rw[←e2];exact Nat.mul_le_mul_left 2 (Nat.mul_le_mul_right _ a)
theorem two_pow_split {s:Nat}(hs:s≤64):2^(64 - s)*2^s=Bs:=by rw[←Nat.pow_add,Bs_eq];congr 1;omega
theorem norm_high {hi lo s:Nat}(hs:s≤64):(hi*Bs+lo)*2^s / Bs=hi*2^s+lo / 2^(64 - s):=by
 have e:=two_pow_split hs
 have h1:(hi*Bs+lo)*2^s=lo*2^s+hi*2^s*Bs:=by rw[Nat.add_mul];rw[Nat.mul_right_comm,Nat.add_comm]
 have h2:lo*2^s / Bs=lo / 2^(64 - s):=by rw[←e];exact Nat.mul_div_mul_right _ _ (Nat.two_pow_pos s)
 rw[h1,Nat.add_mul_div_right _ _ Bs_pos,h2,Nat.add_comm]
theorem norm_low {hi lo s:Nat}:(hi*Bs+lo)*2^s % Bs=lo*2^s % Bs:=by
 have h1:(hi*Bs+lo)*2^s=lo*2^s+hi*2^s*Bs:=by rw[Nat.add_mul];rw[Nat.mul_right_comm,Nat.add_comm]
 rw[h1,Nat.add_mul_mod_self_right]
theorem norm_less {hi lo y s:Nat}(hh:hi<y) (hl:lo<Bs):(hi*Bs+lo)*2^s / Bs<y*2^s:=by
 rw[Nat.div_lt_iff_lt_mul Bs_pos]
 have h1:hi*Bs+lo<y*Bs:=by
  have:=Nat.mul_le_mul_right Bs hh;rw[Nat.succ_mul]at this;omega
 rw[Nat.mul_right_comm];exact Nat.mul_lt_mul_of_pos_right h1 (Nat.two_pow_pos s)
theorem two_halves {N y s u v Y:Nat}(hu:u=N*2^s / Bs) (hv:v=N*2^s % Bs) (hY:Y=y*2^s) (hy:0<y) :
  N / y=(u*Hs+v / Hs) / Y*Hs+((u*Hs+v / Hs) % Y*Hs+v % Hs) / Y∧N % y=((u*Hs+v / Hs) % Y*Hs+v % Hs) % Y / 2^s:=by
 have h2:=Nat.two_pow_pos s
 have hYp:0<Y:=by rw[hY];exact Nat.mul_pos hy h2
 have e1:N*2^s=u*Bs+v:=by rw[hu,hv,Nat.mul_comm _ Bs];exact (Nat.div_add_mod _ _).symm
 have e2:=Nat.div_add_mod v Hs;have e3:=Nat.div_add_mod (u*Hs+v / Hs) Y;have e4:=Nat.div_add_mod ((u*Hs+v / Hs) % Y*Hs+v % Hs) Y;have hm:=Nat.mod_lt ((u*Hs+v / Hs) % Y*Hs+v % Hs) hYp
 generalize (u*Hs+v / Hs) / Y=q1 at *
 generalize (u*Hs+v / Hs) % Y=r1 at *
 generalize (r1*Hs+v % Hs) / Y=q0 at *
 generalize (r1*Hs+v % Hs) % Y=r0 at *
 have e5:N*2^s=r0+Y*(q1*Hs+q0):=by
  rw[e1,←Hs_Bs,←Nat.mul_assoc]
  have:u*Hs*Hs+v=(u*Hs+v / Hs)*Hs+v % Hs:=by rw[Nat.add_mul,Nat.mul_comm (v / Hs)];omega
  rw[this,←e3,Nat.add_mul,Nat.mul_add,Nat.mul_assoc];omega
 have e6:N*2^s / Y=q1*Hs+q0:=by rw[e5,Nat.add_mul_div_left _ _ hYp,Nat.div_eq_of_lt hm,Nat.zero_add]
 have e7:N*2^s % Y=r0:=by rw[e5,Nat.add_mul_mod_self_left,Nat.mod_eq_of_lt hm]
 rw[hY,Nat.mul_div_mul_right _ _ h2]at e6;rw[hY,Nat.mul_mod_mul_right]at e7;exact⟨e6,by rw[←e7,Nat.mul_div_cancel _ h2]⟩
theorem Half.q_bound {u d y1 y0 q r:Nat}(h:Half u d y1 y0 q r) (h0:y0<Hs):q*y0≤Bs - 1:=by
 have:=Nat.mul_le_mul h.q_le (show y0≤Hs - 1 by omega)
 have e:(Hs+1)*(Hs - 1)=Bs - 1:=by rw[Hs_def,Bs_def]
 omega
theorem quot_lt {u d Y:Nat}(hu:u<Y) (hd:d<Hs):(u*Hs+d) / Y<Hs:=by
 rw[Nat.div_lt_iff_lt_mul (by omega)];have:=Nat.mul_le_mul_right Hs hu;rw[Nat.succ_mul]at this;rw[Nat.mul_comm Hs];omega
structure HalfOk (u d y1 y0:Nat):Prop where
 hu:u<y1*Hs+y0
 hd:(d:Int)≤4294967295
 hy:(2147483648:Int)≤(y1:Int)
 h0:(y0:Int)≤4294967295
theorem HalfOk.d {u d y1 y0:Nat}(k:HalfOk u d y1 y0):d<Hs:=by have:=k.hd;rw[Hs_def];omega
theorem HalfOk.y {u d y1 y0:Nat}(k:HalfOk u d y1 y0):0<y1:=by have:=k.hy;omega
theorem HalfOk.z {u d y1 y0:Nat}(k:HalfOk u d y1 y0):y0<Hs:=by have:=k.h0;rw[Hs_def];omega
theorem half_c {d q r p y0:Nat}(hp:p=q*y0) (hc:(4294967296:Int)≤(q:Int)∨(4294967296:Int)*(r:Int)+(d:Int)<(p:Int)):Hs≤q∨Hs*r+d<q*y0:=by
 rw[Hs_def,←hp];omega
theorem Half.last' {u d y1 y0 q r p:Nat}(h:Half u d y1 y0 q r) (k:HalfOk u d y1 y0) (hp:p=q*y0) (hr:(4294967296:Int)≤(r:Int)+(y1:Int))
  (hc:(4294967296:Int)≤(q:Int)∨(4294967296:Int)*(r:Int)+(d:Int)<(p:Int)):(q:Int) - 1=((u*Hs+d) / (y1*Hs+y0):Nat):=by
 have h1:=h.last k.hu k.d k.y k.z (half_c hp hc) (by rw[Hs_def];omega);have h2:=h.over k.hu k.d (half_c hp hc);omega
theorem Half.next' {u d y1 y0 q r p:Nat}(h:Half u d y1 y0 q r) (k:HalfOk u d y1 y0) (hp:p=q*y0) (hr:¬ (4294967296:Int)≤(r:Int)+(y1:Int))
  (hc:(4294967296:Int)≤(q:Int)∨(4294967296:Int)*(r:Int)+(d:Int)<(p:Int)):Half u d y1 y0 (q - 1) (r+y1) :=
 h.next k.hu k.d (half_c hp hc) (by rw[Hs_def];omega)
theorem Half.right' {u d y1 y0 q r p:Nat}(h:Half u d y1 y0 q r) (k:HalfOk u d y1 y0) (hp:p=q*y0)
  (hc:¬ (4294967296:Int)*(r:Int)+(d:Int)<(p:Int)):(q:Int)=((u*Hs+d) / (y1*Hs+y0):Nat):=by
 have:=h.right k.y (by rw[Hs_def,←hp];omega);omega
theorem Half.one {q p y0:Nat}(hp:p=q*y0) (h:(0:Int)<(p:Int)):(1:Int)≤(q:Int):=by
 rcases Nat.eq_zero_or_pos q with g | g
 ·subst g;simp at hp;omega
 ·omega
structure ShortInv (A:List Nat) (d n r:Nat) (D:List Nat):Prop where
 len:D.length+n=A.length
 lt:∀ x∈D,x<Bs
 val_eq:val D=val (A.drop n) / d
 r_eq:r=val (A.drop n) % d
theorem ShortInv.start (A:List Nat) (d:Nat):ShortInv A d A.length 0 []:=⟨by simp,(fun x hx=>by cases hx),by simp [val],by simp [val]⟩
theorem ShortInv.next {A:List Nat}{d m r:Nat}{D:List Nat}(h:ShortInv A d (m+1) r D) (hA:∀ x∈A,x<Bs) (hd:0<d) :
  ShortInv A d m ((r*Bs+el A m) % d) ((r*Bs+el A m) / d :: D):=by
 have hm:m<A.length:=by have:=h.len;omega
 have e:val (A.drop m)=el A m+Bs*val (A.drop (m+1)):=by rw[List.drop_eq_getElem_cons hm,val,el_of_lt hm]
 have hr:=h.r_eq;have hv:=h.val_eq;have hdm:=Nat.div_add_mod (val (A.drop (m+1))) d
 have e2:val (A.drop m)=r*Bs+el A m+d*(Bs*val D):=by
  rw[e,hv,hr,Nat.mul_left_comm d Bs,Nat.mul_comm _ Bs];have h3:=congrArg (Bs * ·) hdm;simp only[Nat.mul_add]at h3
  generalize Bs*(d*(val (A.drop (m+1)) / d))=p at *
  generalize Bs*(val (A.drop (m+1)) % d)=q at *
  generalize Bs*val (A.drop (m+1))=t at *
  omega
 refine⟨by have:=h.len;simp only[List.length_cons];omega,fun x hx=>?_,?_,?_⟩
 ·rcases List.mem_cons.1 hx with rfl | hx
  ·rw[Nat.div_lt_iff_lt_mul hd]
   have hrd:r<d:=by rw[hr];exact Nat.mod_lt _ hd
   have h1:=el_lt hA m;have h2:=Nat.mul_le_mul_right Bs (Nat.succ_le_of_lt hrd);rw[Nat.succ_mul]at h2;rw[Nat.mul_comm Bs d];omega
  ·exact h.lt x hx
 ·rw[val,e2,Nat.add_mul_div_left _ _ hd]
 ·rw[e2,Nat.add_mul_mod_self_left]
theorem ShortInv.r_lt {A:List Nat}{d n r:Nat}{D:List Nat}(h:ShortInv A d n r D) (hd:0<d):r<d:=by rw[h.r_eq];exact Nat.mod_lt _ hd
theorem zeros_set (m:Nat) (D:List Nat) (x:Nat):(List.replicate (m+1) 0 ++ D).set m x=List.replicate m 0 ++ (x :: D):=by
 rw[List.replicate_succ',List.append_assoc,List.set_append_right _ _ (by simp)]
 simp
theorem zeros_lt {D:List Nat}(h:∀ x∈D,x<Bs) (m:Nat):∀ x∈List.replicate m 0 ++ D,x<Bs:=by
 intro x hx
 rcases List.mem_append.1 hx with hx | hx
 ·rw[(List.mem_replicate.1 hx).2];exact Bs_pos
 ·exact h x hx
theorem dig_len_le {n k:Nat}(h:n<Bs^k):(dig n).length≤k:=by
 induction k generalizing n with
 | zero =>
  have:n=0:=by simpa using h
  subst this;rw[dig_zero];simp
 | succ k ih =>
  by_cases h0:n=0
  ·subst h0;rw[dig_zero];simp
  ·rw[dig_pos h0,List.length_cons]
   have:n / Bs<Bs^k:=by rw[Nat.div_lt_iff_lt_mul Bs_pos,←Nat.pow_succ];exact h
   have:=ih this;omega
theorem dig_val_len {A:List Nat}(h:∀ x∈A,x<Bs):(dig (val A)).length≤A.length:=dig_len_le (val_lt h)
theorem dig_one {d:Nat}(h:d<Bs) (h0:0<d):dig d = [d]:=by
 have:=dig_cons (x:=d) (n:=0) h (.inl (by omega));rw[dig_zero]at this
 simpa using this
end Go.Proofs.YtfofjalebhajhaaGreatDoor
namespace Go.Proofs.YtfofjalebhajhaaGreatDoor
open Go Go.RowKit Go.Shelf
theorem bl_half {x:Nat}(h:x≠0):bl x=1+bl (x / 2):=by
 by_cases h1:x / 2=0
 ·have:x=1:=by omega
  subst this;rw[bl_small (by omega)];rfl
 ·have:=bl_shift (n:=x) (k:=1) (by simpa using h1)
  simpa using this
theorem bitLen_bl:∀ (x:Nat),x<Bs→Lib.bitLen x=bl x:=by
 intro x
 induction x using Nat.strongRecOn with
 | _ x ih =>
  intro h
  by_cases h0:x=0
  ·subst h0;rfl
  ·rw[Lib.bitLen_half x h0 (by rw[←Bs_eq];exact h),bl_half h0,ih (x / 2) (by omega) (by omega)]
theorem lz_calls (w:World) (x:Nat) (hx:x<Bs) :
  Calls Tryz.prog 154 #[.int .u64 (x:Int)] w fun e w'=>e = .returned (.int .i64 ((64 - bl x:Nat):Int))∧w=w':=by
 have h:=Any.bits_LeadingZeros64 Tryz.lays134 (x:Int) w (by omega) (by rw[Bs_def]at hx;omega);refine h.mono ?_;rintro e w' ⟨rfl,rfl⟩;refine⟨ret_eq (int_eq ?_),rfl⟩;have:=bl_le_64 hx;rw[Int.toNat_natCast,bitLen_bl x hx];omega
theorem and_mask (x:Nat) (h:x<Bs):bits .and .u64 (x:Int) 4294967295=((x % Hs:Nat):Int):=by
 have:=bits_mask .u64 64 (by decide) wraps_u64 32 (by decide) (x:Int) (by omega) (by rw[Bs_def]at h;omega);rw[Hs_def]
 simpa using this
theorem or_join {x y i:Nat}(hi:i≤64) (hx:x % 2^i=0) (hx1:x<Bs) (hy:y<2^i):bits .or .u64 (x:Int) (y:Int)=((x+y:Nat):Int):=by
 have h1:(2:Nat)^i≤2^64:=Nat.pow_le_pow_right (by decide) hi;have:=bits_join .u64 64 (by decide) wraps_u64 i (x:Int) (y:Int) (by omega) (by exact_mod_cast hx) (by rw[Bs_def]at hx1;omega) (by omega) (by exact_mod_cast hy) (by omega)
 simpa using this
theorem shl_wrap (x s:Nat):IntKind.u64.wrap ((x:Int)*2^s)=((x*2^s % Bs:Nat):Int):=by
 rw[IntKind.wrap_u64,Bs_def]
 simp
theorem rest_wrap {u d Y Q R:Nat}(hQ:Q=(u*Hs+d) / Y) (hR:R=(u*Hs+d) % Y) (hY:Y<Bs) (hp:0<Y) :
  IntKind.u64.wrap (IntKind.u64.wrap (IntKind.u64.wrap ((u:Int)*4294967296)+(d:Int)) - IntKind.u64.wrap ((Q:Int)*(Y:Int)))=(R:Int):=by
 have h1:Y*Q+R=u*Hs+d:=by rw[hQ,hR];exact Nat.div_add_mod _ _
 have h2:R<Y:=by rw[hR];exact Nat.mod_lt _ hp
 have h3:((Y*Q+R:Nat):Int)=((u*4294967296+d:Nat):Int):=by rw[h1,Hs_def]
 simp only[Int.natCast_add,Int.natCast_mul]at h3;rw[Bs_def]at hY;simp only[IntKind.wrap_u64];rw[Int.mul_comm (Q:Int)]
 generalize (Y:Int)*(Q:Int)=t at *
 have e:((4294967296:Nat):Int)=4294967296:=rfl;rw[e]at h3;omega
set_option maxRecDepth 100000 in
set_option maxHeartbeats 4000000 in
theorem div64_calls (w:World) (hi lo y:Nat) (hy:y<Bs) (hl:lo<Bs) (hh:hi<y) :
  Calls Tryz.prog 148 #[.int .u64 (hi:Int),.int .u64 (lo:Int),.int .u64 (y:Int)] w fun e w' =>
   e = .returned (.tuple #[.int .u64 ((hi*Bs+lo) / y:Nat),.int .u64 ((hi*Bs+lo) % y:Nat)])∧Ext w w':=by
 obtain⟨s,hs⟩:∃ s,s=64 - bl y:=⟨_,rfl⟩
 have hs63:s≤63:=by
  have:0<bl y:=by have:=bl_eq_zero y;omega
  omega
 have hy0:((y:Int) == 0)=false:=by rw[beq_eq_false_iff_ne];omega
 by_cases hz:hi=0
 ·subst hz
  have k1:(1:Int)≤(y:Int):=by omega
  have k0:(0:Int)≤(lo:Int):=by omega
  have k2:(lo:Int)≤18446744073709551615:=by rw[Bs_def]at hl;omega
  have k3:(y:Int)≤18446744073709551615:=by rw[Bs_def]at hy;omega
  have k4:(lo:Int) / (y:Int)≤18446744073709551615:=by
   have:=Nat.div_le_self lo y
   have h:((lo / y:Nat):Int)≤18446744073709551615:=by omega
   simpa using h
  have k5:(0:Int)≤(lo:Int) / (y:Int):=by
   have h:(0:Int)≤((lo / y:Nat):Int):=Int.natCast_nonneg _
   simpa using h
  have k6:(lo:Int) % (y:Int)≤18446744073709551615:=by
   have:=Nat.mod_le lo y
   have h:((lo % y:Nat):Int)≤18446744073709551615:=by omega
   simpa using h
  have k7:(0:Int)≤(lo:Int) % (y:Int):=by
   have h:(0:Int)≤((lo % y:Nat):Int):=Int.natCast_nonneg _
   simpa using h
  clear hs hy hl hh
  go_enter Tryz.func148,Tryz.ntmps148
  go_wp2_with fail
  go_quiet (fail)
  go_wp2_with fail;go_ret2;refine⟨ret_eq ?_,?_⟩
  ·simp
  ·exact (Ext.refl w).drewN _
 ·have hz':((hi:Int) == 0)=false:=by rw[beq_eq_false_iff_ne];omega
  obtain⟨n1,n2⟩:=norm_lt (by omega) hy hs;have n3:=norm_high (hi:=hi) (lo:=lo) (show s≤64 by omega);have n4:=norm_low (hi:=hi) (lo:=lo) (s:=s);have n5:=norm_less (s:=s) hh hl
  obtain⟨Y,hY⟩:∃ Y,Y=y*2^s:=⟨_,rfl⟩
  obtain⟨u,hu⟩:∃ u,u=(hi*Bs+lo)*2^s / Bs:=⟨_,rfl⟩
  obtain⟨v,hv⟩:∃ v,v=(hi*Bs+lo)*2^s % Bs:=⟨_,rfl⟩
  have hfin:=two_halves hu hv hY (by omega);rw[←hu]at n3 n5;rw[←hY]at n1 n2 n5;rw[←hv]at n4
  have hvB:v<Bs:=by rw[hv];exact Nat.mod_lt _ Bs_pos
  have E1:IntKind.u64.wrap ((y:Int)*2^s)=(Y:Int):=by rw[shl_wrap,←hY,Nat.mod_eq_of_lt n1]
  have E4:bits .or .u64 (IntKind.u64.wrap ((hi:Int)*2^s)) ((lo:Int) / 2^(64 - s))=(u:Int):=by
   have a0:hi*2^s≤u:=by rw[n3];exact Nat.le_add_right _ _
   have a1:hi*2^s<Bs:=by omega
   have a2:lo / 2^(64 - s)<2^s:=by
    rw[Nat.div_lt_iff_lt_mul (Nat.two_pow_pos _),Nat.mul_comm,two_pow_split (by omega)];exact hl
   have a3:((lo:Int) / 2^(64 - s))=((lo / 2^(64 - s):Nat):Int):=by simp
   rw[shl_wrap,Nat.mod_eq_of_lt a1,a3,or_join (i:=s) (by omega) (Nat.mul_mod_left _ _) a1 a2,n3]
  have E5:IntKind.u64.wrap ((lo:Int)*2^s)=(v:Int):=by rw[shl_wrap,n4]
  obtain⟨y1,hy1⟩:∃ y1,y1=Y / Hs:=⟨_,rfl⟩
  obtain⟨y0,hy0'⟩:∃ y0,y0=Y % Hs:=⟨_,rfl⟩
  obtain⟨v1,hv1⟩:∃ v1,v1=v / Hs:=⟨_,rfl⟩
  obtain⟨v0,hv0⟩:∃ v0,v0=v % Hs:=⟨_,rfl⟩
  have hYs:Y=y1*Hs+y0:=by rw[hy1,hy0',Nat.mul_comm];exact (Nat.div_add_mod _ _).symm
  have E2:(Y:Int) / 4294967296=(y1:Int):=by rw[hy1,Hs_def];simp
  have E3:bits .and .u64 (Y:Int) 4294967295=(y0:Int):=by rw[and_mask Y n1,hy0']
  have E6:(v:Int) / 4294967296=(v1:Int):=by rw[hv1,Hs_def];simp
  have E7:bits .and .u64 (v:Int) 4294967295=(v0:Int):=by rw[and_mask v hvB,hv0]
  rw[←hv1,←hv0,hYs]at hfin;rw[hYs]at n5
  have b1:y1<4294967296:=by rw[Hs_def]at hy1;rw[Bs_def]at n1;omega
  have b2:2147483648≤y1:=by rw[Hs_def]at hy1;rw[Bs_def]at n2;omega
  have b3:y0<4294967296:=by rw[Hs_def]at hy0';omega
  have b4:v1<4294967296:=by rw[Hs_def]at hv1;rw[Bs_def]at hvB;omega
  have b5:v0<4294967296:=by rw[Hs_def]at hv0;omega
  have hH0:Half u v1 y1 y0 (u / y1) (u - u / y1*y1):=Half.start n5 (by rw[Hs_def];exact b4) (by rw[Hs_def];omega) (by rw[Hs_def];exact b1) (by rw[Hs_def];exact b3)
  obtain⟨q0,hq0⟩:∃ q0,q0=u / y1:=⟨_,rfl⟩
  obtain⟨r0,hr0⟩:∃ r0,r0=u - q0*y1:=⟨_,rfl⟩
  rw[←hq0,←hr0]at hH0
  have E8:(u:Int) / (y1:Int)=(q0:Int):=by rw[hq0];simp
  have b6:q0≤4294967297:=by have:=hH0.q_le;rw[Hs_def]at this;omega
  have b7:=hH0.r_lt;rw[Hs_def]at b7
  have b8:((q0*y1:Nat):Int)≤18446744073709551615:=by have:=hH0.eq;rw[Bs_def]at n1;have:=hH0.eq;omega
  have b9:(0:Int)≤((q0*y1:Nat):Int):=by omega
  have E9:(u:Int) - ((q0*y1:Nat):Int)=(r0:Int):=by have:=hH0.eq;omega
  simp only[Int.natCast_mul]at b8 b9 E9
  obtain⟨Q1,hQ1⟩:∃ Q1,Q1=(u*Hs+v1) / (y1*Hs+y0):=⟨_,rfl⟩
  have HQ1:=Hd hQ1
  have c1:(y1:Int)≤4294967295:=by omega
  have c2:(2147483648:Int)≤(y1:Int):=by omega
  have c3:(y0:Int)≤4294967295:=by omega
  have c4:(v1:Int)≤4294967295:=by omega
  have c5:(v0:Int)≤4294967295:=by omega
  have c6:(q0:Int)≤4294967297:=by omega
  have c7:(r0:Int)≤4294967295:=by omega
  have OK:HalfOk u v1 y1 y0:=⟨n5,c4,c2,c3⟩
  obtain⟨U,hU⟩:∃ U,U=(u*Hs+v1) % (y1*Hs+y0):=⟨_,rfl⟩
  have hYp:0<y1*Hs+y0:=Nat.lt_of_le_of_lt (Nat.zero_le _) n5
  have hUY:U<y1*Hs+y0:=by rw[hU];exact Nat.mod_lt _ hYp
  obtain⟨Q0,hQ0⟩:∃ Q0,Q0=(U*Hs+v0) / (y1*Hs+y0):=⟨_,rfl⟩
  obtain⟨R,hR⟩:∃ R,R=(U*Hs+v0) % (y1*Hs+y0):=⟨_,rfl⟩
  have OK2:HalfOk U v0 y1 y0:=⟨hUY,c5,c2,c3⟩
  have HQ0:=Hd hQ0
  have hYB:y1*Hs+y0<Bs:=by rw[←hYs];exact n1
  have G1:IntKind.u64.wrap (IntKind.u64.wrap (IntKind.u64.wrap ((u:Int)*4294967296)+(v1:Int)) - IntKind.u64.wrap ((Q1:Int)*(Y:Int)))=(U:Int):=by
   rw[hYs];exact rest_wrap hQ1 hU hYB hYp
  have G2:IntKind.u64.wrap (IntKind.u64.wrap (IntKind.u64.wrap ((U:Int)*4294967296)+(v0:Int)) - IntKind.u64.wrap ((Q0:Int)*(Y:Int)))=(R:Int):=by
   rw[hYs];exact rest_wrap hQ0 hR hYB hYp
  have c8:(Q1:Int)≤4294967295:=by have:=quot_lt OK.hu OK.d;rw[←hQ1,Hs_def]at this;omega
  have c9:(Q0:Int)≤4294967295:=by have:=quot_lt OK2.hu OK2.d;rw[←hQ0,Hs_def]at this;omega
  have hH2:Half U v0 y1 y0 (U / y1) (U - U / y1*y1):=Half.start OK2.hu OK2.d (by rw[Hs_def];omega) (by rw[Hs_def];omega) OK2.z
  obtain⟨q2,hq2⟩:∃ q2,q2=U / y1:=⟨_,rfl⟩
  obtain⟨r2,hr2⟩:∃ r2,r2=U - q2*y1:=⟨_,rfl⟩
  rw[←hq2,←hr2]at hH2
  have G3:(U:Int) / (y1:Int)=(q2:Int):=by rw[hq2];simp
  have c10:(q2:Int)≤4294967297:=by have:=hH2.q_le;rw[Hs_def]at this;omega
  have c11:(r2:Int)≤4294967295:=by have:=hH2.r_lt;rw[Hs_def]at this;omega
  have b10:((q2*y1:Nat):Int)≤18446744073709551615:=by have:=hH2.eq;rw[Bs_def]at hYB;omega
  have b11:(0:Int)≤((q2*y1:Nat):Int):=by omega
  have G4:(U:Int) - ((q2*y1:Nat):Int)=(r2:Int):=by have:=hH2.eq;omega
  simp only[Int.natCast_mul]at b10 b11 G4;rw[←hQ1,←hU,←hQ0,←hR,Hs_def]at hfin;have HF1:=Hd hfin.1;have HF2:=Hd hfin.2;have HY:=Hd hy;have HS:=Hd hs;have HYS:=Hd hYs;clear hU hQ0 hR hq2 hr2 hYp hUY hYB b1 b2 b3 b4 b5 b6 b7 hq0 hr0 hQ1 hs hy hl hz n1 n2 n3 n4 n5 hY hu hv hfin hvB hy1 hy0' hv1 hv0 hYs
  go_enter Tryz.func148,Tryz.ntmps148
  go_upto_block 0 with (go_at_call 154;refine (lz_calls _ y HY.out).mono ?_;rintro e w' ⟨rfl,rfl⟩;rw[←HS.out])
  go_cut [15,16] (fun v15 _ wx=>w=wx∧v15 = .int .u64 (Q1:Int))
  case first =>
   go_wp2_with fail
   go_loop [15,16] (fun v15 v16 => ∃ q r:Nat,v15 = .int .u64 (q:Int)∧v16 = .int .u64 (r:Int)∧Half u v1 y1 y0 q r) (fun v15 _=>(intOf v15).toNat)
   case atStart=>exact⟨q0,r0,rfl,rfl,hH0⟩
   case round =>
    clear E1 E2 E3 E4 E5 E6 E7 E8 E9 b8 b9 hH0 G1 G2 G3 G4 b10 b11 hH2;obtain⟨q,r,rfl,rfl,hI⟩:=hrel
    have k1:(q:Int)≤4294967297:=by have:=hI.q_le;rw[Hs_def]at this;omega
    have k2:(r:Int)≤4294967295:=by have:=hI.r_lt;rw[Hs_def]at this;omega
    obtain⟨p,hp⟩:∃ p,p=q*y0:=⟨_,rfl⟩
    have k3:p<Bs:=by have:=hI.q_bound (by rw[Hs_def];omega);have:=Bs_pos;omega
    have K:IntKind.u64.wrap ((q:Int)*(y0:Int))=(p:Int):=by
     rw[IntKind.wrap_u64,←Int.natCast_mul,←hp];rw[Bs_def]at k3;omega
    have HP:=Hd hp;have HI:=Hd hI;clear hp k3 hI
    by_cases hr:(4294967296:Int)≤(r:Int)+(y1:Int)
    ·by_cases hq:(4294967296:Int)≤(q:Int)
     ·go_wp2_with fail
      go_meet
      case rel=>exact⟨rfl,int_eq (by rw[HQ1.out];exact HI.out.last' OK HP.out hr (.inl hq))⟩
     by_cases hc:(4294967296:Int)*(r:Int)+(v1:Int)<(p:Int)
     ·have q1:=Half.one HP.out (by omega);go_wp2_with fail
      go_meet
      case rel=>exact⟨rfl,int_eq (by rw[HQ1.out];exact HI.out.last' OK HP.out hr (.inr hc))⟩
     ·go_wp2_with fail
      go_meet
      case rel=>exact⟨rfl,int_eq (by rw[HQ1.out];exact HI.out.right' OK HP.out (by omega))⟩
    ·by_cases hq:(4294967296:Int)≤(q:Int)
     ·go_wp2_with fail;exact⟨⟨q - 1,r+y1,int_eq (by omega),int_eq (by omega),HI.out.next' OK HP.out hr (.inl hq)⟩,by simp [intOf];omega⟩
     by_cases hc:(4294967296:Int)*(r:Int)+(v1:Int)<(p:Int)
     ·have q1:=Half.one HP.out (by omega);go_wp2_with fail;exact⟨⟨q - 1,r+y1,int_eq (by omega),int_eq (by omega),HI.out.next' OK HP.out hr (.inr hc)⟩,by simp [intOf];omega⟩
     ·go_wp2_with fail
      go_meet
      case rel=>exact⟨rfl,int_eq (by rw[HQ1.out];exact HI.out.right' OK HP.out (by omega))⟩
  case rest =>
   obtain⟨rfl,rfl⟩:=hcut;clear E1 E2 E3 E4 E5 E6 E7 E8 E9 b8 b9 hH0
   go_upto_block 2 with fail
   go_cut [18,16] (fun v18 _ wx=>w=wx∧v18 = .int .u64 (Q0:Int))
   case first =>
    go_wp2_with fail
    go_loop [18,16] (fun v18 v16 => ∃ q r:Nat,v18 = .int .u64 (q:Int)∧v16 = .int .u64 (r:Int)∧Half U v0 y1 y0 q r) (fun v18 _=>(intOf v18).toNat)
    case atStart=>exact⟨q2,r2,rfl,rfl,hH2⟩
    case round =>
     clear G1 G2 G3 G4 b10 b11 hH2;obtain⟨q,r,rfl,rfl,hI⟩:=hrel
     have k1:(q:Int)≤4294967297:=by have:=hI.q_le;rw[Hs_def]at this;omega
     have k2:(r:Int)≤4294967295:=by have:=hI.r_lt;rw[Hs_def]at this;omega
     obtain⟨p,hp⟩:∃ p,p=q*y0:=⟨_,rfl⟩
     have k3:p<Bs:=by have:=hI.q_bound (by rw[Hs_def];omega);have:=Bs_pos;omega
     have K:IntKind.u64.wrap ((q:Int)*(y0:Int))=(p:Int):=by
      rw[IntKind.wrap_u64,←Int.natCast_mul,←hp];rw[Bs_def]at k3;omega
     have HP:=Hd hp;have HI:=Hd hI;clear hp k3 hI
     by_cases hr:(4294967296:Int)≤(r:Int)+(y1:Int)
     ·by_cases hq:(4294967296:Int)≤(q:Int)
      ·go_wp2_with fail
       go_meet
       case rel=>exact⟨rfl,int_eq (by rw[HQ0.out];exact HI.out.last' OK2 HP.out hr (.inl hq))⟩
      by_cases hc:(4294967296:Int)*(r:Int)+(v0:Int)<(p:Int)
      ·have q1:=Half.one HP.out (by omega);go_wp2_with fail
       go_meet
       case rel=>exact⟨rfl,int_eq (by rw[HQ0.out];exact HI.out.last' OK2 HP.out hr (.inr hc))⟩
      ·go_wp2_with fail
       go_meet
       case rel=>exact⟨rfl,int_eq (by rw[HQ0.out];exact HI.out.right' OK2 HP.out (by omega))⟩
     ·by_cases hq:(4294967296:Int)≤(q:Int)
      ·go_wp2_with fail;exact⟨⟨q - 1,r+y1,int_eq (by omega),int_eq (by omega),HI.out.next' OK2 HP.out hr (.inl hq)⟩,by simp [intOf];omega⟩
      by_cases hc:(4294967296:Int)*(r:Int)+(v0:Int)<(p:Int)
      ·have q1:=Half.one HP.out (by omega);go_wp2_with fail;exact⟨⟨q - 1,r+y1,int_eq (by omega),int_eq (by omega),HI.out.next' OK2 HP.out hr (.inr hc)⟩,by simp [intOf];omega⟩
      ·go_wp2_with fail
       go_meet
       case rel=>exact⟨rfl,int_eq (by rw[HQ0.out];exact HI.out.right' OK2 HP.out (by omega))⟩
   case rest =>
    obtain⟨rfl,rfl⟩:=hcut;go_wp2_with fail;go_ret2;exact⟨ret_eq (by rw[HF1.out,HF2.out];simp),Ext.refl _⟩
set_option maxHeartbeats 400000 in
theorem worddiv_calls (w:World) (hi lo y:Nat) (hy:y<Bs) (hl:lo<Bs) (hh:hi<y) :
  Calls Tryz.prog 136 #[.int .u64 (hi:Int),.int .u64 (lo:Int),.int .u64 (y:Int)] w fun e w' =>
   e = .returned (.tuple #[.int .u64 ((hi*Bs+lo) / y:Nat),.int .u64 ((hi*Bs+lo) % y:Nat),.int .i64 0])∧Ext w w':=by
 have hc:=Hd (div64_calls w hi lo y hy hl hh)
 have hy0:((y:Int) == 0)=false:=by rw[beq_eq_false_iff_ne];omega
 clear hy hl
 go_enter Tryz.func136,Tryz.ntmps136
 go_wp2_with (go_at_call 148;refine (hc.out).mono ?_;rintro e w' ⟨rfl,hx⟩)
 go_ret3;exact⟨rfl,hx⟩
end Go.Proofs.YtfofjalebhajhaaGreatDoor
namespace Go.Proofs.YtfofjalebhajhaaGreatDoor
open Go Go.RowKit
theorem ownsRow_ext {B:Nat}{e:TypeId}{s:Nat}{w w':World}{v:Value}{n:Nat}{xs:List Value}(h:w.ownsRow B e s v n xs) (k:Ext w w'):w'.ownsRow B e s v n xs:=by
 refine⟨h.1,?_⟩
 rcases h.2 with h2 | ⟨g,cap,cur,rfl,hg,hh,rest⟩
 ·exact .inl h2
 ·exact .inr ⟨g,cap,cur,rfl,hg,by rw[k.block g (Array.getElem?_eq_some_iff.1 hh).1];exact hh,rest⟩
theorem MulMem.later {w:World}{g n:Nat}{O:List Nat}{wr w2:World}(h:MulMem w g n O wr) (k:Ext wr w2):MulMem w g n O w2 :=
 ⟨ownsRow_ext h.own k,h.ext.trans k⟩
theorem MulMem.limbs {w:World}{g n:Nat}{O:List Nat}{wr:World}(h:MulMem w g n O wr) (hl:O.length=n) (hlt:∀ x∈O,x<Bs):Limbs wr (.slice (some ⟨g,0,none⟩) n n) O:=by
 subst hl;exact⟨Own.sl (B:=g) (e := 53) (.inl h.own),hlt⟩
set_option maxHeartbeats 1000000 in
theorem short_calls {w:World}{v:Value}{A:List Nat}(hA:Limbs w v A) (hln:A.length≤Lmax) (d:Nat) (hd:d<Bs) (hd0:0<d) :
  Calls Tryz.prog 110 #[v,.int .u64 (d:Int)] w fun e w' =>
   ∃ (q:Value) (r:Nat),e = .returned (.tuple #[q,.int .u64 (r:Int)])∧Hid (r=val A % d)∧OwnL w.heap.size w' q (dig (val A / d))∧Ext w w':=by
 have hoA:=hA.open;obtain⟨a,cap,rfl,h1,h2,h3⟩:=hoA;have kn:=lmax_le hln;have HN:=Hd hln;have H3:=Hd h3;unfold maxLen at h2;clear hln h3
 go_enter Tryz.func110,Tryz.ntmps110
 go_wp2_with (at_make;refine make_limbs rfl _ _ 32 Tryz.underlying32 rfl A.length _ rfl rfl rfl HN.out ?_;intro w1 hown1 hg1;have O1:=Hd hown1;clear hown1)
 have hI0:MulMem w w.heap.size A.length (List.replicate A.length 0 ++ []) w1:=⟨by rw[List.append_nil];exact O1.out,(Ext.refl w).grown hg1 (by intro k hk;cases hk)⟩
 go_loopw [5,6] (fun v5 v6 wr => ∃ (n r:Nat) (D:List Nat),v6 = .int .i64 ((n:Int) - 1)∧v5 = .int .u64 (r:Int)∧ShortInv A d n r D∧MulMem w w.heap.size A.length (List.replicate n 0 ++ D) wr) (fun _ v6 _=>(intOf v6+1).toNat)
 case atStart=>exact⟨A.length,0,[],rfl,rfl,ShortInv.start A d,hI0⟩
 case round =>
  obtain⟨n,r,D,rfl,rfl,hS,hI⟩:=hrel
  by_cases hn:n=0
  ·subst hn
   have hT:Limbs wr (.slice (some ⟨w.heap.size,0,none⟩) A.length A.length) D:=by
    have:=hI.limbs (by simpa using hS.len) (zeros_lt hS.lt 0)
    simpa using this
   have hlen:Hid (D.length≤Lmax):=by show _≤Lmax;rw[show D.length=A.length by simpa using hS.len];exact HN.out
   have hv:Hid (val D=val A / d):=by show val D=_;rw[hS.val_eq];simp
   have hr':Hid (r=val A % d):=by show r=_;rw[hS.r_eq];simp
   go_wp2_with (go_at_call 89;refine (trim_calls hT hlen.out).mono ?_;rintro e w' ⟨q,rfl,hq,hx'⟩)
   go_ret2;rw[hv.out]at hq;exact⟨q,r,rfl,hr',hq.mono hI.ext.size,hI.ext.trans hx'⟩
  ·obtain⟨m,rfl⟩:∃ m,n=m+1:=⟨n - 1,by omega⟩
   have hm:m<A.length:=by have:=hS.len;omega
   obtain⟨b,o,rfl,hb,hc⟩:=H3.out m hm
   have hcA:wr.cell? ⟨b,o+m,none⟩=some (.int .u64 (el A m:Nat)):=by rw[Below.cell hI.ext (p:=⟨b,o+m,none⟩) hb];exact hc m hm
   have hrd:=hS.r_lt hd0;have HS:=Hd hS;clear hc hS
   go_wp2_with (go_at_call 136;refine (worddiv_calls _ r (el A m) d hd (el_lt hA.2 m) hrd).mono ?_;rintro e w2 ⟨rfl,hx2⟩;have hI2:=hI.later hx2;have hcq:=hI2.cell hm (by have:=HS.out.len;simp;omega);have hfq:=hI2.froz m)
   exact⟨⟨m,_,_,rfl,rfl,HS.out.next hA.2 hd0,by rw[←zeros_set];exact hI2.set (Nat.le_refl _) _ _⟩,by simp [intOf]⟩
end Go.Proofs.YtfofjalebhajhaaGreatDoor
namespace Go.Proofs.YtfofjalebhajhaaGreatDoor
open Go Go.RowKit
def RetDiv (w:World) (q r:Nat) (e:Ending) (w':World):Prop :=
 ∃ v u,e = .returned (.tuple #[v,u,.int .i64 0])∧OwnL w.heap.size w' v (dig q)∧OwnL w.heap.size w' u (dig r)∧Ext w w'
set_option maxHeartbeats 1000000 in
theorem div1_calls {w:World}{v u:Value}{A B:List Nat}(hA:Limbs w v A) (hB:Limbs w u B) (hlA:A.length≤Lmax) (hlB:B.length≤Lmax) (hb0:0<val B) (hb1:val B<Bs) :
  Calls Tryz.prog 90 #[v,u] w (RetDiv w (val A / val B) (val A % val B)):=by
 have HLA:=Hd hlA;have HLB:=Hd hlB;have HDA:Hid ((dig (val A)).length≤Lmax):=Nat.le_trans (dig_val_len hA.2) hlA;have HDB:Hid ((dig (val B)).length≤Lmax):=Nat.le_trans (dig_val_len hB.2) hlB;have HB1:=Hd (dig_one hb1 hb0);clear hlA hlB
 go_enter Tryz.func90,Tryz.ntmps90
 go_wp2_with fail;refine (trim_calls hA HLA.out).mono ?_;rintro e w1 ⟨a1,rfl,ha1,hx1⟩;go_wp2_with fail;refine (trim_calls (hB.ext hx1) HLB.out).mono ?_;rintro e w2 ⟨b1,rfl,hb1',hx2⟩;have ha2:=ha1.ext hx2;have hx:=hx1.trans hx2;obtain⟨bb,bcap,rfl,k1,k2,k3⟩:=hb1'.limbs.open;rw[HB1.out]at k1 k3 hb1' ⊢;obtain⟨b,o,rfl,hbl,hcell⟩:=k3 0 (by simp);have hc0:=hcell 0 (by simp);rw[show el [val B] 0=val B from rfl,Nat.add_zero]at hc0;unfold maxLen at k2;clear hcell k3;have hcmp:=cmp_calls ha2.limbs hb1'.limbs HDA.out (by rw[←HB1.out];exact HDB.out);rw[val_dig,show val [val B]=val B by simp [val]]at hcmp;have HCM:=Hd hcmp;clear hcmp
 by_cases hlt:val A<val B
 ·have HQ:Hid (val A / val B=0):=Nat.div_eq_of_lt hlt;have HR:Hid (val A % val B=val A):=Nat.mod_eq_of_lt hlt;have hc1:=cmpN_lt hlt
  go_wp2_with (go_at_call 88;refine (HCM.out).mono ?_;rintro e w' ⟨rfl,rfl⟩;rw[hc1])
  go_ret3;exact⟨_,_,rfl,by rw[HQ.out,dig_zero];exact OwnL.nil _ _,by rw[HR.out];exact ha2,hx⟩
 ·have hc1:0≤cmpN (val A) (val B):=by unfold cmpN;rw[if_neg hlt];split <;> decide
  have HV:Hid (val (dig (val A))=val A):=val_dig _;have hml:=Nat.mod_lt (val A) hb0
  go_wp2_with (first
   | (go_at_call 88;refine (HCM.out).mono ?_;rintro e w' ⟨rfl,rfl⟩)
   | (go_at_call 110;refine (short_calls ha2.limbs HDA.out (val B) hb1 hb0).mono ?_;rintro e w3 ⟨q,r,rfl,HR,hq,hx3⟩;rw[HV.out]at hq HR)
   | (go_at_call 105;refine (of_calls (by rw[HR.out];exact Nat.lt_trans hml hb1)).mono ?_;rintro e w4 ⟨s,rfl,hr,hx4⟩;rw[HR.out]at hr))
  go_ret3;exact⟨_,_,rfl,(hq.ext hx4).mono hx.size,hr.mono (hx.trans hx3).size,(hx.trans hx3).trans hx4⟩
end Go.Proofs.YtfofjalebhajhaaGreatDoor
namespace Go.Proofs.YtfofjalebhajhaaGreatDoor
open Go Go.RowKit Go.Shelf
theorem bld_info:(Tryz.prog.info? 126).map (·.size)=some 2:=by kernel_rfl
theorem bld_lies:liesAt Tryz.prog Tryz.prog.depth 126 (2 / Tryz.prog.cellsOf 126) 0 126 1=true:=by kernel_rfl
theorem info_u8:(Tryz.prog.info? 5).map (fun i=>(i.zero,i.size,i.bytes))=some (some (.int .u8 0),1,1):=by kernel_rfl
set_option maxHeartbeats 1000000 in
set_option maxRecDepth 100000 in
theorem copyCheck_used (b:Nat) (w:World) (h0:w.cell? ⟨b,0,none⟩=some (.pointer (some ⟨b,0,none⟩))) :
  Calls Tryz.prog 118 #[.pointer (some ⟨b,0,none⟩)] w fun e w'=>e = .returned (.tuple #[])∧w'=w:=by
 obtain⟨j,hj,_⟩:=Option.map_eq_some_iff.1 bld_info
 go_enter Tryz.func118,Tryz.ntmps118
 go_wp2_with fail;rw[Lib.run_neq_ptr_same w _ Tryz.underlying123 hj];go_wp2_with fail
 go_end0
 exact⟨rfl,rfl⟩
set_option maxHeartbeats 1000000 in
set_option maxRecDepth 100000 in
theorem copyCheck_fresh (b:Nat) (w:World) (h0:w.cell? ⟨b,0,none⟩=some (.pointer none)) (hsh:w.shape? b=some (126,2)) (hfz:w.frozen? ⟨b,0,none⟩=false) :
  Calls Tryz.prog 118 #[.pointer (some ⟨b,0,none⟩)] w fun e w'=>e = .returned (.tuple #[])∧w'=w.setCell ⟨b,0,none⟩ (.pointer (some ⟨b,0,none⟩)):=by
 obtain⟨j,hj,hjs⟩:=Option.map_eq_some_iff.1 bld_info
 go_enter Tryz.func118,Tryz.ntmps118
 go_wp2_with fail;rw[Lib.run_to_unsafe w ⟨b,0,none⟩ Tryz.underlying123 Tryz.underlying174 hj (by rw[hjs];decide) hsh (Nat.zero_lt_succ 1)];simp only[Result.andThen];rw[Oper.upon_value];go_wp2_with fail;rw[run_callFunc_extern Tryz.func140 (by kernel_rfl) (by kernel_rfl) (by kernel_rfl) (e:=Extern.AbiNoEscape.same) (by kernel_rfl)];rw[Lib.run_noEscape];simp only[Result.andThen];rw[Oper.upon_value];go_wp2_with fail;rw[Lib.run_from_unsafe w ⟨b,0,none⟩ Tryz.underlying174 Tryz.underlying123 hj hsh bld_lies];simp only[Result.andThen];rw[Oper.upon_value];go_wp2_with fail
 go_end0
 exact⟨rfl,rfl⟩
theorem copyCheck_calls (B b:Nat) (bs:List Value) (w:World) (h:Lib.IsBuilder 126 5 B b bs w) :
  Calls Tryz.prog 118 #[.pointer (some ⟨b,0,none⟩)] w fun e w'=>e = .returned (.tuple #[])∧(Lib.BuilderAt 126 5 B b (.pointer (some ⟨b,0,none⟩)) bs w'∧Below B w w'):=by
 rcases h with h | h
 ·refine (copyCheck_fresh b w h.cell0 h.shape h.frozen0).mono ?_;rintro e w' ⟨rfl,rfl⟩;exact⟨rfl,h.used _,(Below.refl B w).setCell (p:=⟨b,0,none⟩) h.1 _⟩
 ·refine (copyCheck_used b w h.cell0).mono ?_;rintro e w' ⟨rfl,rfl⟩;exact⟨rfl,h,Below.refl B _⟩
set_option maxHeartbeats 1000000 in
set_option maxRecDepth 100000 in
theorem writeString_calls (B b:Nat) (bs:List Value) (s:ByteArray) (w:World) (h:Lib.IsBuilder 126 5 B b bs w) (hlen:bs.length+s.size≤140737488355328) (hBw:B≤w.heap.size) :
  Calls Tryz.prog 93 #[.pointer (some ⟨b,0,none⟩),.string s] w fun e w'=>e = .returned (.tuple #[.int .i64 s.size,.nilIface])∧(Lib.BuilderAt 126 5 B b (.pointer (some ⟨b,0,none⟩)) (bs ++ Lib.strCells s) w'∧Below B w w'):=by
 obtain⟨i0,hi,hz0,hz1,hz2⟩:=info_parts info_u8;have HLen:=Hd hlen;clear hlen
 go_enter Tryz.func93,Tryz.ntmps93
 go_wp2_with (go_at_call 118;refine (copyCheck_calls B b bs _ h).mono ?_)
 rintro e w1 ⟨rfl,h1,hb1⟩;obtain⟨hB,v,hbk,hown,hne⟩:=h1
 have c0:w1.cell? ⟨b,0,none⟩=some (.pointer (some ⟨b,0,none⟩)):=by rw[Lib.cell_of_heap hbk];rfl
 have c1:w1.cell? ⟨b,1,none⟩=some v:=by rw[Lib.cell_of_heap hbk];rfl
 go_wp2_with (at_builtin;refine Lib.wpList_append_own_string _ rfl _ _ 124 9 rfl B 5 i0 Tryz.underlying124 Tryz.underlying9 hi hz0 hz1 hz2 _ _ _ rfl hown s rfl ?c3 ?c4 ?c5 ?_)
 case c3=>have:=HLen.out;unfold maxLen;omega
 case c4=>have:=HLen.out;omega
 case c5=>have:=hb1.size;omega
 intro v' w2 hown' hgrow _
 have hlt:b<w1.heap.size:=by
  rcases Nat.lt_or_ge b w1.heap.size with h' | h'
  ·exact h'
  ·simp [Array.getElem?_eq_none h']at hbk
 have hb2:w2.heap[b]? = some (.cells #[.pointer (some ⟨b,0,none⟩),v] 126 (0,0)):=by
  rw[hgrow.block b hlt (fun e=>hne e.symm)];exact hbk
 have d0:w2.cell? ⟨b,0,none⟩=some (.pointer (some ⟨b,0,none⟩)):=by rw[Lib.cell_of_heap hb2];rfl
 have d1:w2.cell? ⟨b,1,none⟩=some v:=by rw[Lib.cell_of_heap hb2];rfl
 have f1:w2.frozen? ⟨b,1,none⟩=false:=Lib.frozen_of_heap hb2 1
 obtain⟨ao,n',cap,rfl⟩:∃ ao n' cap,v' = .slice ao n' cap:=by
  rcases hown'.2 with⟨hv,_⟩ | ⟨g,cap,cur,hv,_⟩
  ·exact⟨_,_,_,hv⟩
  ·exact⟨_,_,_,hv⟩
 go_wp2_with fail;go_ret2;refine⟨rfl,?_,?_⟩
 ·exact Lib.BuilderAt.put (T := 126) (e := 5) hB hb2 (bs':=bs ++ Lib.strCells s) (by simpa [Lib.strCells_length] using hown') (by decide)
 ·exact (hb1.grown hgrow (by have:=hb1.size;omega) (fun k hk=>(hown.lt k hk).1)).setCell (p:=⟨b,1,none⟩) hB _
theorem bldString_calls (B b:Nat) (l:List UInt8) (w:World) (h:Lib.IsBuilder 126 5 B b (Lib.byteCells l) w) (hBw:B≤w.heap.size) :
  Calls Tryz.prog 95 #[.pointer (some ⟨b,0,none⟩)] w fun e w'=>e = .returned (.string ⟨l.toArray⟩)∧Below B w w' :=
 Any.Builder_String_any Tryz.lays169 Tryz.Builder_Extra_169 B b l w h hBw
set_option maxHeartbeats 1000000 in
set_option maxRecDepth 100000 in
theorem trimLeft_one (s:ByteArray) (c:UInt8) (hc:c.toNat<128) (w:World) :
  Calls Tryz.prog 94 #[.string s,.string ⟨#[c]⟩] w fun e w'=>e = .returned (.string ⟨(Lib.trimLeftB s.data.toList c).toArray⟩)∧w=w':=by
 have hc':¬ (128:Int)≤(c.toNat:Int):=by omega
 have h:=Hd (Any.strings_trimLeftByte Tryz.lays231 s c w)
 go_enter Tryz.func94,Tryz.ntmps94
 go_wp2_with (go_at_call 119;refine (h.out).mono ?_;rintro e w' ⟨rfl,rfl⟩)
 ·have hl:s.data.toList = []:=by rw[←Lib.toList_data];assumption
  go_ret;refine⟨?_,rfl⟩
  show Ending.returned (Value.string s)=_
  have hs0:s=⟨#[]⟩:=by rw[←Lib.mk_data s,hl]
  rw[hl];simp [Lib.trimLeftB,hs0]
 ·exfalso
  have h1:¬ s.toList = []:=by assumption
  have h2:s.toList.isEmpty=true:=by assumption
  exact h1 (by simpa using h2)
 ·go_ret;exact⟨rfl,rfl⟩
 all_goals (
  exfalso
  have h1:(128:Int)≤(((⟨#[c]⟩:ByteArray)[0]'Nat.zero_lt_one).toNat:Int):=by assumption
  have h2:((⟨#[c]⟩:ByteArray)[0]'Nat.zero_lt_one)=c:=rfl;rw[h2]at h1
  omega)
end Go.Proofs.YtfofjalebhajhaaGreatDoor
namespace Go.Proofs.YtfofjalebhajhaaGreatDoor
theorem v16_ex:∃ f:List Nat→Nat,f []=0 ∧ ∀ x A,f (x :: A)=x+65536*f A :=
 ⟨fun l=>l.foldr (fun x n=>x+65536*n) 0,rfl,fun _ _=>rfl⟩
noncomputable def v16:List Nat→Nat:=Classical.choose v16_ex
def pre (x:Nat):Nat→List Nat
 | 0 => []
 | j+1=>pre x j ++ [x / 65536^j % 65536]
noncomputable def limbsTo (n:Nat):Nat→List Nat
 | 0 => []
 | t+1=>limbsTo n t ++ [n / Bs^t % Bs]
theorem limbsTo_length (n t:Nat):(limbsTo n t).length=t:=by
 induction t with
 | zero=>rfl
 | succ t ih=>simp [limbsTo,ih]
theorem limbsTo_lt (n t:Nat):∀ y∈limbsTo n t,y<Bs:=by
 induction t with
 | zero=>intro y hy;cases hy
 | succ t ih =>
  intro y hy
  rcases List.mem_append.1 hy with hy | hy
  ·exact ih y hy
  ·rw[List.mem_singleton.1 hy];exact Nat.mod_lt _ Bs_pos
theorem val_limbsTo (n t:Nat):val (limbsTo n t)=n % Bs^t:=by
 induction t with
 | zero=>simp [limbsTo,val,Nat.mod_one]
 | succ t ih =>
  rw[limbsTo,val_append,ih,limbsTo_length,Nat.pow_succ,Nat.mod_mul];simp [val]
end Go.Proofs.YtfofjalebhajhaaGreatDoor
namespace Go.Proofs.YtfofjalebhajhaaGreatDoor
open Go Go.RowKit
theorem ownsRow_ext' {B:Nat}{e:TypeId}{s:Nat}{w w':World}{v:Value}{n:Nat}{xs:List Value}(h:w.ownsRow B e s v n xs) (k:Ext w w'):w'.ownsRow B e s v n xs:=by
 refine⟨h.1,?_⟩
 rcases h.2 with h2 | ⟨g,cap,cur,rfl,hg,hh,rest⟩
 ·exact .inl h2
 ·exact .inr ⟨g,cap,cur,rfl,hg,by rw[k.block g (Array.getElem?_eq_some_iff.1 hh).1];exact hh,rest⟩
structure OutMem (w:World) (C:List Nat) (v:Value) (wr:World):Prop where
 own:wr.ownsRow w.heap.size 53 1 v C.length (C.map lv)
 ext:Ext w wr
theorem OutMem.nil (w:World):OutMem w [] (.slice none 0 0) w:=⟨World.ownsRow_nil ..,Ext.refl w⟩
theorem OutMem.ownL {w:World}{C:List Nat}{v:Value}{wr:World}(h:OutMem w C v wr) (hl:∀ x∈C,x<Bs):OwnL w.heap.size wr v C:=⟨.inl h.own,hl⟩
theorem OutMem.grow {w:World}{C:List Nat}{v:Value}{wr w1 w':World}(h:OutMem w C v wr) (k:Ext wr w1){v':Value}{x:Nat}(h1:w'.ownsRow w.heap.size 53 1 v' (C.length + [x].length) (C.map lv ++ [x].map lv)) (hg:w1.grownBy w' v.ownBlock) :
  OutMem w (C ++ [x]) v' w':=by
 refine⟨by rw[List.length_append,List.map_append];exact h1,(h.ext.trans k).grown hg (fun b hb=>(h.own.lt b hb).1)⟩
end Go.Proofs.YtfofjalebhajhaaGreatDoor
namespace Go.Proofs.YtfofjalebhajhaaGreatDoor
open Go Go.RowKit
end Go.Proofs.YtfofjalebhajhaaGreatDoor
namespace Go.Proofs.YtfofjalebhajhaaGreatDoor
open Go Go.RowKit
set_option maxHeartbeats 1000000 in
theorem same_calls {w:World}{v u:Value}{A B:List Nat}(hA:Limbs w v A) (hB:Limbs w u B) :
  Calls Tryz.prog 97 #[v,u] w fun e w'=>e = .returned (.bool (decide (A=B)))∧Ext w w':=by
 obtain⟨a,cap,rfl,h1,h2,h3⟩:=hA.open;obtain⟨b,cap',rfl,g1,g2,g3⟩:=hB.open;unfold maxLen at h2 g2;have H3:=Hd h3;have G3:=Hd g3;clear h3 g3
 by_cases hln:A.length=B.length
 ·have HLN:=Hd hln
  have hle:(A.length:Int)=(B.length:Int):=by omega
  go_enter Tryz.func97,Tryz.ntmps97
  go_wp2_with fail
  go_loopw [5] (fun v5 wr => ∃ i:Nat,v5 = .int .i64 (i:Int)∧i≤A.length∧A.take i=B.take i∧Ext w wr) (fun v5 _=>A.length - (intOf v5).toNat)
  case atStart=>exact⟨0,rfl,Nat.zero_le _,rfl,Ext.refl _⟩
  case round =>
   obtain⟨i,rfl,hi,he,hx⟩:=hrel;have HE:=Hd he;clear he
   by_cases hin:i<A.length
   ·obtain⟨ba,oa,rfl,hba,hca⟩:=H3.out i hin;obtain⟨bb,ob,rfl,hbb,hcb⟩:=G3.out i (by omega)
    have hcA:wr.cell? ⟨ba,oa+i,none⟩=some (.int .u64 (el A i:Nat)):=by rw[Below.cell hx (p:=⟨ba,oa+i,none⟩) hba];exact hca i hin
    have hcB:wr.cell? ⟨bb,ob+i,none⟩=some (.int .u64 (el B i:Nat)):=by rw[Below.cell hx (p:=⟨bb,ob+i,none⟩) hbb];exact hcb i (by omega)
    have hinB:i<B.length:=by omega
    clear hca hcb
    go_wp2_with (go_quiet (fail))
    ·rename_i hq
     have HD:Hid (decide (A=B)=false):=decide_eq_false (fun e=>by subst e;simp at hq);go_ret;exact⟨ret_eq (by rw[HD.out];rfl),hx.drewN _⟩
    ·rename_i hq
     have hq':el A i=el B i:=by simp at hq;omega
     refine⟨⟨i+1,rfl,by omega,?_,hx.drewN _⟩,by simp [intOf];omega⟩;rw[List.take_succ_eq_append_getElem hin,List.take_succ_eq_append_getElem hinB,HE.out];rw[el_of_lt hin,el_of_lt hinB]at hq';rw[hq']
   ·obtain rfl:i=A.length:=by omega
    have HD:Hid (decide (A=B)=true):=by
     have h:=HE.out;rw[List.take_length,HLN.out,List.take_length]at h;exact decide_eq_true h
    go_wp2_with fail;go_ret;exact⟨ret_eq (by rw[HD.out];rfl),hx⟩
 ·have HD:Hid (decide (A=B)=false):=decide_eq_false (fun e=>hln (by rw[e]))
  go_enter Tryz.func97,Tryz.ntmps97
  go_wp2_with fail;go_ret;exact⟨ret_eq (by rw[HD.out];rfl),Ext.refl _⟩
end Go.Proofs.YtfofjalebhajhaaGreatDoor
namespace Go.Proofs.YtfofjalebhajhaaGreatDoor
def dgs (n:Nat):List Nat:=if _h:n=0 then [] else dgs (n / 10) ++ [n % 10]
termination_by n
decreasing_by exact Nat.div_lt_self (by omega) (by omega)
theorem dgs_zero:dgs 0 = []:=by rw[dgs];simp
theorem dgs_pos {n:Nat}(h:n≠0):dgs n=dgs (n / 10) ++ [n % 10]:=by rw[dgs];simp [h]
theorem dgs_ne {n:Nat}(h:n≠0):dgs n ≠ []:=by rw[dgs_pos h];simp
def fixw:Nat→Nat→List Nat
 | 0,_ => []
 | k+1,n=>fixw k (n / 10) ++ [n % 10]
theorem fixw_length (k n:Nat):(fixw k n).length=k:=by
 induction k generalizing n with
 | zero=>rfl
 | succ k ih=>rw[fixw,List.length_append,ih];rfl
theorem fixw_add (k j n:Nat):fixw (k+j) n=fixw k (n / 10^j) ++ fixw j n:=by
 induction j generalizing n with
 | zero=>simp [fixw]
 | succ j ih=>rw[←Nat.add_assoc,fixw,ih,fixw,Nat.div_div_eq_div_mul,←List.append_assoc,Nat.pow_succ,Nat.mul_comm 10]
theorem fixw_mod (k n:Nat):fixw k (n % 10^k)=fixw k n:=by
 induction k generalizing n with
 | zero=>rfl
 | succ k ih =>
  rw[fixw,fixw,Nat.pow_succ]
  have h1:n % (10^k*10) / 10=n / 10 % 10^k:=by rw[Nat.mul_comm,Nat.mod_mul_right_div_self]
  have h2:n % (10^k*10) % 10=n % 10:=Nat.mod_mul_left_mod _ _ _;rw[h1,h2,ih]
theorem fixw_lt (k n:Nat):∀ d∈fixw k n,d<10:=by
 induction k generalizing n with
 | zero=>intro d hd;cases hd
 | succ k ih =>
  intro d hd
  rcases List.mem_append.1 hd with hd | hd
  ·exact ih _ d hd
  ·rw[List.mem_singleton.1 hd];omega
def dropZ:List Nat→List Nat
 | [] => []
 | d :: l=>if d=0 then dropZ l else d :: l
theorem dropZ_append (l:List Nat) (d:Nat):dropZ (l ++ [d])=if dropZ l = [] then (if d=0 then [] else [d]) else dropZ l ++ [d]:=by
 induction l with
 | nil=>simp [dropZ]
 | cons x l ih =>
  rw[List.cons_append,dropZ,dropZ]
  split
  ·exact ih
  ·simp
theorem dropZ_fixw {k n:Nat}(h:n<10^k):dropZ (fixw k n)=dgs n:=by
 induction k generalizing n with
 | zero =>
  have:n=0:=by simpa using h
  subst this;rw[dgs_zero];rfl
 | succ k ih =>
  rw[fixw,dropZ_append,ih (by rw[Nat.div_lt_iff_lt_mul (by omega),←Nat.pow_succ];exact h)]
  by_cases h0:n=0
  ·subst h0;simp [dgs_zero]
  ·rw[dgs_pos h0]
   by_cases h1:n / 10=0
   ·rw[h1,dgs_zero];simp;omega
   ·simp [dgs_ne h1]
def db (d:Nat):UInt8:=UInt8.ofNat (48+d)
theorem db_toNat {d:Nat}(h:d<10):(db d).toNat=48+d:=by simp [db];omega
theorem db_eq {d:Nat}(h:d<10):(db d=48)↔d=0:=by
 have:=db_toNat h
 constructor
 ·intro e;rw[e]at this;simp at this;omega
 ·intro e;subst e;rfl
def showL (n:Nat):List UInt8:=if n=0 then [48] else (dgs n).map db
theorem showL_zero:showL 0 = [48]:=rfl
theorem showL_pos {n:Nat}(h:n≠0):showL n=(dgs n).map db:=by simp [showL,h]
def dval (l:List Nat):Nat:=l.foldl (fun n d=>10*n+d) 0
theorem dval_append (l:List Nat) (d:Nat):dval (l ++ [d])=10*dval l+d:=by simp [dval,List.foldl_append]
def okd (b:UInt8):Bool:=decide (48≤b.toNat) && decide (b.toNat≤57)
def dv (b:UInt8):Nat:=b.toNat - 48
theorem dv_lt {b:UInt8}(h:okd b=true):dv b<10:=by unfold okd at h;unfold dv;simp at h;omega
theorem db_dv {b:UInt8}(h:okd b=true):db (dv b)=b:=by
 apply UInt8.toNat_inj.1
 rw[db_toNat (dv_lt h)];unfold okd at h;unfold dv;simp at h;omega
def errR (l:List UInt8):Nat :=
 if l = [] then 4 else if l.all okd=false then 3 else if l.head? = some 48∧1<l.length then 3 else if 20000<l.length then 5 else 0
def readN (l:List UInt8):Nat:=if errR l=0 then dval (l.map dv) else 0
theorem dval_foldl (l:List Nat) (a:Nat):l.foldl (fun n d=>10*n+d) a=a*10^l.length+dval l:=by
 induction l generalizing a with
 | nil=>simp [dval]
 | cons d l ih =>
  have e:dval (d :: l)=d*10^l.length+dval l:=by
   show l.foldl (fun n d=>10*n+d) (10*0+d)=_
   rw[ih];simp
  rw[List.foldl_cons,ih,e,List.length_cons,Nat.pow_succ,Nat.add_mul,Nat.mul_comm 10 a,Nat.mul_assoc a 10,Nat.mul_comm 10];omega
theorem dval_app (l r:List Nat):dval (l ++ r)=dval l*10^r.length+dval r:=by
 rw[dval,List.foldl_append,dval_foldl];rfl
theorem dval_lt {l:List Nat}(h:∀ d∈l,d<10):dval l<10^l.length:=by
 induction l with
 | nil=>simp [dval]
 | cons d l ih =>
  have h1:=ih fun y hy=>h y (List.mem_cons_of_mem _ hy)
  have h2:=h d (List.mem_cons_self ..);rw[show d :: l = [d] ++ l from rfl,dval_app,List.length_append,Nat.pow_add]
  have h3:dval [d]=d:=by simp [dval]
  rw[h3];have h4:(d+1)*10^l.length≤10 ^ [d].length*10^l.length:=Nat.mul_le_mul_right _ (by simp;omega);rw[Nat.add_mul]at h4;omega
def bn (l:List UInt8) (i:Nat):Nat:=(l[i]?.getD 0).toNat
end Go.Proofs.YtfofjalebhajhaaGreatDoor
