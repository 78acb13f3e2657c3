/- mass.less: which of two shares is ahead; insertion, plain. -/
import Derived.Test.YtfofjalebhajhaaGreatDoorShare1
namespace Go.Proofs.YtfofjalebhajhaaGreatDoor
open Go Go.RowKit
def cmpS (x y:Sh):Int:=cmpV x.2.1 y.2.1
def leS (x y:Sh):Prop:=cmpS x y≤0
theorem leS_trans {x y z:Sh}(h:leS x y) (k:leS y z):leS x z:=(cmpV_trans _ _ _ h k).1
theorem cmpS_swap (x y:Sh):cmpS y x = -cmpS x y:=cmpV_swap _ _
def SortedS (R:List Sh):Prop:=R.Pairwise leS
set_option maxHeartbeats 1000000 in
set_option maxRecDepth 100000 in
theorem less_calls {w:World}{x y:Sh}(hx:ElO w x) (hy:ElO w y):Calls Tryz.prog 53 #[.agg x.1.toArray,.agg y.1.toArray] w fun e w'=>e = .returned (.int .i64 (cmpS x y))∧Ext w w':=by
 obtain⟨k,n,p,a,b,s,p1,n1,c1,p2,n2,c2,ex⟩:=hx.shape;obtain⟨k',n',p',a',b',s',p1',n1',c1',p2',n2',c2',ey⟩:=hy.shape;rw[ex]at hx;rw[ey]at hy;have HX:=Hd hx.val.1;have HY:=Hd hy.val.1;have HC:=Hd (vcmp_calls x.2.1);rw[show x.1 = [.int .u8 (k:Int),.int .i64 n,.slice p a b,.bool s,.slice p1 n1 c1,.slice p2 n2 c2] from congrArg (·.1) ex,show y.1 = [.int .u8 (k':Int),.int .i64 n',.slice p' a' b',.bool s',.slice p1' n1' c1',.slice p2' n2' c2'] from congrArg (·.1) ey]
 obtain⟨r,hr⟩:∃ r,cmpS x y=r:=⟨_,rfl⟩
 have HR:=Hd hr;rw[hr];clear hx hy ex ey hr
 go_enter Tryz.func53,Tryz.ntmps53
 go_wp2_with fail;have X1:Hid (Ext w ((w.alloc (.cells #[.int .u8 (k:Int),.int .i64 n,.slice p a b,.bool s,.slice p1 n1 c1,.slice p2 n2 c2] 47)).alloc (.cells #[.int .u8 (k':Int),.int .i64 n',.slice p' a' b',.bool s',.slice p1' n1' c1',.slice p2' n2' c2'] 47))):=(eR.alloc _).alloc _;refine (HC.out _ _ y.2.1 _ (HX.out.ext X1.out) (HY.out.ext X1.out)).mono ?_;rintro e w1 ⟨rfl,x1⟩;rw[show cmpV x.2.1 y.2.1=r from HR.out];have X2:=Hd (X1.out.trans x1);clear x1;go_wp2_with fail;go_ret;exact⟨rfl,X2.out⟩
structure Ins (a b:Nat) (R R':List Sh):Prop where
 len:R'.length=R.length
 ex:∃ P S S' T,R=P ++ S ++ T∧R'=P ++ S' ++ T∧P.length=a∧S.length=b - a∧S'.Perm S∧SortedS S'∧(SortedS S→S'=S)
structure InsIn (P A B T S0:List Sh) (x:Sh):Prop where
 sorted:SortedS (A ++ B)
 lt:∀ y∈B,cmpS x y<0
 perm:(A ++ x :: B).Perm S0
 same:SortedS S0→B = []∧S0=A ++ [x]
theorem InsIn.step {P A B T S0:List Sh}{x y:Sh}(h:InsIn P (A ++ [y]) B T S0 x) (hc:cmpS x y<0):InsIn P A (y :: B) T S0 x:=by
 refine⟨by simpa using h.sorted,fun z hz=>?_,?_,fun hs=>?_⟩
 ·rcases List.mem_cons.1 hz with rfl | hz
  ·exact hc
  ·exact h.lt z hz
 ·refine List.Perm.trans ?_ h.perm;rw[List.append_assoc];exact List.Perm.append_left A (List.Perm.swap y x B)
 ·obtain⟨e1,e2⟩:=h.same hs;rw[e2]at hs;have:=(List.pairwise_append.1 hs).2.2 y (by simp) x (by simp);have h2:=cmpS_swap x y;have h3:cmpS y x≤0:=this;omega
theorem InsIn.done {P A B T S0:List Sh}{x:Sh}(h:InsIn P A B T S0 x) (hc:∀ A' y,A=A' ++ [y]→0≤cmpS x y):SortedS (A ++ x :: B):=by
 have hs:=List.pairwise_append.1 h.sorted;refine List.pairwise_append.2 ⟨hs.1,List.pairwise_cons.2 ⟨fun y hy=>Int.le_of_lt (h.lt y hy),hs.2.1⟩,fun y hy z hz=>?_⟩
 rcases List.mem_cons.1 hz with rfl | hz
 ·rcases List.eq_nil_or_concat A with rfl | ⟨A',y',rfl⟩
  ·cases hy
  ·have h1:leS y' z:=by have:=hc A' y' (by simp);have h2:=cmpS_swap z y';show cmpS y' z≤0;omega
   rw[List.concat_eq_append]at hy hs
   rcases List.mem_append.1 hy with hy | hy
   ·exact leS_trans ((List.pairwise_append.1 hs.1).2.2 y hy y' (by simp)) h1
   ·simp at hy;subst hy;exact h1
 ·exact hs.2.2 y hy z hz
theorem ins_swap (P A B T:List Sh) (x y:Sh){j:Nat}(hj:j=P.length+A.length):((P ++ (A ++ [y]) ++ x :: B ++ T).set (j+1) y).set j x=P ++ A ++ x :: (y :: B) ++ T:=by
 subst hj
 have e:P ++ (A ++ [y]) ++ x :: B ++ T=(P ++ A) ++ y :: x :: (B ++ T):=by simp
 rw[e,List.set_append_right _ _ (by simp),List.set_append_right _ _ (by simp)]
 simp
end Go.Proofs.YtfofjalebhajhaaGreatDoor
