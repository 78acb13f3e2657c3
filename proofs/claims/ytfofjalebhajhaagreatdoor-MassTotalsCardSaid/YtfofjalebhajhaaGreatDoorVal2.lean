/- val.Cmp tells how two values stand to each other. -/
import Derived.Test.YtfofjalebhajhaaGreatDoorVal1
namespace Go.Proofs.YtfofjalebhajhaaGreatDoor
open Go Go.RowKit
theorem IsV.len {w:World}{k:Nat}{n:Int}{l:List VT}{v:Value}(h:IsV w v (.mk k n l)):(l.length:Int)≤9223372036854775807:=by
 cases h with
 | mk k n l p c xs hk hn hs hl =>
  obtain⟨-,a,cap,e0,h1,h2,-⟩:=hs;unfold maxLen at h2;omega
set_option maxHeartbeats 2000000 in
set_option maxRecDepth 100000 in
theorem vcmp_kind (k k':Nat) (n n':Int) (l l':List VT) (p p':Option Addr) (c c':Nat) (w:World) (h:IsV w (.agg #[.int .u8 (k:Int),.int .i64 n,.slice p l.length c]) (.mk k n l)) (h':IsV w (.agg #[.int .u8 (k':Int),.int .i64 n',.slice p' l'.length c']) (.mk k' n' l')) (hk:k≠k') :
  Calls Tryz.prog 10 #[.agg #[.int .u8 (k:Int),.int .i64 n,.slice p l.length c],.agg #[.int .u8 (k':Int),.int .i64 n',.slice p' l'.length c']] w fun e w'=>e = .returned (.int .i64 (cmpV (.mk k n l) (.mk k' n' l')))∧Ext w w':=by
 have HV:Hid (cmpV (.mk k n l) (.mk k' n' l')=cmpI k k'):=by show _=_;rw[cmpV,if_pos hk]
 have hk1:((k:Int) != (k':Int))=true:=by rw[bne_iff_ne];omega
 clear hk h h'
 go_enter Tryz.func10,Tryz.ntmps10
 go_wp2_with fail
 obtain⟨v1,hv1⟩:∃ W,W=((w.alloc (.cells #[.int .u8 (k:Int),.int .i64 n,.slice p l.length c] 29)).alloc (.cells #[.int .u8 (k':Int),.int .i64 n',.slice p' l'.length c'] 29)):=⟨_,rfl⟩
 have y1:Ext w v1:=by rw[hv1];exact ((eR.alloc _).alloc _)
 have b0_0:Hid (At (w.heap.size) 0 (.int .u8 (k:Int)) v1):=by rw[hv1];exact At.ext (At.n0 (by rfl)) (eR.alloc _)
 have b0_1:Hid (At (w.heap.size) 1 (.int .i64 n) v1):=by rw[hv1];exact At.ext (At.n0 (by rfl)) (eR.alloc _)
 have b0_2:Hid (At (w.heap.size) 2 (.slice p l.length c) v1):=by rw[hv1];exact At.ext (At.n0 (by rfl)) (eR.alloc _)
 have k0:Hid (Bx 3 (w.heap.size) v1):=by rw[hv1];exact Bx.gr (Bx.n0 3 ⟨rfl,by decide⟩ (by decide) (by intro u hu;simp only[List.mem_cons,List.not_mem_nil,or_false]at hu;rcases hu with rfl | rfl | rfl <;> trivial)) (Ext.gr (eR.alloc _))
 have u0:Hid (w.heap.size<v1.heap.size):=b0_0.out.2
 have b1_0:Hid (At (w.heap.size+1) 0 (.int .u8 (k':Int)) v1):=by rw[hv1];exact At.ext (At.n1 (by rfl)) eR
 have b1_1:Hid (At (w.heap.size+1) 1 (.int .i64 n') v1):=by rw[hv1];exact At.ext (At.n1 (by rfl)) eR
 have b1_2:Hid (At (w.heap.size+1) 2 (.slice p' l'.length c') v1):=by rw[hv1];exact At.ext (At.n1 (by rfl)) eR
 have k1:Hid (Bx 3 (w.heap.size+1) v1):=by rw[hv1];exact Bx.gr (Bx.n1 3 ⟨rfl,by decide⟩ (by decide) (by intro u hu;simp only[List.mem_cons,List.not_mem_nil,or_false]at hu;rcases hu with rfl | rfl | rfl <;> trivial)) (Ext.gr eR)
 have u1:Hid (w.heap.size+1<v1.heap.size):=b1_0.out.2;have e1_:Ext w v1:=y1;rw[←hv1];clear hv1;refine (cmp8_calls _ k k').mono ?_;rintro e w2 ⟨rfl,x2⟩;have e2_:Ext w w2:=Ext.trans e1_ x2;go_wp2_with fail;go_ret;exact⟨ret_eq (int_eq (by rw[HV.out])),e2_⟩
set_option maxHeartbeats 2000000 in
set_option maxRecDepth 100000 in
theorem vcmp_leaf (k:Nat) (n n':Int) (l l':List VT) (p p':Option Addr) (c c':Nat) (w:World) (h:IsV w (.agg #[.int .u8 (k:Int),.int .i64 n,.slice p l.length c]) (.mk k n l)) (h':IsV w (.agg #[.int .u8 (k:Int),.int .i64 n',.slice p' l'.length c']) (.mk k n' l')) (hk:k=1∨k=2) :
  Calls Tryz.prog 10 #[.agg #[.int .u8 (k:Int),.int .i64 n,.slice p l.length c],.agg #[.int .u8 (k:Int),.int .i64 n',.slice p' l'.length c']] w fun e w'=>e = .returned (.int .i64 (cmpV (.mk k n l) (.mk k n' l')))∧Ext w w':=by
 have HV:Hid (cmpV (.mk k n l) (.mk k n' l')=cmpI n n'):=by show _=_;rw[cmpV,if_neg (by simp),if_pos hk]
 have HB:Hid (decide (k=1∨k=2)=true):=decide_eq_true hk;clear hk h h'
 go_enter Tryz.func10,Tryz.ntmps10
 go_wp2_with fail
 obtain⟨v1,hv1⟩:∃ W,W=((w.alloc (.cells #[.int .u8 (k:Int),.int .i64 n,.slice p l.length c] 29)).alloc (.cells #[.int .u8 (k:Int),.int .i64 n',.slice p' l'.length c'] 29)):=⟨_,rfl⟩
 have y1:Ext w v1:=by rw[hv1];exact ((eR.alloc _).alloc _)
 have b0_0:Hid (At (w.heap.size) 0 (.int .u8 (k:Int)) v1):=by rw[hv1];exact At.ext (At.n0 (by rfl)) (eR.alloc _)
 have b0_1:Hid (At (w.heap.size) 1 (.int .i64 n) v1):=by rw[hv1];exact At.ext (At.n0 (by rfl)) (eR.alloc _)
 have b0_2:Hid (At (w.heap.size) 2 (.slice p l.length c) v1):=by rw[hv1];exact At.ext (At.n0 (by rfl)) (eR.alloc _)
 have k0:Hid (Bx 3 (w.heap.size) v1):=by rw[hv1];exact Bx.gr (Bx.n0 3 ⟨rfl,by decide⟩ (by decide) (by intro u hu;simp only[List.mem_cons,List.not_mem_nil,or_false]at hu;rcases hu with rfl | rfl | rfl <;> trivial)) (Ext.gr (eR.alloc _))
 have u0:Hid (w.heap.size<v1.heap.size):=b0_0.out.2
 have b1_0:Hid (At (w.heap.size+1) 0 (.int .u8 (k:Int)) v1):=by rw[hv1];exact At.ext (At.n1 (by rfl)) eR
 have b1_1:Hid (At (w.heap.size+1) 1 (.int .i64 n') v1):=by rw[hv1];exact At.ext (At.n1 (by rfl)) eR
 have b1_2:Hid (At (w.heap.size+1) 2 (.slice p' l'.length c') v1):=by rw[hv1];exact At.ext (At.n1 (by rfl)) eR
 have k1:Hid (Bx 3 (w.heap.size+1) v1):=by rw[hv1];exact Bx.gr (Bx.n1 3 ⟨rfl,by decide⟩ (by decide) (by intro u hu;simp only[List.mem_cons,List.not_mem_nil,or_false]at hu;rcases hu with rfl | rfl | rfl <;> trivial)) (Ext.gr eR)
 have u1:Hid (w.heap.size+1<v1.heap.size):=b1_0.out.2;have e1_:Ext w v1:=y1;rw[←hv1];clear hv1;refine (leaf_calls _ k true HB.out).mono ?_;rintro e w2 ⟨rfl,x2⟩;have e2_:Ext w w2:=Ext.trans e1_ x2;have g0_1:=(b0_1.out.ext x2).1;have g1_1:=(b1_1.out.ext x2).1;have f0:w.heap.size<w2.heap.size:=(b0_0.out.ext x2).2;have f1:w.heap.size+1<w2.heap.size:=(b1_0.out.ext x2).2;go_wp2_with fail;refine (cmpi64_calls _ n n').mono ?_;rintro e w3 ⟨rfl,x3⟩;have e3_:Ext w w3:=Ext.trans e2_ x3;clear g0_1 g1_1 f0 f1;go_wp2_with fail;go_ret;exact⟨ret_eq (int_eq (by rw[HV.out])),e3_⟩
set_option maxHeartbeats 2000000 in
set_option maxRecDepth 100000 in
theorem vcmp_none (k:Nat) (n n':Int) (l l':List VT) (p p':Option Addr) (c c':Nat) (w:World) (h:IsV w (.agg #[.int .u8 (k:Int),.int .i64 n,.slice p l.length c]) (.mk k n l)) (h':IsV w (.agg #[.int .u8 (k:Int),.int .i64 n',.slice p' l'.length c']) (.mk k n' l')) (hk:¬ (k=1∨k=2)) (hk2:k≠3∧k≠4) :
  Calls Tryz.prog 10 #[.agg #[.int .u8 (k:Int),.int .i64 n,.slice p l.length c],.agg #[.int .u8 (k:Int),.int .i64 n',.slice p' l'.length c']] w fun e w'=>e = .returned (.int .i64 (cmpV (.mk k n l) (.mk k n' l')))∧Ext w w':=by
 have HV:Hid (cmpV (.mk k n l) (.mk k n' l')=0):=by show _=_;rw[cmpV,if_neg (by simp),if_neg hk,if_pos hk2]
 have HB:Hid (decide (k=1∨k=2)=false):=decide_eq_false hk
 have k3:((k:Int) != 3)=true:=by rw[bne_iff_ne];omega
 have k4:((k:Int) != 4)=true:=by rw[bne_iff_ne];omega
 clear hk hk2 h h'
 go_enter Tryz.func10,Tryz.ntmps10
 go_wp2_with fail
 obtain⟨v1,hv1⟩:∃ W,W=((w.alloc (.cells #[.int .u8 (k:Int),.int .i64 n,.slice p l.length c] 29)).alloc (.cells #[.int .u8 (k:Int),.int .i64 n',.slice p' l'.length c'] 29)):=⟨_,rfl⟩
 have y1:Ext w v1:=by rw[hv1];exact ((eR.alloc _).alloc _)
 have b0_0:Hid (At (w.heap.size) 0 (.int .u8 (k:Int)) v1):=by rw[hv1];exact At.ext (At.n0 (by rfl)) (eR.alloc _)
 have b0_1:Hid (At (w.heap.size) 1 (.int .i64 n) v1):=by rw[hv1];exact At.ext (At.n0 (by rfl)) (eR.alloc _)
 have b0_2:Hid (At (w.heap.size) 2 (.slice p l.length c) v1):=by rw[hv1];exact At.ext (At.n0 (by rfl)) (eR.alloc _)
 have k0:Hid (Bx 3 (w.heap.size) v1):=by rw[hv1];exact Bx.gr (Bx.n0 3 ⟨rfl,by decide⟩ (by decide) (by intro u hu;simp only[List.mem_cons,List.not_mem_nil,or_false]at hu;rcases hu with rfl | rfl | rfl <;> trivial)) (Ext.gr (eR.alloc _))
 have u0:Hid (w.heap.size<v1.heap.size):=b0_0.out.2
 have b1_0:Hid (At (w.heap.size+1) 0 (.int .u8 (k:Int)) v1):=by rw[hv1];exact At.ext (At.n1 (by rfl)) eR
 have b1_1:Hid (At (w.heap.size+1) 1 (.int .i64 n') v1):=by rw[hv1];exact At.ext (At.n1 (by rfl)) eR
 have b1_2:Hid (At (w.heap.size+1) 2 (.slice p' l'.length c') v1):=by rw[hv1];exact At.ext (At.n1 (by rfl)) eR
 have k1:Hid (Bx 3 (w.heap.size+1) v1):=by rw[hv1];exact Bx.gr (Bx.n1 3 ⟨rfl,by decide⟩ (by decide) (by intro u hu;simp only[List.mem_cons,List.not_mem_nil,or_false]at hu;rcases hu with rfl | rfl | rfl <;> trivial)) (Ext.gr eR)
 have u1:Hid (w.heap.size+1<v1.heap.size):=b1_0.out.2;have e1_:Ext w v1:=y1;rw[←hv1];clear hv1;refine (leaf_calls _ k false HB.out).mono ?_;rintro e w2 ⟨rfl,x2⟩;have e2_:Ext w w2:=Ext.trans e1_ x2;have g0_0:=(b0_0.out.ext x2).1;have f0:w.heap.size<w2.heap.size:=(b0_0.out.ext x2).2;go_wp2_with fail;go_ret;exact⟨ret_eq (int_eq (by rw[HV.out])),e2_⟩
set_option maxHeartbeats 2000000 in
set_option maxRecDepth 100000 in
theorem vcmp_three  (n n':Int) (l l':List VT) (p p':Option Addr) (c c':Nat) (w:World) (h:IsV w (.agg #[.int .u8 3,.int .i64 n,.slice p l.length c]) (.mk 3 n l)) (h':IsV w (.agg #[.int .u8 3,.int .i64 n',.slice p' l'.length c']) (.mk 3 n' l')) (ih:∀ x∈l,∀ (w:World) (v:Value) (u:VT) (v':Value),IsV w v x→IsV w v' u→Calls Tryz.prog 10 #[v,v'] w fun e w'=>e = .returned (.int .i64 (cmpV x u))∧Ext w w') :
  Calls Tryz.prog 10 #[.agg #[.int .u8 3,.int .i64 n,.slice p l.length c],.agg #[.int .u8 3,.int .i64 n',.slice p' l'.length c']] w fun e w'=>e = .returned (.int .i64 (cmpV (.mk 3 n l) (.mk 3 n' l')))∧Ext w w':=by
 have HV:Hid (cmpV (.mk 3 n l) (.mk 3 n' l')=cmpVs l l'):=by show _=_;rw[cmpV,if_neg (by simp),if_neg (by decide),if_neg (by decide)]
 have IH:=Hd ih;have HW:=Hd h;have HW':=Hd h';have l1:=h.len;have l2:=h'.len
 obtain⟨m,hm⟩:∃ m,min l.length l'.length=m:=⟨_,rfl⟩
 have hm2:min (l.length:Int) (l'.length:Int)=(m:Int):=by omega
 have M1:Hid (m≤l.length):=by show _≤_;omega
 have M2:Hid (m≤l'.length):=by show _≤_;omega
 have HM:=Hd hm;clear hm ih h h'
 go_enter Tryz.func10,Tryz.ntmps10
 go_wp2_with fail
 obtain⟨v1,hv1⟩:∃ W,W=((w.alloc (.cells #[.int .u8 3,.int .i64 n,.slice p l.length c] 29)).alloc (.cells #[.int .u8 3,.int .i64 n',.slice p' l'.length c'] 29)):=⟨_,rfl⟩
 have y1:Ext w v1:=by rw[hv1];exact ((eR.alloc _).alloc _)
 have b0_0:Hid (At (w.heap.size) 0 (.int .u8 3) v1):=by rw[hv1];exact At.ext (At.n0 (by rfl)) (eR.alloc _)
 have b0_1:Hid (At (w.heap.size) 1 (.int .i64 n) v1):=by rw[hv1];exact At.ext (At.n0 (by rfl)) (eR.alloc _)
 have b0_2:Hid (At (w.heap.size) 2 (.slice p l.length c) v1):=by rw[hv1];exact At.ext (At.n0 (by rfl)) (eR.alloc _)
 have k0:Hid (Bx 3 (w.heap.size) v1):=by rw[hv1];exact Bx.gr (Bx.n0 3 ⟨rfl,by decide⟩ (by decide) (by intro u hu;simp only[List.mem_cons,List.not_mem_nil,or_false]at hu;rcases hu with rfl | rfl | rfl <;> trivial)) (Ext.gr (eR.alloc _))
 have u0:Hid (w.heap.size<v1.heap.size):=b0_0.out.2
 have b1_0:Hid (At (w.heap.size+1) 0 (.int .u8 3) v1):=by rw[hv1];exact At.ext (At.n1 (by rfl)) eR
 have b1_1:Hid (At (w.heap.size+1) 1 (.int .i64 n') v1):=by rw[hv1];exact At.ext (At.n1 (by rfl)) eR
 have b1_2:Hid (At (w.heap.size+1) 2 (.slice p' l'.length c') v1):=by rw[hv1];exact At.ext (At.n1 (by rfl)) eR
 have k1:Hid (Bx 3 (w.heap.size+1) v1):=by rw[hv1];exact Bx.gr (Bx.n1 3 ⟨rfl,by decide⟩ (by decide) (by intro u hu;simp only[List.mem_cons,List.not_mem_nil,or_false]at hu;rcases hu with rfl | rfl | rfl <;> trivial)) (Ext.gr eR)
 have u1:Hid (w.heap.size+1<v1.heap.size):=b1_0.out.2;have e1_:Ext w v1:=y1;rw[←hv1];clear hv1;refine (leaf_calls _ 3 false rfl).mono ?_;rintro e w2 ⟨rfl,x2⟩;have e2_:Ext w w2:=Ext.trans e1_ x2;have g0_0:=(b0_0.out.ext x2).1;have g0_2:=(b0_2.out.ext x2).1;have g1_2:=(b1_2.out.ext x2).1;have f0:w.heap.size<w2.heap.size:=(b0_0.out.ext x2).2;have f1:w.heap.size+1<w2.heap.size:=(b1_0.out.ext x2).2;go_wp2_with fail;have C2_0:=Hd (b0_0.out.ext x2);have C2_1:=Hd (b0_1.out.ext x2);have C2_2:=Hd (b0_2.out.ext x2);have C3_0:=Hd (b1_0.out.ext x2);have C3_1:=Hd (b1_1.out.ext x2);have C3_2:=Hd (b1_2.out.ext x2);have EW:Hid (Ext w w2):=e2_
 obtain⟨W4,rfl⟩:∃ W,W=w2:=⟨_,rfl⟩
 obtain⟨sb3,hsb3⟩:∃ s,w.heap.size+1=s:=⟨_,rfl⟩
 rw[hsb3]at C3_0 C3_1 C3_2
 (try rw[hsb3])
 obtain⟨sb2,hsb2⟩:∃ s,w.heap.size=s:=⟨_,rfl⟩
 rw[hsb2]at C2_0 C2_1 C2_2
 (try rw[hsb2])
 clear hsb2 hsb3;have H:=Hd (HW.out.ext EW.out);have H':=Hd (HW'.out.ext EW.out);clear HW HW'
 go_loopw [43] (fun v43 wr => ∃ ix:Nat,v43 = .int .i64 (ix:Int)∧ix≤m∧Ext W4 wr∧Hid (∀ j,j<ix → ∀ a b,l[j]? = some a→l'[j]? = some b→cmpV a b=0)) (fun v43 _=>m - (intOf v43).toNat)
 case atStart=>exact⟨0,rfl,Nat.zero_le _,Ext.refl _,fun j hj=>absurd hj (Nat.not_lt_zero _)⟩
 case round =>
  obtain⟨ix,rfl,hi,hx,HA⟩:=hrel;have XX:=Hd hx;clear hx
  by_cases him:ix<m
  ·have LT:=Hd him
   have LI:Hid (ix<l.length):=by show _<_;have:=M1.out;omega
   have LJ:Hid (ix<l'.length):=by show _<_;have:=M2.out;omega
   have t3:(ix:Int)+1≤(m:Int):=by omega
   have ti:(ix:Int)+1≤(l.length:Int):=by have:=LI.out;omega
   have tn:=LI.out;have tn':=LJ.out
   have tj:(ix:Int)+1≤(l'.length:Int):=by have:=LJ.out;omega
   clear hi him;obtain⟨b,o,q,d,rfl,hb,c0,c1,c2,hi⟩:=H.out.item rfl LI.out;obtain⟨b',o',q',d',rfl,hb',c0',c1',c2',hj⟩:=H'.out.item rfl LJ.out
   obtain⟨x,hx⟩:∃ x,l[ix]'LI.out=x:=⟨_,rfl⟩
   obtain⟨y,hy⟩:∃ y,l'[ix]'LJ.out=y:=⟨_,rfl⟩
   simp only[hx,hy]at c0 c1 c2 c0' c1' c2' hi hj;have HI:=Hd hi;have HJ:=Hd hj
   have D0:Hid (At b (o+ix*3) _ W4):=⟨c0,hb⟩
   have D1:Hid (At b (o+ix*3+1) _ W4):=⟨c1,hb⟩
   have D2:Hid (At b (o+ix*3+2) _ W4):=⟨c2,hb⟩
   have D0':Hid (At b' (o'+ix*3) _ W4):=⟨c0',hb'⟩
   have D1':Hid (At b' (o'+ix*3+1) _ W4):=⟨c1',hb'⟩
   have D2':Hid (At b' (o'+ix*3+2) _ W4):=⟨c2',hb'⟩
   have IX:Hid (∀ (w:World) (v:Value) (u:VT) (v':Value),IsV w v x→IsV w v' u→Calls Tryz.prog 10 #[v,v'] w fun e w'=>e = .returned (.int .i64 (cmpV x u))∧Ext w w'):=IH.out x (by rw[←hx];exact List.getElem_mem _)
   obtain⟨r,hr⟩:∃ r,cmpV x y=r:=⟨_,rfl⟩
   have HX:=Hd hx;have HY:=Hd hy;have HR:=Hd hr;clear c0 c1 c2 c0' c1' c2' hi hj hb hb' hx hy hr
   by_cases hr0:r=0
   ·have hr1:(r != 0)=false:=by rw[hr0];rfl
    have R0:=Hd hr0;clear hr0;have b102_0:=Hd (C2_0.out.ext XX.out);have b102_1:=Hd (C2_1.out.ext XX.out);have b102_2:=Hd (C2_2.out.ext XX.out);have u102:=Hd b102_0.out.2;have b103_0:=Hd (C3_0.out.ext XX.out);have b103_1:=Hd (C3_1.out.ext XX.out);have b103_2:=Hd (C3_2.out.ext XX.out);have u103:=Hd b103_0.out.2;go_wp2_with fail;have hkeep51:AllAt' ([(sb2,0,.int .u8 3),(sb2,1,.int .i64 n),(sb2,2,.slice (some ⟨b,o,none⟩) l.length c),(sb3,0,.int .u8 3),(sb3,1,.int .i64 n'),(sb3,2,.slice (some ⟨b',o',none⟩) l'.length c')]:List (Nat × Nat × Value)) wr:=AllAt'.cons b102_0.out (AllAt'.cons b102_1.out (AllAt'.cons b102_2.out (AllAt'.cons b103_0.out (AllAt'.cons b103_1.out (AllAt'.cons b103_2.out (AllAt'.nil _))))));have hob51:ObOk W4.heap.size wr (([(sb2,0,.int .u8 3),(sb2,1,.int .i64 n),(sb2,2,.slice (some ⟨b,o,none⟩) l.length c),(sb3,0,.int .u8 3),(sb3,1,.int .i64 n'),(sb3,2,.slice (some ⟨b',o',none⟩) l'.length c')]:List (Nat × Nat × Value)).map (·.1)) ([]:List (Nat × List (Nat × Value))):=trivial;have hne51:AllNe (([]:List (Nat × List (Nat × Value))).map (·.1)):=trivial
    (try simp only[List.append_eq,List.cons_append,List.nil_append])
    refine wp_region_gen ⟨[46,47,48,49,50,51,52,53,54,55,56,6],fun i=>false,fun i=>([none,none,none,none,none,none,none,none,none,none,none,none]:List (Option (BoxRef × Nat))).getD i none,fun i=>([Sg.val (.pointer (some ⟨sb2,2,none⟩)),Sg.val (.slice (some ⟨b,o,none⟩) l.length c),Sg.val (.int .i64 (ix:Int)),Sg.val (.pointer (some ⟨b,o+ix*3,none⟩)),Sg.val (.agg #[.int .u8 (x.k:Int),.int .i64 x.n,.slice q x.l.length d]),Sg.val (.pointer (some ⟨sb3,2,none⟩)),Sg.val (.slice (some ⟨b',o',none⟩) l'.length c'),Sg.val (.int .i64 (ix:Int)),Sg.val (.pointer (some ⟨b',o'+ix*3,none⟩)),Sg.val (.agg #[.int .u8 (y.k:Int),.int .i64 y.n,.slice q' y.l.length d']),Sg.val (.int .i64 r),Sg.val (.int .i64 r)]:List Sg).getD i Sg.any,[(sb2,0,.int .u8 3),(sb2,1,.int .i64 n),(sb2,2,.slice (some ⟨b,o,none⟩) l.length c),(sb3,0,.int .u8 3),(sb3,1,.int .i64 n'),(sb3,2,.slice (some ⟨b',o',none⟩) l'.length c')],[]⟩ W4.heap.size (by kernel_rfl) (by kernel_rfl) XX.out.size ?hfr hkeep51 hob51 hne51 ?hs ?he
    case hfr =>
     intro i v wk hi hst hv;exact absurd hi (by simp)
    case hs =>
     refine⟨?_,?_,?_,?_,?_,?_,?_,?_,?_,?_,?_,?_,trivial⟩
     ·refine RStep.op rfl rfl fun ac wk hp K hK=>?_;have t2_:ac.tmps[2]?.getD undef = .pointer (some ⟨sb2,0,none⟩):=hp.slot 2 rfl rfl;have HP:=Hd hp;clear hp;go_simp;refine hK.out _ _ ?_ eR (fun h=>absurd h (by simp));exact rfl
     ·refine RStep.op rfl rfl fun ac wk hp K hK=>?_;have u0e:=hp.g 0;have t46_:ac.tmps[46]?.getD undef = .pointer (some ⟨sb2,2,none⟩):=slot_is' u0e;have c0_:=hp.cell 2 rfl;have HP:=Hd hp;clear hp;go_simp;refine hK.out _ _ ?_ eR (fun h=>absurd h (by simp));exact rfl
     ·refine RStep.op rfl rfl fun ac wk hp K hK=>?_;have t5_:ac.tmps[5]?.getD undef = .int .i64 (ix:Int):=hp.slot 5 rfl rfl;have HP:=Hd hp;clear hp;go_simp;refine hK.out _ _ ?_ eR (fun h=>absurd h (by simp));exact rfl
     ·refine RStep.op rfl rfl fun ac wk hp K hK=>?_;have u1e:=hp.g 1;have t47_:ac.tmps[47]?.getD undef = .slice (some ⟨b,o,none⟩) l.length c:=slot_is' u1e;have u2e:=hp.g 2;have t48_:ac.tmps[48]?.getD undef = .int .i64 (ix:Int):=slot_is' u2e;have HP:=Hd hp;clear hp;go_simp;refine hK.out _ _ ?_ eR (fun h=>absurd h (by simp));exact (by first | rfl | (apply congrArg Value.bool;simp;done) | (apply congrArg Value.bool;simp;omega) | (simp [*];done))
     ·refine RStep.op rfl rfl fun ac wk hp K hK=>?_;have u3e:=hp.g 3;have t49_:ac.tmps[49]?.getD undef = .pointer (some ⟨b,o+ix*3,none⟩):=slot_is' u3e;have HP:=Hd hp;clear hp;have q0:=(D0.out.ext (Ext.below XX.out HP.out.blw)).1;have q1:=(D1.out.ext (Ext.below XX.out HP.out.blw)).1;have q2:=(D2.out.ext (Ext.below XX.out HP.out.blw)).1;go_simp;refine hK.out _ _ ?_ eR (fun h=>absurd h (by simp));exact (by first | rfl | (apply congrArg Value.bool;simp;done) | (apply congrArg Value.bool;simp;omega) | (simp [*];done))
     ·refine RStep.op rfl rfl fun ac wk hp K hK=>?_;have t3_:ac.tmps[3]?.getD undef = .pointer (some ⟨sb3,0,none⟩):=hp.slot 3 rfl rfl;have HP:=Hd hp;clear hp;go_simp;refine hK.out _ _ ?_ eR (fun h=>absurd h (by simp));exact rfl
     ·refine RStep.op rfl rfl fun ac wk hp K hK=>?_;have u5e:=hp.g 5;have t51_:ac.tmps[51]?.getD undef = .pointer (some ⟨sb3,2,none⟩):=slot_is' u5e;have c0_:=hp.cell 5 rfl;have HP:=Hd hp;clear hp;go_simp;refine hK.out _ _ ?_ eR (fun h=>absurd h (by simp));exact rfl
     ·refine RStep.op rfl rfl fun ac wk hp K hK=>?_;have t5_:ac.tmps[5]?.getD undef = .int .i64 (ix:Int):=hp.slot 5 rfl rfl;have HP:=Hd hp;clear hp;go_simp;refine hK.out _ _ ?_ eR (fun h=>absurd h (by simp));exact rfl
     ·refine RStep.op rfl rfl fun ac wk hp K hK=>?_;have u6e:=hp.g 6;have t52_:ac.tmps[52]?.getD undef = .slice (some ⟨b',o',none⟩) l'.length c':=slot_is' u6e;have u7e:=hp.g 7;have t53_:ac.tmps[53]?.getD undef = .int .i64 (ix:Int):=slot_is' u7e;have HP:=Hd hp;clear hp;go_simp;refine hK.out _ _ ?_ eR (fun h=>absurd h (by simp));exact (by first | rfl | (apply congrArg Value.bool;simp;done) | (apply congrArg Value.bool;simp;omega) | (simp [*];done))
     ·refine RStep.op rfl rfl fun ac wk hp K hK=>?_;have u8e:=hp.g 8;have t54_:ac.tmps[54]?.getD undef = .pointer (some ⟨b',o'+ix*3,none⟩):=slot_is' u8e;have HP:=Hd hp;clear hp;have q0:=(D0'.out.ext (Ext.below XX.out HP.out.blw)).1;have q1:=(D1'.out.ext (Ext.below XX.out HP.out.blw)).1;have q2:=(D2'.out.ext (Ext.below XX.out HP.out.blw)).1;go_simp;refine hK.out _ _ ?_ eR (fun h=>absurd h (by simp));exact (by first | rfl | (apply congrArg Value.bool;simp;done) | (apply congrArg Value.bool;simp;omega) | (simp [*];done))
     ·refine RStep.op rfl rfl fun ac wk hp K hK=>?_;have u4e:=hp.g 4;have t50_:ac.tmps[50]?.getD undef = .agg #[.int .u8 (x.k:Int),.int .i64 x.n,.slice q x.l.length d]:=slot_is' u4e;have u9e:=hp.g 9;have t55_:ac.tmps[55]?.getD undef = .agg #[.int .u8 (y.k:Int),.int .i64 y.n,.slice q' y.l.length d']:=slot_is' u9e;have HP:=Hd hp;clear hp;go_simp;refine (HR.out ▸ IX.out _ _ _ _ (HI.out.ext (Ext.below XX.out HP.out.blw)) (HJ.out.ext (Ext.below XX.out HP.out.blw))).mono ?_;rintro e wk' ⟨rfl,ix⟩;refine hK.out _ _ ?_ ix (fun h=>absurd h (by simp));exact rfl
     ·refine RStep.op rfl rfl fun ac wk hp K hK=>?_;have u10e:=hp.g 10;have t56_:ac.tmps[56]?.getD undef = .int .i64 r:=slot_is' u10e;have HP:=Hd hp;clear hp;go_simp;refine hK.out _ _ ?_ eR (fun h=>absurd h (by simp));exact rfl
    case he =>
     intro ac v1 hM;have y51_0e:=hM.post 0 rfl rfl;have y51_1e:=hM.post 1 rfl rfl;have y51_2e:=hM.post 2 rfl rfl;have y51_3e:=hM.post 3 rfl rfl;have y51_4e:=hM.post 4 rfl rfl;have y51_5e:=hM.post 5 rfl rfl;have y51_6e:=hM.post 6 rfl rfl;have y51_7e:=hM.post 7 rfl rfl;have y51_8e:=hM.post 8 rfl rfl;have y51_9e:=hM.post 9 rfl rfl;have y51_10e:=hM.post 10 rfl rfl;have y51_11e:=hM.post 11 rfl rfl;have b102_0:Hid (At (sb2) 0 (.int .u8 3) v1):=Hd (hM.keep.at 0 rfl);have b102_1:Hid (At (sb2) 1 (.int .i64 n) v1):=Hd (hM.keep.at 1 rfl);have b102_2:Hid (At (sb2) 2 (.slice (some ⟨b,o,none⟩) l.length c) v1):=Hd (hM.keep.at 2 rfl);have b103_0:Hid (At (sb3) 0 (.int .u8 3) v1):=Hd (hM.keep.at 3 rfl);have b103_1:Hid (At (sb3) 1 (.int .i64 n') v1):=Hd (hM.keep.at 4 rfl);have b103_2:Hid (At (sb3) 2 (.slice (some ⟨b',o',none⟩) l'.length c') v1):=Hd (hM.keep.at 5 rfl);have gv1:Gr wr v1:=hM.gr;have e1_:Ext W4 v1:=Ext.below XX.out hM.blw;have z0_:sl ac 46 = .pointer (some ⟨sb2,2,none⟩):=y51_0e;have z1_:sl ac 47 = .slice (some ⟨b,o,none⟩) l.length c:=y51_1e;have z2_:sl ac 48 = .int .i64 (ix:Int):=y51_2e;have z3_:sl ac 49 = .pointer (some ⟨b,o+ix*3,none⟩):=y51_3e;have z4_:sl ac 50 = .agg #[.int .u8 (x.k:Int),.int .i64 x.n,.slice q x.l.length d]:=y51_4e;have z5_:sl ac 51 = .pointer (some ⟨sb3,2,none⟩):=y51_5e;have z6_:sl ac 52 = .slice (some ⟨b',o',none⟩) l'.length c':=y51_6e;have z7_:sl ac 53 = .int .i64 (ix:Int):=y51_7e;have z8_:sl ac 54 = .pointer (some ⟨b',o'+ix*3,none⟩):=y51_8e;have z9_:sl ac 55 = .agg #[.int .u8 (y.k:Int),.int .i64 y.n,.slice q' y.l.length d']:=y51_9e
     have z10_:sl ac 56 = .int .i64 r:=y51_10e;have z11_:sl ac 6 = .int .i64 r:=y51_11e;rw[hM.ag.lay];simp only[lay,List.foldl_cons,List.foldl_nil,List.setIfInBounds_toArray,List.set_cons_zero,List.set_cons_succ,z0_,z1_,z2_,z3_,z4_,z5_,z6_,z7_,z8_,z9_,z10_,z11_];clear hM hkeep51 hob51 hne51 z0_ z1_ z2_ z3_ z4_ z5_ z6_ z7_ z8_ z9_ z10_ z11_ y51_0e y51_1e y51_2e y51_3e y51_4e y51_5e y51_6e y51_7e y51_8e y51_9e y51_10e y51_11e;go_wp2_with fail;refine⟨⟨ix+1,by first | rfl | go_num,LT.out,e1_,?_⟩,by simp [intOf];have:=LT.out;omega⟩;intro j hj a b ha hb
     by_cases e:j<ix
     ·exact HA.out j e a b ha hb
     ·obtain rfl:j=ix:=by omega
      rw[List.getElem?_eq_getElem LI.out,HX.out]at ha;rw[List.getElem?_eq_getElem LJ.out,HY.out]at hb
      injection ha with ha
      injection hb with hb
      subst ha hb;exact HR.out.trans R0.out
   ·have hr1:(r != 0)=true:=by rw[bne_iff_ne];exact hr0
    have R0:=Hd hr0;clear hr0;have b102_0:=Hd (C2_0.out.ext XX.out);have b102_1:=Hd (C2_1.out.ext XX.out);have b102_2:=Hd (C2_2.out.ext XX.out);have u102:=Hd b102_0.out.2;have b103_0:=Hd (C3_0.out.ext XX.out);have b103_1:=Hd (C3_1.out.ext XX.out);have b103_2:=Hd (C3_2.out.ext XX.out);have u103:=Hd b103_0.out.2;go_wp2_with fail;have hkeep51:AllAt' ([(sb2,0,.int .u8 3),(sb2,1,.int .i64 n),(sb2,2,.slice (some ⟨b,o,none⟩) l.length c),(sb3,0,.int .u8 3),(sb3,1,.int .i64 n'),(sb3,2,.slice (some ⟨b',o',none⟩) l'.length c')]:List (Nat × Nat × Value)) wr:=AllAt'.cons b102_0.out (AllAt'.cons b102_1.out (AllAt'.cons b102_2.out (AllAt'.cons b103_0.out (AllAt'.cons b103_1.out (AllAt'.cons b103_2.out (AllAt'.nil _))))));have hob51:ObOk W4.heap.size wr (([(sb2,0,.int .u8 3),(sb2,1,.int .i64 n),(sb2,2,.slice (some ⟨b,o,none⟩) l.length c),(sb3,0,.int .u8 3),(sb3,1,.int .i64 n'),(sb3,2,.slice (some ⟨b',o',none⟩) l'.length c')]:List (Nat × Nat × Value)).map (·.1)) ([]:List (Nat × List (Nat × Value))):=trivial;have hne51:AllNe (([]:List (Nat × List (Nat × Value))).map (·.1)):=trivial
    (try simp only[List.append_eq,List.cons_append,List.nil_append])
    refine wp_region_gen ⟨[46,47,48,49,50,51,52,53,54,55,56,6],fun i=>false,fun i=>([none,none,none,none,none,none,none,none,none,none,none,none]:List (Option (BoxRef × Nat))).getD i none,fun i=>([Sg.val (.pointer (some ⟨sb2,2,none⟩)),Sg.val (.slice (some ⟨b,o,none⟩) l.length c),Sg.val (.int .i64 (ix:Int)),Sg.val (.pointer (some ⟨b,o+ix*3,none⟩)),Sg.val (.agg #[.int .u8 (x.k:Int),.int .i64 x.n,.slice q x.l.length d]),Sg.val (.pointer (some ⟨sb3,2,none⟩)),Sg.val (.slice (some ⟨b',o',none⟩) l'.length c'),Sg.val (.int .i64 (ix:Int)),Sg.val (.pointer (some ⟨b',o'+ix*3,none⟩)),Sg.val (.agg #[.int .u8 (y.k:Int),.int .i64 y.n,.slice q' y.l.length d']),Sg.val (.int .i64 r),Sg.val (.int .i64 r)]:List Sg).getD i Sg.any,[(sb2,0,.int .u8 3),(sb2,1,.int .i64 n),(sb2,2,.slice (some ⟨b,o,none⟩) l.length c),(sb3,0,.int .u8 3),(sb3,1,.int .i64 n'),(sb3,2,.slice (some ⟨b',o',none⟩) l'.length c')],[]⟩ W4.heap.size (by kernel_rfl) (by kernel_rfl) XX.out.size ?hfr hkeep51 hob51 hne51 ?hs ?he
    case hfr =>
     intro i v wk hi hst hv;exact absurd hi (by simp)
    case hs =>
     refine⟨?_,?_,?_,?_,?_,?_,?_,?_,?_,?_,?_,?_,trivial⟩
     ·refine RStep.op rfl rfl fun ac wk hp K hK=>?_;have t2_:ac.tmps[2]?.getD undef = .pointer (some ⟨sb2,0,none⟩):=hp.slot 2 rfl rfl;have HP:=Hd hp;clear hp;go_simp;refine hK.out _ _ ?_ eR (fun h=>absurd h (by simp));exact rfl
     ·refine RStep.op rfl rfl fun ac wk hp K hK=>?_;have u0e:=hp.g 0;have t46_:ac.tmps[46]?.getD undef = .pointer (some ⟨sb2,2,none⟩):=slot_is' u0e;have c0_:=hp.cell 2 rfl;have HP:=Hd hp;clear hp;go_simp;refine hK.out _ _ ?_ eR (fun h=>absurd h (by simp));exact rfl
     ·refine RStep.op rfl rfl fun ac wk hp K hK=>?_;have t5_:ac.tmps[5]?.getD undef = .int .i64 (ix:Int):=hp.slot 5 rfl rfl;have HP:=Hd hp;clear hp;go_simp;refine hK.out _ _ ?_ eR (fun h=>absurd h (by simp));exact rfl
     ·refine RStep.op rfl rfl fun ac wk hp K hK=>?_;have u1e:=hp.g 1;have t47_:ac.tmps[47]?.getD undef = .slice (some ⟨b,o,none⟩) l.length c:=slot_is' u1e;have u2e:=hp.g 2;have t48_:ac.tmps[48]?.getD undef = .int .i64 (ix:Int):=slot_is' u2e;have HP:=Hd hp;clear hp;go_simp;refine hK.out _ _ ?_ eR (fun h=>absurd h (by simp));exact (by first | rfl | (apply congrArg Value.bool;simp;done) | (apply congrArg Value.bool;simp;omega) | (simp [*];done))
     ·refine RStep.op rfl rfl fun ac wk hp K hK=>?_;have u3e:=hp.g 3;have t49_:ac.tmps[49]?.getD undef = .pointer (some ⟨b,o+ix*3,none⟩):=slot_is' u3e;have HP:=Hd hp;clear hp;have q0:=(D0.out.ext (Ext.below XX.out HP.out.blw)).1;have q1:=(D1.out.ext (Ext.below XX.out HP.out.blw)).1;have q2:=(D2.out.ext (Ext.below XX.out HP.out.blw)).1;go_simp;refine hK.out _ _ ?_ eR (fun h=>absurd h (by simp));exact (by first | rfl | (apply congrArg Value.bool;simp;done) | (apply congrArg Value.bool;simp;omega) | (simp [*];done))
     ·refine RStep.op rfl rfl fun ac wk hp K hK=>?_;have t3_:ac.tmps[3]?.getD undef = .pointer (some ⟨sb3,0,none⟩):=hp.slot 3 rfl rfl;have HP:=Hd hp;clear hp;go_simp;refine hK.out _ _ ?_ eR (fun h=>absurd h (by simp));exact rfl
     ·refine RStep.op rfl rfl fun ac wk hp K hK=>?_;have u5e:=hp.g 5;have t51_:ac.tmps[51]?.getD undef = .pointer (some ⟨sb3,2,none⟩):=slot_is' u5e;have c0_:=hp.cell 5 rfl;have HP:=Hd hp;clear hp;go_simp;refine hK.out _ _ ?_ eR (fun h=>absurd h (by simp));exact rfl
     ·refine RStep.op rfl rfl fun ac wk hp K hK=>?_;have t5_:ac.tmps[5]?.getD undef = .int .i64 (ix:Int):=hp.slot 5 rfl rfl;have HP:=Hd hp;clear hp;go_simp;refine hK.out _ _ ?_ eR (fun h=>absurd h (by simp));exact rfl
     ·refine RStep.op rfl rfl fun ac wk hp K hK=>?_;have u6e:=hp.g 6;have t52_:ac.tmps[52]?.getD undef = .slice (some ⟨b',o',none⟩) l'.length c':=slot_is' u6e;have u7e:=hp.g 7;have t53_:ac.tmps[53]?.getD undef = .int .i64 (ix:Int):=slot_is' u7e;have HP:=Hd hp;clear hp;go_simp;refine hK.out _ _ ?_ eR (fun h=>absurd h (by simp));exact (by first | rfl | (apply congrArg Value.bool;simp;done) | (apply congrArg Value.bool;simp;omega) | (simp [*];done))
     ·refine RStep.op rfl rfl fun ac wk hp K hK=>?_;have u8e:=hp.g 8;have t54_:ac.tmps[54]?.getD undef = .pointer (some ⟨b',o'+ix*3,none⟩):=slot_is' u8e;have HP:=Hd hp;clear hp;have q0:=(D0'.out.ext (Ext.below XX.out HP.out.blw)).1;have q1:=(D1'.out.ext (Ext.below XX.out HP.out.blw)).1;have q2:=(D2'.out.ext (Ext.below XX.out HP.out.blw)).1;go_simp;refine hK.out _ _ ?_ eR (fun h=>absurd h (by simp));exact (by first | rfl | (apply congrArg Value.bool;simp;done) | (apply congrArg Value.bool;simp;omega) | (simp [*];done))
     ·refine RStep.op rfl rfl fun ac wk hp K hK=>?_;have u4e:=hp.g 4;have t50_:ac.tmps[50]?.getD undef = .agg #[.int .u8 (x.k:Int),.int .i64 x.n,.slice q x.l.length d]:=slot_is' u4e;have u9e:=hp.g 9;have t55_:ac.tmps[55]?.getD undef = .agg #[.int .u8 (y.k:Int),.int .i64 y.n,.slice q' y.l.length d']:=slot_is' u9e;have HP:=Hd hp;clear hp;go_simp;refine (HR.out ▸ IX.out _ _ _ _ (HI.out.ext (Ext.below XX.out HP.out.blw)) (HJ.out.ext (Ext.below XX.out HP.out.blw))).mono ?_;rintro e wk' ⟨rfl,ix⟩;refine hK.out _ _ ?_ ix (fun h=>absurd h (by simp));exact rfl
     ·refine RStep.op rfl rfl fun ac wk hp K hK=>?_;have u10e:=hp.g 10;have t56_:ac.tmps[56]?.getD undef = .int .i64 r:=slot_is' u10e;have HP:=Hd hp;clear hp;go_simp;refine hK.out _ _ ?_ eR (fun h=>absurd h (by simp));exact rfl
    case he =>
     intro ac v1 hM;have y51_0e:=hM.post 0 rfl rfl;have y51_1e:=hM.post 1 rfl rfl;have y51_2e:=hM.post 2 rfl rfl;have y51_3e:=hM.post 3 rfl rfl;have y51_4e:=hM.post 4 rfl rfl;have y51_5e:=hM.post 5 rfl rfl;have y51_6e:=hM.post 6 rfl rfl;have y51_7e:=hM.post 7 rfl rfl;have y51_8e:=hM.post 8 rfl rfl;have y51_9e:=hM.post 9 rfl rfl;have y51_10e:=hM.post 10 rfl rfl;have y51_11e:=hM.post 11 rfl rfl;have b102_0:Hid (At (sb2) 0 (.int .u8 3) v1):=Hd (hM.keep.at 0 rfl);have b102_1:Hid (At (sb2) 1 (.int .i64 n) v1):=Hd (hM.keep.at 1 rfl);have b102_2:Hid (At (sb2) 2 (.slice (some ⟨b,o,none⟩) l.length c) v1):=Hd (hM.keep.at 2 rfl);have b103_0:Hid (At (sb3) 0 (.int .u8 3) v1):=Hd (hM.keep.at 3 rfl);have b103_1:Hid (At (sb3) 1 (.int .i64 n') v1):=Hd (hM.keep.at 4 rfl);have b103_2:Hid (At (sb3) 2 (.slice (some ⟨b',o',none⟩) l'.length c') v1):=Hd (hM.keep.at 5 rfl);have gv1:Gr wr v1:=hM.gr;have e1_:Ext W4 v1:=Ext.below XX.out hM.blw;have z0_:sl ac 46 = .pointer (some ⟨sb2,2,none⟩):=y51_0e;have z1_:sl ac 47 = .slice (some ⟨b,o,none⟩) l.length c:=y51_1e;have z2_:sl ac 48 = .int .i64 (ix:Int):=y51_2e;have z3_:sl ac 49 = .pointer (some ⟨b,o+ix*3,none⟩):=y51_3e;have z4_:sl ac 50 = .agg #[.int .u8 (x.k:Int),.int .i64 x.n,.slice q x.l.length d]:=y51_4e;have z5_:sl ac 51 = .pointer (some ⟨sb3,2,none⟩):=y51_5e;have z6_:sl ac 52 = .slice (some ⟨b',o',none⟩) l'.length c':=y51_6e;have z7_:sl ac 53 = .int .i64 (ix:Int):=y51_7e;have z8_:sl ac 54 = .pointer (some ⟨b',o'+ix*3,none⟩):=y51_8e;have z9_:sl ac 55 = .agg #[.int .u8 (y.k:Int),.int .i64 y.n,.slice q' y.l.length d']:=y51_9e
     have z10_:sl ac 56 = .int .i64 r:=y51_10e;have z11_:sl ac 6 = .int .i64 r:=y51_11e;rw[hM.ag.lay];simp only[lay,List.foldl_cons,List.foldl_nil,List.setIfInBounds_toArray,List.set_cons_zero,List.set_cons_succ,z0_,z1_,z2_,z3_,z4_,z5_,z6_,z7_,z8_,z9_,z10_,z11_];clear hM hkeep51 hob51 hne51 z0_ z1_ z2_ z3_ z4_ z5_ z6_ z7_ z8_ z9_ z10_ z11_ y51_0e y51_1e y51_2e y51_3e y51_4e y51_5e y51_6e y51_7e y51_8e y51_9e y51_10e y51_11e;go_wp2_with fail;go_ret;exact⟨ret_eq (int_eq (by rw[HV.out,cmpVs_at LI.out LJ.out HA.out (by rw[HX.out,HY.out,HR.out];exact R0.out),HX.out,HY.out,HR.out])),EW.out.trans e1_⟩
  ·have t3:(m:Int)≤(ix:Int):=by omega
   have HE:Hid (cmpVs l l'=cmpI l.length l'.length):=cmpVs_end fun j hj=>HA.out j (by have:=HM.out;omega)
   clear hi him;have b102_0:=Hd (C2_0.out.ext XX.out);have b102_1:=Hd (C2_1.out.ext XX.out);have b102_2:=Hd (C2_2.out.ext XX.out);have u102:=Hd b102_0.out.2;have b103_0:=Hd (C3_0.out.ext XX.out);have b103_1:=Hd (C3_1.out.ext XX.out);have b103_2:=Hd (C3_2.out.ext XX.out);have u103:=Hd b103_0.out.2;have g102_2:=b102_2.out.1;have g103_2:=b103_2.out.1;have f102:sb2<wr.heap.size:=b102_0.out.2;have f103:sb3<wr.heap.size:=b103_0.out.2;go_wp2_with fail;refine (cmpint_calls _ l.length l'.length).mono ?_;rintro e w1 ⟨rfl,x1⟩;have e1_:Ext W4 w1:=Ext.trans XX.out x1;clear g102_2 g103_2 f102 f103;go_wp2_with fail;go_ret;exact⟨ret_eq (int_eq (by rw[HV.out,HE.out])),EW.out.trans e1_⟩
set_option maxHeartbeats 2000000 in
set_option maxRecDepth 100000 in
theorem vcmp_four  (n n':Int) (l l':List VT) (p p':Option Addr) (c c':Nat) (w:World) (h:IsV w (.agg #[.int .u8 4,.int .i64 n,.slice p l.length c]) (.mk 4 n l)) (h':IsV w (.agg #[.int .u8 4,.int .i64 n',.slice p' l'.length c']) (.mk 4 n' l')) (ih:∀ x∈l,∀ (w:World) (v:Value) (u:VT) (v':Value),IsV w v x→IsV w v' u→Calls Tryz.prog 10 #[v,v'] w fun e w'=>e = .returned (.int .i64 (cmpV x u))∧Ext w w') :
  Calls Tryz.prog 10 #[.agg #[.int .u8 4,.int .i64 n,.slice p l.length c],.agg #[.int .u8 4,.int .i64 n',.slice p' l'.length c']] w fun e w'=>e = .returned (.int .i64 (cmpV (.mk 4 n l) (.mk 4 n' l')))∧Ext w w':=by
 have HV:Hid (cmpV (.mk 4 n l) (.mk 4 n' l')=cmpVs l l'):=by show _=_;rw[cmpV,if_neg (by simp),if_neg (by decide),if_neg (by decide)]
 have IH:=Hd ih;have HW:=Hd h;have HW':=Hd h';have l1:=h.len;have l2:=h'.len
 obtain⟨m,hm⟩:∃ m,min l.length l'.length=m:=⟨_,rfl⟩
 have hm2:min (l.length:Int) (l'.length:Int)=(m:Int):=by omega
 have M1:Hid (m≤l.length):=by show _≤_;omega
 have M2:Hid (m≤l'.length):=by show _≤_;omega
 have HM:=Hd hm;clear hm ih h h'
 go_enter Tryz.func10,Tryz.ntmps10
 go_wp2_with fail
 obtain⟨v1,hv1⟩:∃ W,W=((w.alloc (.cells #[.int .u8 4,.int .i64 n,.slice p l.length c] 29)).alloc (.cells #[.int .u8 4,.int .i64 n',.slice p' l'.length c'] 29)):=⟨_,rfl⟩
 have y1:Ext w v1:=by rw[hv1];exact ((eR.alloc _).alloc _)
 have b0_0:Hid (At (w.heap.size) 0 (.int .u8 4) v1):=by rw[hv1];exact At.ext (At.n0 (by rfl)) (eR.alloc _)
 have b0_1:Hid (At (w.heap.size) 1 (.int .i64 n) v1):=by rw[hv1];exact At.ext (At.n0 (by rfl)) (eR.alloc _)
 have b0_2:Hid (At (w.heap.size) 2 (.slice p l.length c) v1):=by rw[hv1];exact At.ext (At.n0 (by rfl)) (eR.alloc _)
 have k0:Hid (Bx 3 (w.heap.size) v1):=by rw[hv1];exact Bx.gr (Bx.n0 3 ⟨rfl,by decide⟩ (by decide) (by intro u hu;simp only[List.mem_cons,List.not_mem_nil,or_false]at hu;rcases hu with rfl | rfl | rfl <;> trivial)) (Ext.gr (eR.alloc _))
 have u0:Hid (w.heap.size<v1.heap.size):=b0_0.out.2
 have b1_0:Hid (At (w.heap.size+1) 0 (.int .u8 4) v1):=by rw[hv1];exact At.ext (At.n1 (by rfl)) eR
 have b1_1:Hid (At (w.heap.size+1) 1 (.int .i64 n') v1):=by rw[hv1];exact At.ext (At.n1 (by rfl)) eR
 have b1_2:Hid (At (w.heap.size+1) 2 (.slice p' l'.length c') v1):=by rw[hv1];exact At.ext (At.n1 (by rfl)) eR
 have k1:Hid (Bx 3 (w.heap.size+1) v1):=by rw[hv1];exact Bx.gr (Bx.n1 3 ⟨rfl,by decide⟩ (by decide) (by intro u hu;simp only[List.mem_cons,List.not_mem_nil,or_false]at hu;rcases hu with rfl | rfl | rfl <;> trivial)) (Ext.gr eR)
 have u1:Hid (w.heap.size+1<v1.heap.size):=b1_0.out.2;have e1_:Ext w v1:=y1;rw[←hv1];clear hv1;refine (leaf_calls _ 4 false rfl).mono ?_;rintro e w2 ⟨rfl,x2⟩;have e2_:Ext w w2:=Ext.trans e1_ x2;have g0_0:=(b0_0.out.ext x2).1;have g0_2:=(b0_2.out.ext x2).1;have g1_2:=(b1_2.out.ext x2).1;have f0:w.heap.size<w2.heap.size:=(b0_0.out.ext x2).2;have f1:w.heap.size+1<w2.heap.size:=(b1_0.out.ext x2).2;go_wp2_with fail;have C2_0:=Hd (b0_0.out.ext x2);have C2_1:=Hd (b0_1.out.ext x2);have C2_2:=Hd (b0_2.out.ext x2);have C3_0:=Hd (b1_0.out.ext x2);have C3_1:=Hd (b1_1.out.ext x2);have C3_2:=Hd (b1_2.out.ext x2);have EW:Hid (Ext w w2):=e2_
 obtain⟨W4,rfl⟩:∃ W,W=w2:=⟨_,rfl⟩
 obtain⟨sb3,hsb3⟩:∃ s,w.heap.size+1=s:=⟨_,rfl⟩
 rw[hsb3]at C3_0 C3_1 C3_2
 (try rw[hsb3])
 obtain⟨sb2,hsb2⟩:∃ s,w.heap.size=s:=⟨_,rfl⟩
 rw[hsb2]at C2_0 C2_1 C2_2
 (try rw[hsb2])
 clear hsb2 hsb3;have H:=Hd (HW.out.ext EW.out);have H':=Hd (HW'.out.ext EW.out);clear HW HW'
 go_loopw [43] (fun v43 wr => ∃ ix:Nat,v43 = .int .i64 (ix:Int)∧ix≤m∧Ext W4 wr∧Hid (∀ j,j<ix → ∀ a b,l[j]? = some a→l'[j]? = some b→cmpV a b=0)) (fun v43 _=>m - (intOf v43).toNat)
 case atStart=>exact⟨0,rfl,Nat.zero_le _,Ext.refl _,fun j hj=>absurd hj (Nat.not_lt_zero _)⟩
 case round =>
  obtain⟨ix,rfl,hi,hx,HA⟩:=hrel;have XX:=Hd hx;clear hx
  by_cases him:ix<m
  ·have LT:=Hd him
   have LI:Hid (ix<l.length):=by show _<_;have:=M1.out;omega
   have LJ:Hid (ix<l'.length):=by show _<_;have:=M2.out;omega
   have t3:(ix:Int)+1≤(m:Int):=by omega
   have ti:(ix:Int)+1≤(l.length:Int):=by have:=LI.out;omega
   have tn:=LI.out;have tn':=LJ.out
   have tj:(ix:Int)+1≤(l'.length:Int):=by have:=LJ.out;omega
   clear hi him;obtain⟨b,o,q,d,rfl,hb,c0,c1,c2,hi⟩:=H.out.item rfl LI.out;obtain⟨b',o',q',d',rfl,hb',c0',c1',c2',hj⟩:=H'.out.item rfl LJ.out
   obtain⟨x,hx⟩:∃ x,l[ix]'LI.out=x:=⟨_,rfl⟩
   obtain⟨y,hy⟩:∃ y,l'[ix]'LJ.out=y:=⟨_,rfl⟩
   simp only[hx,hy]at c0 c1 c2 c0' c1' c2' hi hj;have HI:=Hd hi;have HJ:=Hd hj
   have D0:Hid (At b (o+ix*3) _ W4):=⟨c0,hb⟩
   have D1:Hid (At b (o+ix*3+1) _ W4):=⟨c1,hb⟩
   have D2:Hid (At b (o+ix*3+2) _ W4):=⟨c2,hb⟩
   have D0':Hid (At b' (o'+ix*3) _ W4):=⟨c0',hb'⟩
   have D1':Hid (At b' (o'+ix*3+1) _ W4):=⟨c1',hb'⟩
   have D2':Hid (At b' (o'+ix*3+2) _ W4):=⟨c2',hb'⟩
   have IX:Hid (∀ (w:World) (v:Value) (u:VT) (v':Value),IsV w v x→IsV w v' u→Calls Tryz.prog 10 #[v,v'] w fun e w'=>e = .returned (.int .i64 (cmpV x u))∧Ext w w'):=IH.out x (by rw[←hx];exact List.getElem_mem _)
   obtain⟨r,hr⟩:∃ r,cmpV x y=r:=⟨_,rfl⟩
   have HX:=Hd hx;have HY:=Hd hy;have HR:=Hd hr;clear c0 c1 c2 c0' c1' c2' hi hj hb hb' hx hy hr
   by_cases hr0:r=0
   ·have hr1:(r != 0)=false:=by rw[hr0];rfl
    have R0:=Hd hr0;clear hr0;have b102_0:=Hd (C2_0.out.ext XX.out);have b102_1:=Hd (C2_1.out.ext XX.out);have b102_2:=Hd (C2_2.out.ext XX.out);have u102:=Hd b102_0.out.2;have b103_0:=Hd (C3_0.out.ext XX.out);have b103_1:=Hd (C3_1.out.ext XX.out);have b103_2:=Hd (C3_2.out.ext XX.out);have u103:=Hd b103_0.out.2;go_wp2_with fail;have hkeep51:AllAt' ([(sb2,0,.int .u8 4),(sb2,1,.int .i64 n),(sb2,2,.slice (some ⟨b,o,none⟩) l.length c),(sb3,0,.int .u8 4),(sb3,1,.int .i64 n'),(sb3,2,.slice (some ⟨b',o',none⟩) l'.length c')]:List (Nat × Nat × Value)) wr:=AllAt'.cons b102_0.out (AllAt'.cons b102_1.out (AllAt'.cons b102_2.out (AllAt'.cons b103_0.out (AllAt'.cons b103_1.out (AllAt'.cons b103_2.out (AllAt'.nil _))))));have hob51:ObOk W4.heap.size wr (([(sb2,0,.int .u8 4),(sb2,1,.int .i64 n),(sb2,2,.slice (some ⟨b,o,none⟩) l.length c),(sb3,0,.int .u8 4),(sb3,1,.int .i64 n'),(sb3,2,.slice (some ⟨b',o',none⟩) l'.length c')]:List (Nat × Nat × Value)).map (·.1)) ([]:List (Nat × List (Nat × Value))):=trivial;have hne51:AllNe (([]:List (Nat × List (Nat × Value))).map (·.1)):=trivial
    (try simp only[List.append_eq,List.cons_append,List.nil_append])
    refine wp_region_gen ⟨[46,47,48,49,50,51,52,53,54,55,56,6],fun i=>false,fun i=>([none,none,none,none,none,none,none,none,none,none,none,none]:List (Option (BoxRef × Nat))).getD i none,fun i=>([Sg.val (.pointer (some ⟨sb2,2,none⟩)),Sg.val (.slice (some ⟨b,o,none⟩) l.length c),Sg.val (.int .i64 (ix:Int)),Sg.val (.pointer (some ⟨b,o+ix*3,none⟩)),Sg.val (.agg #[.int .u8 (x.k:Int),.int .i64 x.n,.slice q x.l.length d]),Sg.val (.pointer (some ⟨sb3,2,none⟩)),Sg.val (.slice (some ⟨b',o',none⟩) l'.length c'),Sg.val (.int .i64 (ix:Int)),Sg.val (.pointer (some ⟨b',o'+ix*3,none⟩)),Sg.val (.agg #[.int .u8 (y.k:Int),.int .i64 y.n,.slice q' y.l.length d']),Sg.val (.int .i64 r),Sg.val (.int .i64 r)]:List Sg).getD i Sg.any,[(sb2,0,.int .u8 4),(sb2,1,.int .i64 n),(sb2,2,.slice (some ⟨b,o,none⟩) l.length c),(sb3,0,.int .u8 4),(sb3,1,.int .i64 n'),(sb3,2,.slice (some ⟨b',o',none⟩) l'.length c')],[]⟩ W4.heap.size (by kernel_rfl) (by kernel_rfl) XX.out.size ?hfr hkeep51 hob51 hne51 ?hs ?he
    case hfr =>
     intro i v wk hi hst hv;exact absurd hi (by simp)
    case hs =>
     refine⟨?_,?_,?_,?_,?_,?_,?_,?_,?_,?_,?_,?_,trivial⟩
     ·refine RStep.op rfl rfl fun ac wk hp K hK=>?_;have t2_:ac.tmps[2]?.getD undef = .pointer (some ⟨sb2,0,none⟩):=hp.slot 2 rfl rfl;have HP:=Hd hp;clear hp;go_simp;refine hK.out _ _ ?_ eR (fun h=>absurd h (by simp));exact rfl
     ·refine RStep.op rfl rfl fun ac wk hp K hK=>?_;have u0e:=hp.g 0;have t46_:ac.tmps[46]?.getD undef = .pointer (some ⟨sb2,2,none⟩):=slot_is' u0e;have c0_:=hp.cell 2 rfl;have HP:=Hd hp;clear hp;go_simp;refine hK.out _ _ ?_ eR (fun h=>absurd h (by simp));exact rfl
     ·refine RStep.op rfl rfl fun ac wk hp K hK=>?_;have t5_:ac.tmps[5]?.getD undef = .int .i64 (ix:Int):=hp.slot 5 rfl rfl;have HP:=Hd hp;clear hp;go_simp;refine hK.out _ _ ?_ eR (fun h=>absurd h (by simp));exact rfl
     ·refine RStep.op rfl rfl fun ac wk hp K hK=>?_;have u1e:=hp.g 1;have t47_:ac.tmps[47]?.getD undef = .slice (some ⟨b,o,none⟩) l.length c:=slot_is' u1e;have u2e:=hp.g 2;have t48_:ac.tmps[48]?.getD undef = .int .i64 (ix:Int):=slot_is' u2e;have HP:=Hd hp;clear hp;go_simp;refine hK.out _ _ ?_ eR (fun h=>absurd h (by simp));exact (by first | rfl | (apply congrArg Value.bool;simp;done) | (apply congrArg Value.bool;simp;omega) | (simp [*];done))
     ·refine RStep.op rfl rfl fun ac wk hp K hK=>?_;have u3e:=hp.g 3;have t49_:ac.tmps[49]?.getD undef = .pointer (some ⟨b,o+ix*3,none⟩):=slot_is' u3e;have HP:=Hd hp;clear hp;have q0:=(D0.out.ext (Ext.below XX.out HP.out.blw)).1;have q1:=(D1.out.ext (Ext.below XX.out HP.out.blw)).1;have q2:=(D2.out.ext (Ext.below XX.out HP.out.blw)).1;go_simp;refine hK.out _ _ ?_ eR (fun h=>absurd h (by simp));exact (by first | rfl | (apply congrArg Value.bool;simp;done) | (apply congrArg Value.bool;simp;omega) | (simp [*];done))
     ·refine RStep.op rfl rfl fun ac wk hp K hK=>?_;have t3_:ac.tmps[3]?.getD undef = .pointer (some ⟨sb3,0,none⟩):=hp.slot 3 rfl rfl;have HP:=Hd hp;clear hp;go_simp;refine hK.out _ _ ?_ eR (fun h=>absurd h (by simp));exact rfl
     ·refine RStep.op rfl rfl fun ac wk hp K hK=>?_;have u5e:=hp.g 5;have t51_:ac.tmps[51]?.getD undef = .pointer (some ⟨sb3,2,none⟩):=slot_is' u5e;have c0_:=hp.cell 5 rfl;have HP:=Hd hp;clear hp;go_simp;refine hK.out _ _ ?_ eR (fun h=>absurd h (by simp));exact rfl
     ·refine RStep.op rfl rfl fun ac wk hp K hK=>?_;have t5_:ac.tmps[5]?.getD undef = .int .i64 (ix:Int):=hp.slot 5 rfl rfl;have HP:=Hd hp;clear hp;go_simp;refine hK.out _ _ ?_ eR (fun h=>absurd h (by simp));exact rfl
     ·refine RStep.op rfl rfl fun ac wk hp K hK=>?_;have u6e:=hp.g 6;have t52_:ac.tmps[52]?.getD undef = .slice (some ⟨b',o',none⟩) l'.length c':=slot_is' u6e;have u7e:=hp.g 7;have t53_:ac.tmps[53]?.getD undef = .int .i64 (ix:Int):=slot_is' u7e;have HP:=Hd hp;clear hp;go_simp;refine hK.out _ _ ?_ eR (fun h=>absurd h (by simp));exact (by first | rfl | (apply congrArg Value.bool;simp;done) | (apply congrArg Value.bool;simp;omega) | (simp [*];done))
     ·refine RStep.op rfl rfl fun ac wk hp K hK=>?_;have u8e:=hp.g 8;have t54_:ac.tmps[54]?.getD undef = .pointer (some ⟨b',o'+ix*3,none⟩):=slot_is' u8e;have HP:=Hd hp;clear hp;have q0:=(D0'.out.ext (Ext.below XX.out HP.out.blw)).1;have q1:=(D1'.out.ext (Ext.below XX.out HP.out.blw)).1;have q2:=(D2'.out.ext (Ext.below XX.out HP.out.blw)).1;go_simp;refine hK.out _ _ ?_ eR (fun h=>absurd h (by simp));exact (by first | rfl | (apply congrArg Value.bool;simp;done) | (apply congrArg Value.bool;simp;omega) | (simp [*];done))
     ·refine RStep.op rfl rfl fun ac wk hp K hK=>?_;have u4e:=hp.g 4;have t50_:ac.tmps[50]?.getD undef = .agg #[.int .u8 (x.k:Int),.int .i64 x.n,.slice q x.l.length d]:=slot_is' u4e;have u9e:=hp.g 9;have t55_:ac.tmps[55]?.getD undef = .agg #[.int .u8 (y.k:Int),.int .i64 y.n,.slice q' y.l.length d']:=slot_is' u9e;have HP:=Hd hp;clear hp;go_simp;refine (HR.out ▸ IX.out _ _ _ _ (HI.out.ext (Ext.below XX.out HP.out.blw)) (HJ.out.ext (Ext.below XX.out HP.out.blw))).mono ?_;rintro e wk' ⟨rfl,ix⟩;refine hK.out _ _ ?_ ix (fun h=>absurd h (by simp));exact rfl
     ·refine RStep.op rfl rfl fun ac wk hp K hK=>?_;have u10e:=hp.g 10;have t56_:ac.tmps[56]?.getD undef = .int .i64 r:=slot_is' u10e;have HP:=Hd hp;clear hp;go_simp;refine hK.out _ _ ?_ eR (fun h=>absurd h (by simp));exact rfl
    case he =>
     intro ac v1 hM;have y51_0e:=hM.post 0 rfl rfl;have y51_1e:=hM.post 1 rfl rfl;have y51_2e:=hM.post 2 rfl rfl;have y51_3e:=hM.post 3 rfl rfl;have y51_4e:=hM.post 4 rfl rfl;have y51_5e:=hM.post 5 rfl rfl;have y51_6e:=hM.post 6 rfl rfl;have y51_7e:=hM.post 7 rfl rfl;have y51_8e:=hM.post 8 rfl rfl;have y51_9e:=hM.post 9 rfl rfl;have y51_10e:=hM.post 10 rfl rfl;have y51_11e:=hM.post 11 rfl rfl;have b102_0:Hid (At (sb2) 0 (.int .u8 4) v1):=Hd (hM.keep.at 0 rfl);have b102_1:Hid (At (sb2) 1 (.int .i64 n) v1):=Hd (hM.keep.at 1 rfl);have b102_2:Hid (At (sb2) 2 (.slice (some ⟨b,o,none⟩) l.length c) v1):=Hd (hM.keep.at 2 rfl);have b103_0:Hid (At (sb3) 0 (.int .u8 4) v1):=Hd (hM.keep.at 3 rfl);have b103_1:Hid (At (sb3) 1 (.int .i64 n') v1):=Hd (hM.keep.at 4 rfl);have b103_2:Hid (At (sb3) 2 (.slice (some ⟨b',o',none⟩) l'.length c') v1):=Hd (hM.keep.at 5 rfl);have gv1:Gr wr v1:=hM.gr;have e1_:Ext W4 v1:=Ext.below XX.out hM.blw;have z0_:sl ac 46 = .pointer (some ⟨sb2,2,none⟩):=y51_0e;have z1_:sl ac 47 = .slice (some ⟨b,o,none⟩) l.length c:=y51_1e;have z2_:sl ac 48 = .int .i64 (ix:Int):=y51_2e;have z3_:sl ac 49 = .pointer (some ⟨b,o+ix*3,none⟩):=y51_3e;have z4_:sl ac 50 = .agg #[.int .u8 (x.k:Int),.int .i64 x.n,.slice q x.l.length d]:=y51_4e;have z5_:sl ac 51 = .pointer (some ⟨sb3,2,none⟩):=y51_5e;have z6_:sl ac 52 = .slice (some ⟨b',o',none⟩) l'.length c':=y51_6e;have z7_:sl ac 53 = .int .i64 (ix:Int):=y51_7e;have z8_:sl ac 54 = .pointer (some ⟨b',o'+ix*3,none⟩):=y51_8e;have z9_:sl ac 55 = .agg #[.int .u8 (y.k:Int),.int .i64 y.n,.slice q' y.l.length d']:=y51_9e
     have z10_:sl ac 56 = .int .i64 r:=y51_10e;have z11_:sl ac 6 = .int .i64 r:=y51_11e;rw[hM.ag.lay];simp only[lay,List.foldl_cons,List.foldl_nil,List.setIfInBounds_toArray,List.set_cons_zero,List.set_cons_succ,z0_,z1_,z2_,z3_,z4_,z5_,z6_,z7_,z8_,z9_,z10_,z11_];clear hM hkeep51 hob51 hne51 z0_ z1_ z2_ z3_ z4_ z5_ z6_ z7_ z8_ z9_ z10_ z11_ y51_0e y51_1e y51_2e y51_3e y51_4e y51_5e y51_6e y51_7e y51_8e y51_9e y51_10e y51_11e;go_wp2_with fail;refine⟨⟨ix+1,by first | rfl | go_num,LT.out,e1_,?_⟩,by simp [intOf];have:=LT.out;omega⟩;intro j hj a b ha hb
     by_cases e:j<ix
     ·exact HA.out j e a b ha hb
     ·obtain rfl:j=ix:=by omega
      rw[List.getElem?_eq_getElem LI.out,HX.out]at ha;rw[List.getElem?_eq_getElem LJ.out,HY.out]at hb
      injection ha with ha
      injection hb with hb
      subst ha hb;exact HR.out.trans R0.out
   ·have hr1:(r != 0)=true:=by rw[bne_iff_ne];exact hr0
    have R0:=Hd hr0;clear hr0;have b102_0:=Hd (C2_0.out.ext XX.out);have b102_1:=Hd (C2_1.out.ext XX.out);have b102_2:=Hd (C2_2.out.ext XX.out);have u102:=Hd b102_0.out.2;have b103_0:=Hd (C3_0.out.ext XX.out);have b103_1:=Hd (C3_1.out.ext XX.out);have b103_2:=Hd (C3_2.out.ext XX.out);have u103:=Hd b103_0.out.2;go_wp2_with fail;have hkeep51:AllAt' ([(sb2,0,.int .u8 4),(sb2,1,.int .i64 n),(sb2,2,.slice (some ⟨b,o,none⟩) l.length c),(sb3,0,.int .u8 4),(sb3,1,.int .i64 n'),(sb3,2,.slice (some ⟨b',o',none⟩) l'.length c')]:List (Nat × Nat × Value)) wr:=AllAt'.cons b102_0.out (AllAt'.cons b102_1.out (AllAt'.cons b102_2.out (AllAt'.cons b103_0.out (AllAt'.cons b103_1.out (AllAt'.cons b103_2.out (AllAt'.nil _))))));have hob51:ObOk W4.heap.size wr (([(sb2,0,.int .u8 4),(sb2,1,.int .i64 n),(sb2,2,.slice (some ⟨b,o,none⟩) l.length c),(sb3,0,.int .u8 4),(sb3,1,.int .i64 n'),(sb3,2,.slice (some ⟨b',o',none⟩) l'.length c')]:List (Nat × Nat × Value)).map (·.1)) ([]:List (Nat × List (Nat × Value))):=trivial;have hne51:AllNe (([]:List (Nat × List (Nat × Value))).map (·.1)):=trivial
    (try simp only[List.append_eq,List.cons_append,List.nil_append])
    refine wp_region_gen ⟨[46,47,48,49,50,51,52,53,54,55,56,6],fun i=>false,fun i=>([none,none,none,none,none,none,none,none,none,none,none,none]:List (Option (BoxRef × Nat))).getD i none,fun i=>([Sg.val (.pointer (some ⟨sb2,2,none⟩)),Sg.val (.slice (some ⟨b,o,none⟩) l.length c),Sg.val (.int .i64 (ix:Int)),Sg.val (.pointer (some ⟨b,o+ix*3,none⟩)),Sg.val (.agg #[.int .u8 (x.k:Int),.int .i64 x.n,.slice q x.l.length d]),Sg.val (.pointer (some ⟨sb3,2,none⟩)),Sg.val (.slice (some ⟨b',o',none⟩) l'.length c'),Sg.val (.int .i64 (ix:Int)),Sg.val (.pointer (some ⟨b',o'+ix*3,none⟩)),Sg.val (.agg #[.int .u8 (y.k:Int),.int .i64 y.n,.slice q' y.l.length d']),Sg.val (.int .i64 r),Sg.val (.int .i64 r)]:List Sg).getD i Sg.any,[(sb2,0,.int .u8 4),(sb2,1,.int .i64 n),(sb2,2,.slice (some ⟨b,o,none⟩) l.length c),(sb3,0,.int .u8 4),(sb3,1,.int .i64 n'),(sb3,2,.slice (some ⟨b',o',none⟩) l'.length c')],[]⟩ W4.heap.size (by kernel_rfl) (by kernel_rfl) XX.out.size ?hfr hkeep51 hob51 hne51 ?hs ?he
    case hfr =>
     intro i v wk hi hst hv;exact absurd hi (by simp)
    case hs =>
     refine⟨?_,?_,?_,?_,?_,?_,?_,?_,?_,?_,?_,?_,trivial⟩
     ·refine RStep.op rfl rfl fun ac wk hp K hK=>?_;have t2_:ac.tmps[2]?.getD undef = .pointer (some ⟨sb2,0,none⟩):=hp.slot 2 rfl rfl;have HP:=Hd hp;clear hp;go_simp;refine hK.out _ _ ?_ eR (fun h=>absurd h (by simp));exact rfl
     ·refine RStep.op rfl rfl fun ac wk hp K hK=>?_;have u0e:=hp.g 0;have t46_:ac.tmps[46]?.getD undef = .pointer (some ⟨sb2,2,none⟩):=slot_is' u0e;have c0_:=hp.cell 2 rfl;have HP:=Hd hp;clear hp;go_simp;refine hK.out _ _ ?_ eR (fun h=>absurd h (by simp));exact rfl
     ·refine RStep.op rfl rfl fun ac wk hp K hK=>?_;have t5_:ac.tmps[5]?.getD undef = .int .i64 (ix:Int):=hp.slot 5 rfl rfl;have HP:=Hd hp;clear hp;go_simp;refine hK.out _ _ ?_ eR (fun h=>absurd h (by simp));exact rfl
     ·refine RStep.op rfl rfl fun ac wk hp K hK=>?_;have u1e:=hp.g 1;have t47_:ac.tmps[47]?.getD undef = .slice (some ⟨b,o,none⟩) l.length c:=slot_is' u1e;have u2e:=hp.g 2;have t48_:ac.tmps[48]?.getD undef = .int .i64 (ix:Int):=slot_is' u2e;have HP:=Hd hp;clear hp;go_simp;refine hK.out _ _ ?_ eR (fun h=>absurd h (by simp));exact (by first | rfl | (apply congrArg Value.bool;simp;done) | (apply congrArg Value.bool;simp;omega) | (simp [*];done))
     ·refine RStep.op rfl rfl fun ac wk hp K hK=>?_;have u3e:=hp.g 3;have t49_:ac.tmps[49]?.getD undef = .pointer (some ⟨b,o+ix*3,none⟩):=slot_is' u3e;have HP:=Hd hp;clear hp;have q0:=(D0.out.ext (Ext.below XX.out HP.out.blw)).1;have q1:=(D1.out.ext (Ext.below XX.out HP.out.blw)).1;have q2:=(D2.out.ext (Ext.below XX.out HP.out.blw)).1;go_simp;refine hK.out _ _ ?_ eR (fun h=>absurd h (by simp));exact (by first | rfl | (apply congrArg Value.bool;simp;done) | (apply congrArg Value.bool;simp;omega) | (simp [*];done))
     ·refine RStep.op rfl rfl fun ac wk hp K hK=>?_;have t3_:ac.tmps[3]?.getD undef = .pointer (some ⟨sb3,0,none⟩):=hp.slot 3 rfl rfl;have HP:=Hd hp;clear hp;go_simp;refine hK.out _ _ ?_ eR (fun h=>absurd h (by simp));exact rfl
     ·refine RStep.op rfl rfl fun ac wk hp K hK=>?_;have u5e:=hp.g 5;have t51_:ac.tmps[51]?.getD undef = .pointer (some ⟨sb3,2,none⟩):=slot_is' u5e;have c0_:=hp.cell 5 rfl;have HP:=Hd hp;clear hp;go_simp;refine hK.out _ _ ?_ eR (fun h=>absurd h (by simp));exact rfl
     ·refine RStep.op rfl rfl fun ac wk hp K hK=>?_;have t5_:ac.tmps[5]?.getD undef = .int .i64 (ix:Int):=hp.slot 5 rfl rfl;have HP:=Hd hp;clear hp;go_simp;refine hK.out _ _ ?_ eR (fun h=>absurd h (by simp));exact rfl
     ·refine RStep.op rfl rfl fun ac wk hp K hK=>?_;have u6e:=hp.g 6;have t52_:ac.tmps[52]?.getD undef = .slice (some ⟨b',o',none⟩) l'.length c':=slot_is' u6e;have u7e:=hp.g 7;have t53_:ac.tmps[53]?.getD undef = .int .i64 (ix:Int):=slot_is' u7e;have HP:=Hd hp;clear hp;go_simp;refine hK.out _ _ ?_ eR (fun h=>absurd h (by simp));exact (by first | rfl | (apply congrArg Value.bool;simp;done) | (apply congrArg Value.bool;simp;omega) | (simp [*];done))
     ·refine RStep.op rfl rfl fun ac wk hp K hK=>?_;have u8e:=hp.g 8;have t54_:ac.tmps[54]?.getD undef = .pointer (some ⟨b',o'+ix*3,none⟩):=slot_is' u8e;have HP:=Hd hp;clear hp;have q0:=(D0'.out.ext (Ext.below XX.out HP.out.blw)).1;have q1:=(D1'.out.ext (Ext.below XX.out HP.out.blw)).1;have q2:=(D2'.out.ext (Ext.below XX.out HP.out.blw)).1;go_simp;refine hK.out _ _ ?_ eR (fun h=>absurd h (by simp));exact (by first | rfl | (apply congrArg Value.bool;simp;done) | (apply congrArg Value.bool;simp;omega) | (simp [*];done))
     ·refine RStep.op rfl rfl fun ac wk hp K hK=>?_;have u4e:=hp.g 4;have t50_:ac.tmps[50]?.getD undef = .agg #[.int .u8 (x.k:Int),.int .i64 x.n,.slice q x.l.length d]:=slot_is' u4e;have u9e:=hp.g 9;have t55_:ac.tmps[55]?.getD undef = .agg #[.int .u8 (y.k:Int),.int .i64 y.n,.slice q' y.l.length d']:=slot_is' u9e;have HP:=Hd hp;clear hp;go_simp;refine (HR.out ▸ IX.out _ _ _ _ (HI.out.ext (Ext.below XX.out HP.out.blw)) (HJ.out.ext (Ext.below XX.out HP.out.blw))).mono ?_;rintro e wk' ⟨rfl,ix⟩;refine hK.out _ _ ?_ ix (fun h=>absurd h (by simp));exact rfl
     ·refine RStep.op rfl rfl fun ac wk hp K hK=>?_;have u10e:=hp.g 10;have t56_:ac.tmps[56]?.getD undef = .int .i64 r:=slot_is' u10e;have HP:=Hd hp;clear hp;go_simp;refine hK.out _ _ ?_ eR (fun h=>absurd h (by simp));exact rfl
    case he =>
     intro ac v1 hM;have y51_0e:=hM.post 0 rfl rfl;have y51_1e:=hM.post 1 rfl rfl;have y51_2e:=hM.post 2 rfl rfl;have y51_3e:=hM.post 3 rfl rfl;have y51_4e:=hM.post 4 rfl rfl;have y51_5e:=hM.post 5 rfl rfl;have y51_6e:=hM.post 6 rfl rfl;have y51_7e:=hM.post 7 rfl rfl;have y51_8e:=hM.post 8 rfl rfl;have y51_9e:=hM.post 9 rfl rfl;have y51_10e:=hM.post 10 rfl rfl;have y51_11e:=hM.post 11 rfl rfl;have b102_0:Hid (At (sb2) 0 (.int .u8 4) v1):=Hd (hM.keep.at 0 rfl);have b102_1:Hid (At (sb2) 1 (.int .i64 n) v1):=Hd (hM.keep.at 1 rfl);have b102_2:Hid (At (sb2) 2 (.slice (some ⟨b,o,none⟩) l.length c) v1):=Hd (hM.keep.at 2 rfl);have b103_0:Hid (At (sb3) 0 (.int .u8 4) v1):=Hd (hM.keep.at 3 rfl);have b103_1:Hid (At (sb3) 1 (.int .i64 n') v1):=Hd (hM.keep.at 4 rfl);have b103_2:Hid (At (sb3) 2 (.slice (some ⟨b',o',none⟩) l'.length c') v1):=Hd (hM.keep.at 5 rfl);have gv1:Gr wr v1:=hM.gr;have e1_:Ext W4 v1:=Ext.below XX.out hM.blw;have z0_:sl ac 46 = .pointer (some ⟨sb2,2,none⟩):=y51_0e;have z1_:sl ac 47 = .slice (some ⟨b,o,none⟩) l.length c:=y51_1e;have z2_:sl ac 48 = .int .i64 (ix:Int):=y51_2e;have z3_:sl ac 49 = .pointer (some ⟨b,o+ix*3,none⟩):=y51_3e;have z4_:sl ac 50 = .agg #[.int .u8 (x.k:Int),.int .i64 x.n,.slice q x.l.length d]:=y51_4e;have z5_:sl ac 51 = .pointer (some ⟨sb3,2,none⟩):=y51_5e;have z6_:sl ac 52 = .slice (some ⟨b',o',none⟩) l'.length c':=y51_6e;have z7_:sl ac 53 = .int .i64 (ix:Int):=y51_7e;have z8_:sl ac 54 = .pointer (some ⟨b',o'+ix*3,none⟩):=y51_8e;have z9_:sl ac 55 = .agg #[.int .u8 (y.k:Int),.int .i64 y.n,.slice q' y.l.length d']:=y51_9e
     have z10_:sl ac 56 = .int .i64 r:=y51_10e;have z11_:sl ac 6 = .int .i64 r:=y51_11e;rw[hM.ag.lay];simp only[lay,List.foldl_cons,List.foldl_nil,List.setIfInBounds_toArray,List.set_cons_zero,List.set_cons_succ,z0_,z1_,z2_,z3_,z4_,z5_,z6_,z7_,z8_,z9_,z10_,z11_];clear hM hkeep51 hob51 hne51 z0_ z1_ z2_ z3_ z4_ z5_ z6_ z7_ z8_ z9_ z10_ z11_ y51_0e y51_1e y51_2e y51_3e y51_4e y51_5e y51_6e y51_7e y51_8e y51_9e y51_10e y51_11e;go_wp2_with fail;go_ret;exact⟨ret_eq (int_eq (by rw[HV.out,cmpVs_at LI.out LJ.out HA.out (by rw[HX.out,HY.out,HR.out];exact R0.out),HX.out,HY.out,HR.out])),EW.out.trans e1_⟩
  ·have t3:(m:Int)≤(ix:Int):=by omega
   have HE:Hid (cmpVs l l'=cmpI l.length l'.length):=cmpVs_end fun j hj=>HA.out j (by have:=HM.out;omega)
   clear hi him;have b102_0:=Hd (C2_0.out.ext XX.out);have b102_1:=Hd (C2_1.out.ext XX.out);have b102_2:=Hd (C2_2.out.ext XX.out);have u102:=Hd b102_0.out.2;have b103_0:=Hd (C3_0.out.ext XX.out);have b103_1:=Hd (C3_1.out.ext XX.out);have b103_2:=Hd (C3_2.out.ext XX.out);have u103:=Hd b103_0.out.2;have g102_2:=b102_2.out.1;have g103_2:=b103_2.out.1;have f102:sb2<wr.heap.size:=b102_0.out.2;have f103:sb3<wr.heap.size:=b103_0.out.2;go_wp2_with fail;refine (cmpint_calls _ l.length l'.length).mono ?_;rintro e w1 ⟨rfl,x1⟩;have e1_:Ext W4 w1:=Ext.trans XX.out x1;clear g102_2 g103_2 f102 f103;go_wp2_with fail;go_ret;exact⟨ret_eq (int_eq (by rw[HV.out,HE.out])),EW.out.trans e1_⟩
theorem vcmp_calls:∀ (t:VT) (w:World) (v:Value) (u:VT) (v':Value),IsV w v t→IsV w v' u→Calls Tryz.prog 10 #[v,v'] w fun e w'=>e = .returned (.int .i64 (cmpV t u))∧Ext w w':=by
 refine VT.ind1 ?_;intro k n l ih w v u v' h h';obtain⟨k',n',l'⟩:=u;obtain⟨p,c,rfl⟩:=h.shape;obtain⟨p',c',rfl⟩:=h'.shape
 by_cases hk:k=k'
 ·have hk:k=k':=hk;subst hk
  by_cases h1:k=1∨k=2
  ·exact vcmp_leaf k n n' l l' p p' c c' w h h' h1
  ·by_cases h2:k≠3∧k≠4
   ·exact vcmp_none k n n' l l' p p' c c' w h h' h1 h2
   ·by_cases h3:k=3
    ·subst h3;exact vcmp_three n n' l l' p p' c c' w h h' ih
    ·obtain rfl:k=4:=by omega
     exact vcmp_four n n' l l' p p' c c' w h h' ih
 ·exact vcmp_kind k k' n n' l l' p p' c c' w h h' hk
end Go.Proofs.YtfofjalebhajhaaGreatDoor
