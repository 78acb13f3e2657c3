/- Whether two values are the same: val.Same, and the document's. -/
import Derived.Test.YtfofjalebhajhaaGreatDoorVal2
namespace Go.Proofs.YtfofjalebhajhaaGreatDoor
open Go Go.RowKit
set_option maxHeartbeats 2000000 in
set_option maxRecDepth 100000 in
theorem vsame_kind (k k':Nat) (n n':Int) (l l':List VT) (p p':Option Addr) (c c':Nat) (w:World) (h:IsV w (.agg #[.int .u8 (k:Int),.int .i64 n,.slice p l.length c]) (.mk k n l)) (h':IsV w (.agg #[.int .u8 (k':Int),.int .i64 n',.slice p' l'.length c']) (.mk k' n' l')) (hk:k≠k') :
  Calls Tryz.prog 20 #[.agg #[.int .u8 (k:Int),.int .i64 n,.slice p l.length c],.agg #[.int .u8 (k':Int),.int .i64 n',.slice p' l'.length c']] w fun e w'=>e = .returned (.bool (sameV (.mk k n l) (.mk k' n' l')))∧Ext w w':=by
 have HV:Hid (sameV (.mk k n l) (.mk k' n' l')=false):=by show _=_;unfold sameV;simp [hk]
 have hk1:((k:Int) != (k':Int))=true:=by rw[bne_iff_ne];omega
 clear hk h h'
 go_enter Tryz.func20,Tryz.ntmps20
 go_wp2_with fail
 obtain⟨v1,hv1⟩:∃ W,W=((w.alloc (.cells #[.int .u8 (k:Int),.int .i64 n,.slice p l.length c] 29)).alloc (.cells #[.int .u8 (k':Int),.int .i64 n',.slice p' l'.length c'] 29)):=⟨_,rfl⟩
 have y1:Ext w v1:=by rw[hv1];exact ((eR.alloc _).alloc _)
 have b0_0:Hid (At (w.heap.size) 0 (.int .u8 (k:Int)) v1):=by rw[hv1];exact At.ext (At.n0 (by rfl)) (eR.alloc _)
 have b0_1:Hid (At (w.heap.size) 1 (.int .i64 n) v1):=by rw[hv1];exact At.ext (At.n0 (by rfl)) (eR.alloc _)
 have b0_2:Hid (At (w.heap.size) 2 (.slice p l.length c) v1):=by rw[hv1];exact At.ext (At.n0 (by rfl)) (eR.alloc _)
 have k0:Hid (Bx 3 (w.heap.size) v1):=by rw[hv1];exact Bx.gr (Bx.n0 3 ⟨rfl,by decide⟩ (by decide) (by intro u hu;simp only[List.mem_cons,List.not_mem_nil,or_false]at hu;rcases hu with rfl | rfl | rfl <;> trivial)) (Ext.gr (eR.alloc _))
 have u0:Hid (w.heap.size<v1.heap.size):=b0_0.out.2
 have b1_0:Hid (At (w.heap.size+1) 0 (.int .u8 (k':Int)) v1):=by rw[hv1];exact At.ext (At.n1 (by rfl)) eR
 have b1_1:Hid (At (w.heap.size+1) 1 (.int .i64 n') v1):=by rw[hv1];exact At.ext (At.n1 (by rfl)) eR
 have b1_2:Hid (At (w.heap.size+1) 2 (.slice p' l'.length c') v1):=by rw[hv1];exact At.ext (At.n1 (by rfl)) eR
 have k1:Hid (Bx 3 (w.heap.size+1) v1):=by rw[hv1];exact Bx.gr (Bx.n1 3 ⟨rfl,by decide⟩ (by decide) (by intro u hu;simp only[List.mem_cons,List.not_mem_nil,or_false]at hu;rcases hu with rfl | rfl | rfl <;> trivial)) (Ext.gr eR)
 have u1:Hid (w.heap.size+1<v1.heap.size):=b1_0.out.2;have e1_:Ext w v1:=y1;rw[←hv1];clear hv1;go_ret;exact⟨ret_eq (congrArg Value.bool HV.out.symm),e1_⟩
set_option maxHeartbeats 2000000 in
set_option maxRecDepth 100000 in
theorem vsame_num (k:Nat) (n n':Int) (l l':List VT) (p p':Option Addr) (c c':Nat) (w:World) (h:IsV w (.agg #[.int .u8 (k:Int),.int .i64 n,.slice p l.length c]) (.mk k n l)) (h':IsV w (.agg #[.int .u8 (k:Int),.int .i64 n',.slice p' l'.length c']) (.mk k n' l')) (hk:n≠n') :
  Calls Tryz.prog 20 #[.agg #[.int .u8 (k:Int),.int .i64 n,.slice p l.length c],.agg #[.int .u8 (k:Int),.int .i64 n',.slice p' l'.length c']] w fun e w'=>e = .returned (.bool (sameV (.mk k n l) (.mk k n' l')))∧Ext w w':=by
 have HV:Hid (sameV (.mk k n l) (.mk k n' l')=false):=by show _=_;unfold sameV;simp [hk]
 have hk1:(n != n')=true:=by rw[bne_iff_ne];exact hk
 clear hk h h'
 go_enter Tryz.func20,Tryz.ntmps20
 go_wp2_with fail
 obtain⟨v1,hv1⟩:∃ W,W=((w.alloc (.cells #[.int .u8 (k:Int),.int .i64 n,.slice p l.length c] 29)).alloc (.cells #[.int .u8 (k:Int),.int .i64 n',.slice p' l'.length c'] 29)):=⟨_,rfl⟩
 have y1:Ext w v1:=by rw[hv1];exact ((eR.alloc _).alloc _)
 have b0_0:Hid (At (w.heap.size) 0 (.int .u8 (k:Int)) v1):=by rw[hv1];exact At.ext (At.n0 (by rfl)) (eR.alloc _)
 have b0_1:Hid (At (w.heap.size) 1 (.int .i64 n) v1):=by rw[hv1];exact At.ext (At.n0 (by rfl)) (eR.alloc _)
 have b0_2:Hid (At (w.heap.size) 2 (.slice p l.length c) v1):=by rw[hv1];exact At.ext (At.n0 (by rfl)) (eR.alloc _)
 have k0:Hid (Bx 3 (w.heap.size) v1):=by rw[hv1];exact Bx.gr (Bx.n0 3 ⟨rfl,by decide⟩ (by decide) (by intro u hu;simp only[List.mem_cons,List.not_mem_nil,or_false]at hu;rcases hu with rfl | rfl | rfl <;> trivial)) (Ext.gr (eR.alloc _))
 have u0:Hid (w.heap.size<v1.heap.size):=b0_0.out.2
 have b1_0:Hid (At (w.heap.size+1) 0 (.int .u8 (k:Int)) v1):=by rw[hv1];exact At.ext (At.n1 (by rfl)) eR
 have b1_1:Hid (At (w.heap.size+1) 1 (.int .i64 n') v1):=by rw[hv1];exact At.ext (At.n1 (by rfl)) eR
 have b1_2:Hid (At (w.heap.size+1) 2 (.slice p' l'.length c') v1):=by rw[hv1];exact At.ext (At.n1 (by rfl)) eR
 have k1:Hid (Bx 3 (w.heap.size+1) v1):=by rw[hv1];exact Bx.gr (Bx.n1 3 ⟨rfl,by decide⟩ (by decide) (by intro u hu;simp only[List.mem_cons,List.not_mem_nil,or_false]at hu;rcases hu with rfl | rfl | rfl <;> trivial)) (Ext.gr eR)
 have u1:Hid (w.heap.size+1<v1.heap.size):=b1_0.out.2;have e1_:Ext w v1:=y1;rw[←hv1];clear hv1;go_ret;exact⟨ret_eq (congrArg Value.bool HV.out.symm),e1_⟩
set_option maxHeartbeats 2000000 in
set_option maxRecDepth 100000 in
theorem vsame_len (k:Nat) (n:Int) (l l':List VT) (p p':Option Addr) (c c':Nat) (w:World) (h:IsV w (.agg #[.int .u8 (k:Int),.int .i64 n,.slice p l.length c]) (.mk k n l)) (h':IsV w (.agg #[.int .u8 (k:Int),.int .i64 n,.slice p' l'.length c']) (.mk k n l')) (hk:l.length≠l'.length) :
  Calls Tryz.prog 20 #[.agg #[.int .u8 (k:Int),.int .i64 n,.slice p l.length c],.agg #[.int .u8 (k:Int),.int .i64 n,.slice p' l'.length c']] w fun e w'=>e = .returned (.bool (sameV (.mk k n l) (.mk k n l')))∧Ext w w':=by
 have HV:Hid (sameV (.mk k n l) (.mk k n l')=false):=by show _=_;unfold sameV;simp [sameVs_len hk]
 have hk1:((l.length:Int) != (l'.length:Int))=true:=by rw[bne_iff_ne];omega
 clear hk h h'
 go_enter Tryz.func20,Tryz.ntmps20
 go_wp2_with fail
 obtain⟨v1,hv1⟩:∃ W,W=((w.alloc (.cells #[.int .u8 (k:Int),.int .i64 n,.slice p l.length c] 29)).alloc (.cells #[.int .u8 (k:Int),.int .i64 n,.slice p' l'.length c'] 29)):=⟨_,rfl⟩
 have y1:Ext w v1:=by rw[hv1];exact ((eR.alloc _).alloc _)
 have b0_0:Hid (At (w.heap.size) 0 (.int .u8 (k:Int)) v1):=by rw[hv1];exact At.ext (At.n0 (by rfl)) (eR.alloc _)
 have b0_1:Hid (At (w.heap.size) 1 (.int .i64 n) v1):=by rw[hv1];exact At.ext (At.n0 (by rfl)) (eR.alloc _)
 have b0_2:Hid (At (w.heap.size) 2 (.slice p l.length c) v1):=by rw[hv1];exact At.ext (At.n0 (by rfl)) (eR.alloc _)
 have k0:Hid (Bx 3 (w.heap.size) v1):=by rw[hv1];exact Bx.gr (Bx.n0 3 ⟨rfl,by decide⟩ (by decide) (by intro u hu;simp only[List.mem_cons,List.not_mem_nil,or_false]at hu;rcases hu with rfl | rfl | rfl <;> trivial)) (Ext.gr (eR.alloc _))
 have u0:Hid (w.heap.size<v1.heap.size):=b0_0.out.2
 have b1_0:Hid (At (w.heap.size+1) 0 (.int .u8 (k:Int)) v1):=by rw[hv1];exact At.ext (At.n1 (by rfl)) eR
 have b1_1:Hid (At (w.heap.size+1) 1 (.int .i64 n) v1):=by rw[hv1];exact At.ext (At.n1 (by rfl)) eR
 have b1_2:Hid (At (w.heap.size+1) 2 (.slice p' l'.length c') v1):=by rw[hv1];exact At.ext (At.n1 (by rfl)) eR
 have k1:Hid (Bx 3 (w.heap.size+1) v1):=by rw[hv1];exact Bx.gr (Bx.n1 3 ⟨rfl,by decide⟩ (by decide) (by intro u hu;simp only[List.mem_cons,List.not_mem_nil,or_false]at hu;rcases hu with rfl | rfl | rfl <;> trivial)) (Ext.gr eR)
 have u1:Hid (w.heap.size+1<v1.heap.size):=b1_0.out.2;have e1_:Ext w v1:=y1;rw[←hv1];clear hv1;go_ret;exact⟨ret_eq (congrArg Value.bool HV.out.symm),e1_⟩
set_option maxHeartbeats 2000000 in
set_option maxRecDepth 100000 in
theorem vsame_items (k:Nat) (n:Int) (l l':List VT) (p p':Option Addr) (c c':Nat) (w:World) (h:IsV w (.agg #[.int .u8 (k:Int),.int .i64 n,.slice p l.length c]) (.mk k n l)) (h':IsV w (.agg #[.int .u8 (k:Int),.int .i64 n,.slice p' l'.length c']) (.mk k n l')) (hl:l.length=l'.length) (ih:∀ x∈l,∀ (w:World) (v:Value) (u:VT) (v':Value),IsV w v x→IsV w v' u→Calls Tryz.prog 20 #[v,v'] w fun e w'=>e = .returned (.bool (sameV x u))∧Ext w w') :
  Calls Tryz.prog 20 #[.agg #[.int .u8 (k:Int),.int .i64 n,.slice p l.length c],.agg #[.int .u8 (k:Int),.int .i64 n,.slice p' l'.length c']] w fun e w'=>e = .returned (.bool (sameV (.mk k n l) (.mk k n l')))∧Ext w w':=by
 have HV:Hid (sameV (.mk k n l) (.mk k n l')=sameVs l l'):=by show _=_;unfold sameV;simp
 have IH:=Hd ih;have HW:=Hd h;have HW':=Hd h';have l1:=h.len
 have hk1:((l.length:Int) != (l'.length:Int))=false:=by rw[bne_eq_false_iff_eq];omega
 have HL:=Hd hl;clear hl ih h h'
 go_enter Tryz.func20,Tryz.ntmps20
 go_wp2_with fail
 obtain⟨v1,hv1⟩:∃ W,W=((w.alloc (.cells #[.int .u8 (k:Int),.int .i64 n,.slice p l.length c] 29)).alloc (.cells #[.int .u8 (k:Int),.int .i64 n,.slice p' l'.length c'] 29)):=⟨_,rfl⟩
 have y1:Ext w v1:=by rw[hv1];exact ((eR.alloc _).alloc _)
 have b0_0:Hid (At (w.heap.size) 0 (.int .u8 (k:Int)) v1):=by rw[hv1];exact At.ext (At.n0 (by rfl)) (eR.alloc _)
 have b0_1:Hid (At (w.heap.size) 1 (.int .i64 n) v1):=by rw[hv1];exact At.ext (At.n0 (by rfl)) (eR.alloc _)
 have b0_2:Hid (At (w.heap.size) 2 (.slice p l.length c) v1):=by rw[hv1];exact At.ext (At.n0 (by rfl)) (eR.alloc _)
 have k0:Hid (Bx 3 (w.heap.size) v1):=by rw[hv1];exact Bx.gr (Bx.n0 3 ⟨rfl,by decide⟩ (by decide) (by intro u hu;simp only[List.mem_cons,List.not_mem_nil,or_false]at hu;rcases hu with rfl | rfl | rfl <;> trivial)) (Ext.gr (eR.alloc _))
 have u0:Hid (w.heap.size<v1.heap.size):=b0_0.out.2
 have b1_0:Hid (At (w.heap.size+1) 0 (.int .u8 (k:Int)) v1):=by rw[hv1];exact At.ext (At.n1 (by rfl)) eR
 have b1_1:Hid (At (w.heap.size+1) 1 (.int .i64 n) v1):=by rw[hv1];exact At.ext (At.n1 (by rfl)) eR
 have b1_2:Hid (At (w.heap.size+1) 2 (.slice p' l'.length c') v1):=by rw[hv1];exact At.ext (At.n1 (by rfl)) eR
 have k1:Hid (Bx 3 (w.heap.size+1) v1):=by rw[hv1];exact Bx.gr (Bx.n1 3 ⟨rfl,by decide⟩ (by decide) (by intro u hu;simp only[List.mem_cons,List.not_mem_nil,or_false]at hu;rcases hu with rfl | rfl | rfl <;> trivial)) (Ext.gr eR)
 have u1:Hid (w.heap.size+1<v1.heap.size):=b1_0.out.2;have e1_:Ext w v1:=y1;rw[←hv1];clear hv1;have C2_0:=Hd b0_0.out;have C2_1:=Hd b0_1.out;have C2_2:=Hd b0_2.out;have C3_0:=Hd b1_0.out;have C3_1:=Hd b1_1.out;have C3_2:=Hd b1_2.out;have EW:Hid (Ext w v1):=e1_
 obtain⟨W4,rfl⟩:∃ W,W=v1:=⟨_,rfl⟩
 obtain⟨sb3,hsb3⟩:∃ s,w.heap.size+1=s:=⟨_,rfl⟩
 rw[hsb3]at C3_0 C3_1 C3_2
 (try rw[hsb3])
 obtain⟨sb2,hsb2⟩:∃ s,w.heap.size=s:=⟨_,rfl⟩
 rw[hsb2]at C2_0 C2_1 C2_2
 (try rw[hsb2])
 clear hsb2 hsb3;have H:=Hd (HW.out.ext EW.out);have H':=Hd (HW'.out.ext EW.out);clear HW HW'
 go_loopw [31] (fun v31 wr => ∃ ix:Nat,v31 = .int .i64 (ix:Int)∧ix≤l.length∧Ext W4 wr∧Hid (∀ j,j<ix → ∀ a b,l[j]? = some a→l'[j]? = some b→sameV a b=true)) (fun v31 _=>l.length - (intOf v31).toNat)
 case atStart=>exact⟨0,rfl,Nat.zero_le _,Ext.refl _,fun j hj=>absurd hj (Nat.not_lt_zero _)⟩
 case round =>
  obtain⟨ix,rfl,hi,hx,HA⟩:=hrel;have XX:=Hd hx;clear hx
  by_cases him:ix<l.length
  ·have LI:=Hd him
   have LJ:Hid (ix<l'.length):=by show _<_;rw[←HL.out];exact him
   have ti:(ix:Int)+1≤(l.length:Int):=by omega
   have tj:(ix:Int)+1≤(l'.length:Int):=by have:=LJ.out;omega
   have tn':=LJ.out;clear hi;obtain⟨b,o,q,d,rfl,hb,c0,c1,c2,hi⟩:=H.out.item rfl LI.out;obtain⟨b',o',q',d',rfl,hb',c0',c1',c2',hj⟩:=H'.out.item rfl LJ.out
   obtain⟨x,hx⟩:∃ x,l[ix]'LI.out=x:=⟨_,rfl⟩
   obtain⟨y,hy⟩:∃ y,l'[ix]'LJ.out=y:=⟨_,rfl⟩
   simp only[hx,hy]at c0 c1 c2 c0' c1' c2' hi hj;have HI:=Hd hi;have HJ:=Hd hj
   have D0:Hid (At b (o+ix*3) _ W4):=⟨c0,hb⟩
   have D1:Hid (At b (o+ix*3+1) _ W4):=⟨c1,hb⟩
   have D2:Hid (At b (o+ix*3+2) _ W4):=⟨c2,hb⟩
   have D0':Hid (At b' (o'+ix*3) _ W4):=⟨c0',hb'⟩
   have D1':Hid (At b' (o'+ix*3+1) _ W4):=⟨c1',hb'⟩
   have D2':Hid (At b' (o'+ix*3+2) _ W4):=⟨c2',hb'⟩
   have IX:Hid (∀ (w:World) (v:Value) (u:VT) (v':Value),IsV w v x→IsV w v' u→Calls Tryz.prog 20 #[v,v'] w fun e w'=>e = .returned (.bool (sameV x u))∧Ext w w'):=IH.out x (by rw[←hx];exact List.getElem_mem _)
   obtain⟨r,hr⟩:∃ r,sameV x y=r:=⟨_,rfl⟩
   have HX:=Hd hx;have HY:=Hd hy
   have LEN:Hid ((x.l.length:Int)≤9223372036854775807):=by obtain⟨kx,nx,lx⟩:=x;exact HI.out.len
   clear c0 c1 c2 c0' c1' c2' hi hj hb hb' hx hy
   cases r
   case true =>
    have HR:=Hd hr;clear hr;have b102_0:=Hd (C2_0.out.ext XX.out);have b102_1:=Hd (C2_1.out.ext XX.out);have b102_2:=Hd (C2_2.out.ext XX.out);have u102:=Hd b102_0.out.2;have b103_0:=Hd (C3_0.out.ext XX.out);have b103_1:=Hd (C3_1.out.ext XX.out);have b103_2:=Hd (C3_2.out.ext XX.out);have u103:=Hd b103_0.out.2;have q0:=(D0.out.ext XX.out).1;have q1:=(D1.out.ext XX.out).1;have q2:=(D2.out.ext XX.out).1;go_wp2_with fail
    obtain⟨v1,hv1⟩:∃ W,W=(wr.alloc (.cells #[.int .u8 (x.k:Int),.int .i64 x.n,.slice q x.l.length d] 29)):=⟨_,rfl⟩
    have y1:Ext wr v1:=by rw[hv1];exact (eR.alloc _)
    have b50_0:Hid (At (wr.heap.size) 0 (.int .u8 (x.k:Int)) v1):=by rw[hv1];exact At.ext (At.n0 (by rfl)) eR
    have b50_1:Hid (At (wr.heap.size) 1 (.int .i64 x.n) v1):=by rw[hv1];exact At.ext (At.n0 (by rfl)) eR
    have b50_2:Hid (At (wr.heap.size) 2 (.slice q x.l.length d) v1):=by rw[hv1];exact At.ext (At.n0 (by rfl)) eR
    have k50:Hid (Bx 3 (wr.heap.size) v1):=by rw[hv1];exact Bx.gr (Bx.n0 3 ⟨rfl,by decide⟩ (by decide) (by intro u hu;simp only[List.mem_cons,List.not_mem_nil,or_false]at hu;rcases hu with rfl | rfl | rfl <;> trivial)) (Ext.gr eR)
    have u50:Hid (wr.heap.size<v1.heap.size):=b50_0.out.2;have e1_:Ext W4 v1:=Ext.trans XX.out y1;rw[←hv1];clear hv1;have hkeep51:AllAt' ([(sb2,0,.int .u8 (k:Int)),(sb2,1,.int .i64 n),(sb2,2,.slice (some ⟨b,o,none⟩) l.length c),(sb3,0,.int .u8 (k:Int)),(sb3,1,.int .i64 n),(sb3,2,.slice (some ⟨b',o',none⟩) l'.length c'),(wr.heap.size,0,.int .u8 (x.k:Int)),(wr.heap.size,1,.int .i64 x.n),(wr.heap.size,2,.slice q x.l.length d)]:List (Nat × Nat × Value)) v1:=AllAt'.cons (b102_0.out.ext y1) (AllAt'.cons (b102_1.out.ext y1) (AllAt'.cons (b102_2.out.ext y1) (AllAt'.cons (b103_0.out.ext y1) (AllAt'.cons (b103_1.out.ext y1) (AllAt'.cons (b103_2.out.ext y1) (AllAt'.cons b50_0.out (AllAt'.cons b50_1.out (AllAt'.cons b50_2.out (AllAt'.nil _)))))))));have hob51:ObOk W4.heap.size v1 (([(sb2,0,.int .u8 (k:Int)),(sb2,1,.int .i64 n),(sb2,2,.slice (some ⟨b,o,none⟩) l.length c),(sb3,0,.int .u8 (k:Int)),(sb3,1,.int .i64 n),(sb3,2,.slice (some ⟨b',o',none⟩) l'.length c'),(wr.heap.size,0,.int .u8 (x.k:Int)),(wr.heap.size,1,.int .i64 x.n),(wr.heap.size,2,.slice q x.l.length d)]:List (Nat × Nat × Value)).map (·.1)) ([]:List (Nat × List (Nat × Value))):=trivial;have hne51:AllNe (([]:List (Nat × List (Nat × Value))).map (·.1)):=trivial
    (try simp only[List.append_eq,List.cons_append,List.nil_append])
    refine wp_region_gen ⟨[36,37,38,39,40,41,42,43],fun i=>false,fun i=>([none,none,none,none,none,none,none,none]:List (Option (BoxRef × Nat))).getD i none,fun i=>([Sg.val (.agg #[.int .u8 (x.k:Int),.int .i64 x.n,.slice q x.l.length d]),Sg.val (.pointer (some ⟨sb3,2,none⟩)),Sg.val (.slice (some ⟨b',o',none⟩) l'.length c'),Sg.val (.int .i64 (ix:Int)),Sg.val (.pointer (some ⟨b',o'+ix*3,none⟩)),Sg.val (.agg #[.int .u8 (y.k:Int),.int .i64 y.n,.slice q' y.l.length d']),Sg.val (.bool true),Sg.val (.bool (!true))]:List Sg).getD i Sg.any,[(sb2,0,.int .u8 (k:Int)),(sb2,1,.int .i64 n),(sb2,2,.slice (some ⟨b,o,none⟩) l.length c),(sb3,0,.int .u8 (k:Int)),(sb3,1,.int .i64 n),(sb3,2,.slice (some ⟨b',o',none⟩) l'.length c'),(wr.heap.size,0,.int .u8 (x.k:Int)),(wr.heap.size,1,.int .i64 x.n),(wr.heap.size,2,.slice q x.l.length d)],[]⟩ W4.heap.size (by kernel_rfl) (by kernel_rfl) e1_.size ?hfr hkeep51 hob51 hne51 ?hs ?he
    case hfr =>
     intro i v wk hi hst hv;exact absurd hi (by simp)
    case hs =>
     refine⟨?_,?_,?_,?_,?_,?_,?_,?_,trivial⟩
     ·refine RStep.op rfl rfl fun ac wk hp K hK=>?_;have t6_:ac.tmps[6]?.getD undef = .pointer (some ⟨wr.heap.size,0,none⟩):=hp.slot 6 rfl rfl;have c0_:=hp.cell 6 rfl;have c1_:=hp.cell 7 rfl;have c2_:=hp.cell 8 rfl;have HP:=Hd hp;clear hp;go_simp;refine hK.out _ _ ?_ eR (fun h=>absurd h (by simp));exact rfl
     ·refine RStep.op rfl rfl fun ac wk hp K hK=>?_;have t3_:ac.tmps[3]?.getD undef = .pointer (some ⟨sb3,0,none⟩):=hp.slot 3 rfl rfl;have HP:=Hd hp;clear hp;go_simp;refine hK.out _ _ ?_ eR (fun h=>absurd h (by simp));exact rfl
     ·refine RStep.op rfl rfl fun ac wk hp K hK=>?_;have u1e:=hp.g 1;have t37_:ac.tmps[37]?.getD undef = .pointer (some ⟨sb3,2,none⟩):=slot_is' u1e;have c0_:=hp.cell 5 rfl;have HP:=Hd hp;clear hp;go_simp;refine hK.out _ _ ?_ eR (fun h=>absurd h (by simp));exact rfl
     ·refine RStep.op rfl rfl fun ac wk hp K hK=>?_;have t5_:ac.tmps[5]?.getD undef = .int .i64 (ix:Int):=hp.slot 5 rfl rfl;have HP:=Hd hp;clear hp;go_simp;refine hK.out _ _ ?_ eR (fun h=>absurd h (by simp));exact rfl
     ·refine RStep.op rfl rfl fun ac wk hp K hK=>?_;have u2e:=hp.g 2;have t38_:ac.tmps[38]?.getD undef = .slice (some ⟨b',o',none⟩) l'.length c':=slot_is' u2e;have u3e:=hp.g 3;have t39_:ac.tmps[39]?.getD undef = .int .i64 (ix:Int):=slot_is' u3e;have HP:=Hd hp;clear hp;go_simp;refine hK.out _ _ ?_ eR (fun h=>absurd h (by simp));exact (by first | rfl | (apply congrArg Value.bool;simp;done) | (apply congrArg Value.bool;simp;omega) | (simp [*];done))
     ·refine RStep.op rfl rfl fun ac wk hp K hK=>?_;have u4e:=hp.g 4;have t40_:ac.tmps[40]?.getD undef = .pointer (some ⟨b',o'+ix*3,none⟩):=slot_is' u4e;have HP:=Hd hp;clear hp;have q0:=(D0'.out.ext (Ext.below e1_ HP.out.blw)).1;have q1:=(D1'.out.ext (Ext.below e1_ HP.out.blw)).1;have q2:=(D2'.out.ext (Ext.below e1_ HP.out.blw)).1;go_simp;refine hK.out _ _ ?_ eR (fun h=>absurd h (by simp));exact (by first | rfl | (apply congrArg Value.bool;simp;done) | (apply congrArg Value.bool;simp;omega) | (simp [*];done))
     ·refine RStep.op rfl rfl fun ac wk hp K hK=>?_;have u0e:=hp.g 0;have t36_:ac.tmps[36]?.getD undef = .agg #[.int .u8 (x.k:Int),.int .i64 x.n,.slice q x.l.length d]:=slot_is' u0e;have u5e:=hp.g 5;have t41_:ac.tmps[41]?.getD undef = .agg #[.int .u8 (y.k:Int),.int .i64 y.n,.slice q' y.l.length d']:=slot_is' u5e;have HP:=Hd hp;clear hp;go_simp;refine (HR.out ▸ IX.out _ _ _ _ (HI.out.ext (Ext.below e1_ HP.out.blw)) (HJ.out.ext (Ext.below e1_ HP.out.blw))).mono ?_;rintro e wk' ⟨rfl,ix⟩;refine hK.out _ _ ?_ ix (fun h=>absurd h (by simp));exact rfl
     ·refine RStep.op rfl rfl fun ac wk hp K hK=>?_;have u6e:=hp.g 6;have t42_:ac.tmps[42]?.getD undef = .bool true:=slot_is' u6e;have HP:=Hd hp;clear hp;go_simp;refine hK.out _ _ ?_ eR (fun h=>absurd h (by simp));exact rfl
    case he =>
     intro ac v2 hM;have y51_0e:=hM.post 0 rfl rfl;have y51_1e:=hM.post 1 rfl rfl;have y51_2e:=hM.post 2 rfl rfl;have y51_3e:=hM.post 3 rfl rfl;have y51_4e:=hM.post 4 rfl rfl;have y51_5e:=hM.post 5 rfl rfl;have y51_6e:=hM.post 6 rfl rfl;have y51_7e:=hM.post 7 rfl rfl;have b102_0:Hid (At (sb2) 0 (.int .u8 (k:Int)) v2):=Hd (hM.keep.at 0 rfl);have b102_1:Hid (At (sb2) 1 (.int .i64 n) v2):=Hd (hM.keep.at 1 rfl);have b102_2:Hid (At (sb2) 2 (.slice (some ⟨b,o,none⟩) l.length c) v2):=Hd (hM.keep.at 2 rfl);have b103_0:Hid (At (sb3) 0 (.int .u8 (k:Int)) v2):=Hd (hM.keep.at 3 rfl);have b103_1:Hid (At (sb3) 1 (.int .i64 n) v2):=Hd (hM.keep.at 4 rfl);have b103_2:Hid (At (sb3) 2 (.slice (some ⟨b',o',none⟩) l'.length c') v2):=Hd (hM.keep.at 5 rfl);have b50_0:Hid (At (wr.heap.size) 0 (.int .u8 (x.k:Int)) v2):=Hd (hM.keep.at 6 rfl);have b50_1:Hid (At (wr.heap.size) 1 (.int .i64 x.n) v2):=Hd (hM.keep.at 7 rfl);have b50_2:Hid (At (wr.heap.size) 2 (.slice q x.l.length d) v2):=Hd (hM.keep.at 8 rfl);have gv2:Gr v1 v2:=hM.gr;have e2_:Ext W4 v2:=Ext.below e1_ hM.blw;have z0_:sl ac 36 = .agg #[.int .u8 (x.k:Int),.int .i64 x.n,.slice q x.l.length d]:=y51_0e;have z1_:sl ac 37 = .pointer (some ⟨sb3,2,none⟩):=y51_1e;have z2_:sl ac 38 = .slice (some ⟨b',o',none⟩) l'.length c':=y51_2e;have z3_:sl ac 39 = .int .i64 (ix:Int):=y51_3e;have z4_:sl ac 40 = .pointer (some ⟨b',o'+ix*3,none⟩):=y51_4e;have z5_:sl ac 41 = .agg #[.int .u8 (y.k:Int),.int .i64 y.n,.slice q' y.l.length d']:=y51_5e;have z6_:sl ac 42 = .bool true:=y51_6e;have z7_:sl ac 43 = .bool (!true):=y51_7e;rw[hM.ag.lay]
     simp only[lay,List.foldl_cons,List.foldl_nil,List.setIfInBounds_toArray,List.set_cons_zero,List.set_cons_succ,z0_,z1_,z2_,z3_,z4_,z5_,z6_,z7_];clear hM hkeep51 hob51 hne51 z0_ z1_ z2_ z3_ z4_ z5_ z6_ z7_ y51_0e y51_1e y51_2e y51_3e y51_4e y51_5e y51_6e y51_7e;go_wp2_with fail;refine⟨⟨ix+1,by first | rfl | go_num,LI.out,e2_,?_⟩,by simp [intOf];have:=LI.out;omega⟩;intro j hj a b ha hb
     by_cases e:j<ix
     ·exact HA.out j e a b ha hb
     ·obtain rfl:j=ix:=by omega
      rw[List.getElem?_eq_getElem LI.out,HX.out]at ha;rw[List.getElem?_eq_getElem LJ.out,HY.out]at hb
      injection ha with ha
      injection hb with hb
      subst ha hb;exact HR.out
   case false =>
    have HR:=Hd hr;clear hr;have b102_0:=Hd (C2_0.out.ext XX.out);have b102_1:=Hd (C2_1.out.ext XX.out);have b102_2:=Hd (C2_2.out.ext XX.out);have u102:=Hd b102_0.out.2;have b103_0:=Hd (C3_0.out.ext XX.out);have b103_1:=Hd (C3_1.out.ext XX.out);have b103_2:=Hd (C3_2.out.ext XX.out);have u103:=Hd b103_0.out.2;have q0:=(D0.out.ext XX.out).1;have q1:=(D1.out.ext XX.out).1;have q2:=(D2.out.ext XX.out).1;go_wp2_with fail
    obtain⟨v1,hv1⟩:∃ W,W=(wr.alloc (.cells #[.int .u8 (x.k:Int),.int .i64 x.n,.slice q x.l.length d] 29)):=⟨_,rfl⟩
    have y1:Ext wr v1:=by rw[hv1];exact (eR.alloc _)
    have b50_0:Hid (At (wr.heap.size) 0 (.int .u8 (x.k:Int)) v1):=by rw[hv1];exact At.ext (At.n0 (by rfl)) eR
    have b50_1:Hid (At (wr.heap.size) 1 (.int .i64 x.n) v1):=by rw[hv1];exact At.ext (At.n0 (by rfl)) eR
    have b50_2:Hid (At (wr.heap.size) 2 (.slice q x.l.length d) v1):=by rw[hv1];exact At.ext (At.n0 (by rfl)) eR
    have k50:Hid (Bx 3 (wr.heap.size) v1):=by rw[hv1];exact Bx.gr (Bx.n0 3 ⟨rfl,by decide⟩ (by decide) (by intro u hu;simp only[List.mem_cons,List.not_mem_nil,or_false]at hu;rcases hu with rfl | rfl | rfl <;> trivial)) (Ext.gr eR)
    have u50:Hid (wr.heap.size<v1.heap.size):=b50_0.out.2;have e1_:Ext W4 v1:=Ext.trans XX.out y1;rw[←hv1];clear hv1;have hkeep51:AllAt' ([(sb2,0,.int .u8 (k:Int)),(sb2,1,.int .i64 n),(sb2,2,.slice (some ⟨b,o,none⟩) l.length c),(sb3,0,.int .u8 (k:Int)),(sb3,1,.int .i64 n),(sb3,2,.slice (some ⟨b',o',none⟩) l'.length c'),(wr.heap.size,0,.int .u8 (x.k:Int)),(wr.heap.size,1,.int .i64 x.n),(wr.heap.size,2,.slice q x.l.length d)]:List (Nat × Nat × Value)) v1:=AllAt'.cons (b102_0.out.ext y1) (AllAt'.cons (b102_1.out.ext y1) (AllAt'.cons (b102_2.out.ext y1) (AllAt'.cons (b103_0.out.ext y1) (AllAt'.cons (b103_1.out.ext y1) (AllAt'.cons (b103_2.out.ext y1) (AllAt'.cons b50_0.out (AllAt'.cons b50_1.out (AllAt'.cons b50_2.out (AllAt'.nil _)))))))));have hob51:ObOk W4.heap.size v1 (([(sb2,0,.int .u8 (k:Int)),(sb2,1,.int .i64 n),(sb2,2,.slice (some ⟨b,o,none⟩) l.length c),(sb3,0,.int .u8 (k:Int)),(sb3,1,.int .i64 n),(sb3,2,.slice (some ⟨b',o',none⟩) l'.length c'),(wr.heap.size,0,.int .u8 (x.k:Int)),(wr.heap.size,1,.int .i64 x.n),(wr.heap.size,2,.slice q x.l.length d)]:List (Nat × Nat × Value)).map (·.1)) ([]:List (Nat × List (Nat × Value))):=trivial;have hne51:AllNe (([]:List (Nat × List (Nat × Value))).map (·.1)):=trivial
    (try simp only[List.append_eq,List.cons_append,List.nil_append])
    refine wp_region_gen ⟨[36,37,38,39,40,41,42,43],fun i=>false,fun i=>([none,none,none,none,none,none,none,none]:List (Option (BoxRef × Nat))).getD i none,fun i=>([Sg.val (.agg #[.int .u8 (x.k:Int),.int .i64 x.n,.slice q x.l.length d]),Sg.val (.pointer (some ⟨sb3,2,none⟩)),Sg.val (.slice (some ⟨b',o',none⟩) l'.length c'),Sg.val (.int .i64 (ix:Int)),Sg.val (.pointer (some ⟨b',o'+ix*3,none⟩)),Sg.val (.agg #[.int .u8 (y.k:Int),.int .i64 y.n,.slice q' y.l.length d']),Sg.val (.bool false),Sg.val (.bool (!false))]:List Sg).getD i Sg.any,[(sb2,0,.int .u8 (k:Int)),(sb2,1,.int .i64 n),(sb2,2,.slice (some ⟨b,o,none⟩) l.length c),(sb3,0,.int .u8 (k:Int)),(sb3,1,.int .i64 n),(sb3,2,.slice (some ⟨b',o',none⟩) l'.length c'),(wr.heap.size,0,.int .u8 (x.k:Int)),(wr.heap.size,1,.int .i64 x.n),(wr.heap.size,2,.slice q x.l.length d)],[]⟩ W4.heap.size (by kernel_rfl) (by kernel_rfl) e1_.size ?hfr hkeep51 hob51 hne51 ?hs ?he
    case hfr =>
     intro i v wk hi hst hv;exact absurd hi (by simp)
    case hs =>
     refine⟨?_,?_,?_,?_,?_,?_,?_,?_,trivial⟩
     ·refine RStep.op rfl rfl fun ac wk hp K hK=>?_;have t6_:ac.tmps[6]?.getD undef = .pointer (some ⟨wr.heap.size,0,none⟩):=hp.slot 6 rfl rfl;have c0_:=hp.cell 6 rfl;have c1_:=hp.cell 7 rfl;have c2_:=hp.cell 8 rfl;have HP:=Hd hp;clear hp;go_simp;refine hK.out _ _ ?_ eR (fun h=>absurd h (by simp));exact rfl
     ·refine RStep.op rfl rfl fun ac wk hp K hK=>?_;have t3_:ac.tmps[3]?.getD undef = .pointer (some ⟨sb3,0,none⟩):=hp.slot 3 rfl rfl;have HP:=Hd hp;clear hp;go_simp;refine hK.out _ _ ?_ eR (fun h=>absurd h (by simp));exact rfl
     ·refine RStep.op rfl rfl fun ac wk hp K hK=>?_;have u1e:=hp.g 1;have t37_:ac.tmps[37]?.getD undef = .pointer (some ⟨sb3,2,none⟩):=slot_is' u1e;have c0_:=hp.cell 5 rfl;have HP:=Hd hp;clear hp;go_simp;refine hK.out _ _ ?_ eR (fun h=>absurd h (by simp));exact rfl
     ·refine RStep.op rfl rfl fun ac wk hp K hK=>?_;have t5_:ac.tmps[5]?.getD undef = .int .i64 (ix:Int):=hp.slot 5 rfl rfl;have HP:=Hd hp;clear hp;go_simp;refine hK.out _ _ ?_ eR (fun h=>absurd h (by simp));exact rfl
     ·refine RStep.op rfl rfl fun ac wk hp K hK=>?_;have u2e:=hp.g 2;have t38_:ac.tmps[38]?.getD undef = .slice (some ⟨b',o',none⟩) l'.length c':=slot_is' u2e;have u3e:=hp.g 3;have t39_:ac.tmps[39]?.getD undef = .int .i64 (ix:Int):=slot_is' u3e;have HP:=Hd hp;clear hp;go_simp;refine hK.out _ _ ?_ eR (fun h=>absurd h (by simp));exact (by first | rfl | (apply congrArg Value.bool;simp;done) | (apply congrArg Value.bool;simp;omega) | (simp [*];done))
     ·refine RStep.op rfl rfl fun ac wk hp K hK=>?_;have u4e:=hp.g 4;have t40_:ac.tmps[40]?.getD undef = .pointer (some ⟨b',o'+ix*3,none⟩):=slot_is' u4e;have HP:=Hd hp;clear hp;have q0:=(D0'.out.ext (Ext.below e1_ HP.out.blw)).1;have q1:=(D1'.out.ext (Ext.below e1_ HP.out.blw)).1;have q2:=(D2'.out.ext (Ext.below e1_ HP.out.blw)).1;go_simp;refine hK.out _ _ ?_ eR (fun h=>absurd h (by simp));exact (by first | rfl | (apply congrArg Value.bool;simp;done) | (apply congrArg Value.bool;simp;omega) | (simp [*];done))
     ·refine RStep.op rfl rfl fun ac wk hp K hK=>?_;have u0e:=hp.g 0;have t36_:ac.tmps[36]?.getD undef = .agg #[.int .u8 (x.k:Int),.int .i64 x.n,.slice q x.l.length d]:=slot_is' u0e;have u5e:=hp.g 5;have t41_:ac.tmps[41]?.getD undef = .agg #[.int .u8 (y.k:Int),.int .i64 y.n,.slice q' y.l.length d']:=slot_is' u5e;have HP:=Hd hp;clear hp;go_simp;refine (HR.out ▸ IX.out _ _ _ _ (HI.out.ext (Ext.below e1_ HP.out.blw)) (HJ.out.ext (Ext.below e1_ HP.out.blw))).mono ?_;rintro e wk' ⟨rfl,ix⟩;refine hK.out _ _ ?_ ix (fun h=>absurd h (by simp));exact rfl
     ·refine RStep.op rfl rfl fun ac wk hp K hK=>?_;have u6e:=hp.g 6;have t42_:ac.tmps[42]?.getD undef = .bool false:=slot_is' u6e;have HP:=Hd hp;clear hp;go_simp;refine hK.out _ _ ?_ eR (fun h=>absurd h (by simp));exact rfl
    case he =>
     intro ac v2 hM;have y51_0e:=hM.post 0 rfl rfl;have y51_1e:=hM.post 1 rfl rfl;have y51_2e:=hM.post 2 rfl rfl;have y51_3e:=hM.post 3 rfl rfl;have y51_4e:=hM.post 4 rfl rfl;have y51_5e:=hM.post 5 rfl rfl;have y51_6e:=hM.post 6 rfl rfl;have y51_7e:=hM.post 7 rfl rfl;have b102_0:Hid (At (sb2) 0 (.int .u8 (k:Int)) v2):=Hd (hM.keep.at 0 rfl);have b102_1:Hid (At (sb2) 1 (.int .i64 n) v2):=Hd (hM.keep.at 1 rfl);have b102_2:Hid (At (sb2) 2 (.slice (some ⟨b,o,none⟩) l.length c) v2):=Hd (hM.keep.at 2 rfl);have b103_0:Hid (At (sb3) 0 (.int .u8 (k:Int)) v2):=Hd (hM.keep.at 3 rfl);have b103_1:Hid (At (sb3) 1 (.int .i64 n) v2):=Hd (hM.keep.at 4 rfl);have b103_2:Hid (At (sb3) 2 (.slice (some ⟨b',o',none⟩) l'.length c') v2):=Hd (hM.keep.at 5 rfl);have b50_0:Hid (At (wr.heap.size) 0 (.int .u8 (x.k:Int)) v2):=Hd (hM.keep.at 6 rfl);have b50_1:Hid (At (wr.heap.size) 1 (.int .i64 x.n) v2):=Hd (hM.keep.at 7 rfl);have b50_2:Hid (At (wr.heap.size) 2 (.slice q x.l.length d) v2):=Hd (hM.keep.at 8 rfl);have gv2:Gr v1 v2:=hM.gr;have e2_:Ext W4 v2:=Ext.below e1_ hM.blw;have z0_:sl ac 36 = .agg #[.int .u8 (x.k:Int),.int .i64 x.n,.slice q x.l.length d]:=y51_0e;have z1_:sl ac 37 = .pointer (some ⟨sb3,2,none⟩):=y51_1e;have z2_:sl ac 38 = .slice (some ⟨b',o',none⟩) l'.length c':=y51_2e;have z3_:sl ac 39 = .int .i64 (ix:Int):=y51_3e;have z4_:sl ac 40 = .pointer (some ⟨b',o'+ix*3,none⟩):=y51_4e;have z5_:sl ac 41 = .agg #[.int .u8 (y.k:Int),.int .i64 y.n,.slice q' y.l.length d']:=y51_5e;have z6_:sl ac 42 = .bool false:=y51_6e;have z7_:sl ac 43 = .bool (!false):=y51_7e;rw[hM.ag.lay]
     simp only[lay,List.foldl_cons,List.foldl_nil,List.setIfInBounds_toArray,List.set_cons_zero,List.set_cons_succ,z0_,z1_,z2_,z3_,z4_,z5_,z6_,z7_];clear hM hkeep51 hob51 hne51 z0_ z1_ z2_ z3_ z4_ z5_ z6_ z7_ y51_0e y51_1e y51_2e y51_3e y51_4e y51_5e y51_6e y51_7e;go_wp2_with fail;go_ret;exact⟨ret_eq (congrArg Value.bool (by rw[HV.out,sameVs_at LI.out LJ.out HA.out (by rw[HX.out,HY.out,HR.out])])),EW.out.trans e2_⟩
  ·have t3:(l.length:Int)≤(ix:Int):=by omega
   have HE:Hid (sameVs l l'=true):=sameVs_end HL.out fun j hj=>HA.out j (by omega)
   clear hi him;have b102_0:=Hd (C2_0.out.ext XX.out);have b102_1:=Hd (C2_1.out.ext XX.out);have b102_2:=Hd (C2_2.out.ext XX.out);have u102:=Hd b102_0.out.2;have b103_0:=Hd (C3_0.out.ext XX.out);have b103_1:=Hd (C3_1.out.ext XX.out);have b103_2:=Hd (C3_2.out.ext XX.out);have u103:=Hd b103_0.out.2;go_wp2_with fail;go_ret;exact⟨ret_eq (congrArg Value.bool (by rw[HV.out,HE.out])),EW.out.trans XX.out⟩
theorem vsame_calls:∀ (t:VT) (w:World) (v:Value) (u:VT) (v':Value),IsV w v t→IsV w v' u→Calls Tryz.prog 20 #[v,v'] w fun e w'=>e = .returned (.bool (sameV t u))∧Ext w w':=by
 refine VT.ind1 ?_;intro k n l ih w v u v' h h';obtain⟨k',n',l'⟩:=u;obtain⟨p,c,rfl⟩:=h.shape;obtain⟨p',c',rfl⟩:=h'.shape
 by_cases hk:k=k'
 ·have hk:k=k':=hk;subst hk
  by_cases hn:n=n'
  ·have hn:n=n':=hn;subst hn
   by_cases hl:l.length=l'.length
   ·exact vsame_items k n l l' p p' c c' w h h' hl ih
   ·exact vsame_len k n l l' p p' c c' w h h' hl
  ·exact vsame_num k n n' l l' p p' c c' w h h' hn
 ·exact vsame_kind k k' n n' l l' p p' c c' w h h' hk
set_option maxHeartbeats 2000000 in
set_option maxRecDepth 100000 in
theorem rvsame_kind (k k':Nat) (n n':Int) (l l':List VT) (p p':Option Addr) (c c':Nat) (w:World) (h:IsV w (.agg #[.int .u8 (k:Int),.int .i64 n,.slice p l.length c]) (.mk k n l)) (h':IsV w (.agg #[.int .u8 (k':Int),.int .i64 n',.slice p' l'.length c']) (.mk k' n' l')) (hk:k≠k') :
  Calls Tryz.prog 23 #[.agg #[.int .u8 (k:Int),.int .i64 n,.slice p l.length c],.agg #[.int .u8 (k':Int),.int .i64 n',.slice p' l'.length c']] w fun e w'=>e = .returned (.bool (sameV (.mk k n l) (.mk k' n' l')))∧Ext w w':=by
 have HV:Hid (sameV (.mk k n l) (.mk k' n' l')=false):=by show _=_;unfold sameV;simp [hk]
 have hk1:((k:Int) != (k':Int))=true:=by rw[bne_iff_ne];omega
 clear hk h h'
 go_enter Tryz.func23,Tryz.ntmps23
 go_wp2_with fail
 obtain⟨v1,hv1⟩:∃ W,W=((w.alloc (.cells #[.int .u8 (k:Int),.int .i64 n,.slice p l.length c] 29)).alloc (.cells #[.int .u8 (k':Int),.int .i64 n',.slice p' l'.length c'] 29)):=⟨_,rfl⟩
 have y1:Ext w v1:=by rw[hv1];exact ((eR.alloc _).alloc _)
 have b0_0:Hid (At (w.heap.size) 0 (.int .u8 (k:Int)) v1):=by rw[hv1];exact At.ext (At.n0 (by rfl)) (eR.alloc _)
 have b0_1:Hid (At (w.heap.size) 1 (.int .i64 n) v1):=by rw[hv1];exact At.ext (At.n0 (by rfl)) (eR.alloc _)
 have b0_2:Hid (At (w.heap.size) 2 (.slice p l.length c) v1):=by rw[hv1];exact At.ext (At.n0 (by rfl)) (eR.alloc _)
 have k0:Hid (Bx 3 (w.heap.size) v1):=by rw[hv1];exact Bx.gr (Bx.n0 3 ⟨rfl,by decide⟩ (by decide) (by intro u hu;simp only[List.mem_cons,List.not_mem_nil,or_false]at hu;rcases hu with rfl | rfl | rfl <;> trivial)) (Ext.gr (eR.alloc _))
 have u0:Hid (w.heap.size<v1.heap.size):=b0_0.out.2
 have b1_0:Hid (At (w.heap.size+1) 0 (.int .u8 (k':Int)) v1):=by rw[hv1];exact At.ext (At.n1 (by rfl)) eR
 have b1_1:Hid (At (w.heap.size+1) 1 (.int .i64 n') v1):=by rw[hv1];exact At.ext (At.n1 (by rfl)) eR
 have b1_2:Hid (At (w.heap.size+1) 2 (.slice p' l'.length c') v1):=by rw[hv1];exact At.ext (At.n1 (by rfl)) eR
 have k1:Hid (Bx 3 (w.heap.size+1) v1):=by rw[hv1];exact Bx.gr (Bx.n1 3 ⟨rfl,by decide⟩ (by decide) (by intro u hu;simp only[List.mem_cons,List.not_mem_nil,or_false]at hu;rcases hu with rfl | rfl | rfl <;> trivial)) (Ext.gr eR)
 have u1:Hid (w.heap.size+1<v1.heap.size):=b1_0.out.2;have e1_:Ext w v1:=y1;rw[←hv1];clear hv1;go_ret;exact⟨ret_eq (congrArg Value.bool HV.out.symm),e1_⟩
set_option maxHeartbeats 2000000 in
set_option maxRecDepth 100000 in
theorem rvsame_num (k:Nat) (n n':Int) (l l':List VT) (p p':Option Addr) (c c':Nat) (w:World) (h:IsV w (.agg #[.int .u8 (k:Int),.int .i64 n,.slice p l.length c]) (.mk k n l)) (h':IsV w (.agg #[.int .u8 (k:Int),.int .i64 n',.slice p' l'.length c']) (.mk k n' l')) (hk:n≠n') :
  Calls Tryz.prog 23 #[.agg #[.int .u8 (k:Int),.int .i64 n,.slice p l.length c],.agg #[.int .u8 (k:Int),.int .i64 n',.slice p' l'.length c']] w fun e w'=>e = .returned (.bool (sameV (.mk k n l) (.mk k n' l')))∧Ext w w':=by
 have HV:Hid (sameV (.mk k n l) (.mk k n' l')=false):=by show _=_;unfold sameV;simp [hk]
 have hk1:(n != n')=true:=by rw[bne_iff_ne];exact hk
 clear hk h h'
 go_enter Tryz.func23,Tryz.ntmps23
 go_wp2_with fail
 obtain⟨v1,hv1⟩:∃ W,W=((w.alloc (.cells #[.int .u8 (k:Int),.int .i64 n,.slice p l.length c] 29)).alloc (.cells #[.int .u8 (k:Int),.int .i64 n',.slice p' l'.length c'] 29)):=⟨_,rfl⟩
 have y1:Ext w v1:=by rw[hv1];exact ((eR.alloc _).alloc _)
 have b0_0:Hid (At (w.heap.size) 0 (.int .u8 (k:Int)) v1):=by rw[hv1];exact At.ext (At.n0 (by rfl)) (eR.alloc _)
 have b0_1:Hid (At (w.heap.size) 1 (.int .i64 n) v1):=by rw[hv1];exact At.ext (At.n0 (by rfl)) (eR.alloc _)
 have b0_2:Hid (At (w.heap.size) 2 (.slice p l.length c) v1):=by rw[hv1];exact At.ext (At.n0 (by rfl)) (eR.alloc _)
 have k0:Hid (Bx 3 (w.heap.size) v1):=by rw[hv1];exact Bx.gr (Bx.n0 3 ⟨rfl,by decide⟩ (by decide) (by intro u hu;simp only[List.mem_cons,List.not_mem_nil,or_false]at hu;rcases hu with rfl | rfl | rfl <;> trivial)) (Ext.gr (eR.alloc _))
 have u0:Hid (w.heap.size<v1.heap.size):=b0_0.out.2
 have b1_0:Hid (At (w.heap.size+1) 0 (.int .u8 (k:Int)) v1):=by rw[hv1];exact At.ext (At.n1 (by rfl)) eR
 have b1_1:Hid (At (w.heap.size+1) 1 (.int .i64 n') v1):=by rw[hv1];exact At.ext (At.n1 (by rfl)) eR
 have b1_2:Hid (At (w.heap.size+1) 2 (.slice p' l'.length c') v1):=by rw[hv1];exact At.ext (At.n1 (by rfl)) eR
 have k1:Hid (Bx 3 (w.heap.size+1) v1):=by rw[hv1];exact Bx.gr (Bx.n1 3 ⟨rfl,by decide⟩ (by decide) (by intro u hu;simp only[List.mem_cons,List.not_mem_nil,or_false]at hu;rcases hu with rfl | rfl | rfl <;> trivial)) (Ext.gr eR)
 have u1:Hid (w.heap.size+1<v1.heap.size):=b1_0.out.2;have e1_:Ext w v1:=y1;rw[←hv1];clear hv1;go_ret;exact⟨ret_eq (congrArg Value.bool HV.out.symm),e1_⟩
set_option maxHeartbeats 2000000 in
set_option maxRecDepth 100000 in
theorem rvsame_len (k:Nat) (n:Int) (l l':List VT) (p p':Option Addr) (c c':Nat) (w:World) (h:IsV w (.agg #[.int .u8 (k:Int),.int .i64 n,.slice p l.length c]) (.mk k n l)) (h':IsV w (.agg #[.int .u8 (k:Int),.int .i64 n,.slice p' l'.length c']) (.mk k n l')) (hk:l.length≠l'.length) :
  Calls Tryz.prog 23 #[.agg #[.int .u8 (k:Int),.int .i64 n,.slice p l.length c],.agg #[.int .u8 (k:Int),.int .i64 n,.slice p' l'.length c']] w fun e w'=>e = .returned (.bool (sameV (.mk k n l) (.mk k n l')))∧Ext w w':=by
 have HV:Hid (sameV (.mk k n l) (.mk k n l')=false):=by show _=_;unfold sameV;simp [sameVs_len hk]
 have hk1:((l.length:Int) != (l'.length:Int))=true:=by rw[bne_iff_ne];omega
 clear hk h h'
 go_enter Tryz.func23,Tryz.ntmps23
 go_wp2_with fail
 obtain⟨v1,hv1⟩:∃ W,W=((w.alloc (.cells #[.int .u8 (k:Int),.int .i64 n,.slice p l.length c] 29)).alloc (.cells #[.int .u8 (k:Int),.int .i64 n,.slice p' l'.length c'] 29)):=⟨_,rfl⟩
 have y1:Ext w v1:=by rw[hv1];exact ((eR.alloc _).alloc _)
 have b0_0:Hid (At (w.heap.size) 0 (.int .u8 (k:Int)) v1):=by rw[hv1];exact At.ext (At.n0 (by rfl)) (eR.alloc _)
 have b0_1:Hid (At (w.heap.size) 1 (.int .i64 n) v1):=by rw[hv1];exact At.ext (At.n0 (by rfl)) (eR.alloc _)
 have b0_2:Hid (At (w.heap.size) 2 (.slice p l.length c) v1):=by rw[hv1];exact At.ext (At.n0 (by rfl)) (eR.alloc _)
 have k0:Hid (Bx 3 (w.heap.size) v1):=by rw[hv1];exact Bx.gr (Bx.n0 3 ⟨rfl,by decide⟩ (by decide) (by intro u hu;simp only[List.mem_cons,List.not_mem_nil,or_false]at hu;rcases hu with rfl | rfl | rfl <;> trivial)) (Ext.gr (eR.alloc _))
 have u0:Hid (w.heap.size<v1.heap.size):=b0_0.out.2
 have b1_0:Hid (At (w.heap.size+1) 0 (.int .u8 (k:Int)) v1):=by rw[hv1];exact At.ext (At.n1 (by rfl)) eR
 have b1_1:Hid (At (w.heap.size+1) 1 (.int .i64 n) v1):=by rw[hv1];exact At.ext (At.n1 (by rfl)) eR
 have b1_2:Hid (At (w.heap.size+1) 2 (.slice p' l'.length c') v1):=by rw[hv1];exact At.ext (At.n1 (by rfl)) eR
 have k1:Hid (Bx 3 (w.heap.size+1) v1):=by rw[hv1];exact Bx.gr (Bx.n1 3 ⟨rfl,by decide⟩ (by decide) (by intro u hu;simp only[List.mem_cons,List.not_mem_nil,or_false]at hu;rcases hu with rfl | rfl | rfl <;> trivial)) (Ext.gr eR)
 have u1:Hid (w.heap.size+1<v1.heap.size):=b1_0.out.2;have e1_:Ext w v1:=y1;rw[←hv1];clear hv1;go_ret;exact⟨ret_eq (congrArg Value.bool HV.out.symm),e1_⟩
set_option maxHeartbeats 2000000 in
set_option maxRecDepth 100000 in
theorem rvsame_items (k:Nat) (n:Int) (l l':List VT) (p p':Option Addr) (c c':Nat) (w:World) (h:IsV w (.agg #[.int .u8 (k:Int),.int .i64 n,.slice p l.length c]) (.mk k n l)) (h':IsV w (.agg #[.int .u8 (k:Int),.int .i64 n,.slice p' l'.length c']) (.mk k n l')) (hl:l.length=l'.length) (ih:∀ x∈l,∀ (w:World) (v:Value) (u:VT) (v':Value),IsV w v x→IsV w v' u→Calls Tryz.prog 23 #[v,v'] w fun e w'=>e = .returned (.bool (sameV x u))∧Ext w w') :
  Calls Tryz.prog 23 #[.agg #[.int .u8 (k:Int),.int .i64 n,.slice p l.length c],.agg #[.int .u8 (k:Int),.int .i64 n,.slice p' l'.length c']] w fun e w'=>e = .returned (.bool (sameV (.mk k n l) (.mk k n l')))∧Ext w w':=by
 have HV:Hid (sameV (.mk k n l) (.mk k n l')=sameVs l l'):=by show _=_;unfold sameV;simp
 have IH:=Hd ih;have HW:=Hd h;have HW':=Hd h';have l1:=h.len
 have hk1:((l.length:Int) != (l'.length:Int))=false:=by rw[bne_eq_false_iff_eq];omega
 have HL:=Hd hl;clear hl ih h h'
 go_enter Tryz.func23,Tryz.ntmps23
 go_wp2_with fail
 obtain⟨v1,hv1⟩:∃ W,W=((w.alloc (.cells #[.int .u8 (k:Int),.int .i64 n,.slice p l.length c] 29)).alloc (.cells #[.int .u8 (k:Int),.int .i64 n,.slice p' l'.length c'] 29)):=⟨_,rfl⟩
 have y1:Ext w v1:=by rw[hv1];exact ((eR.alloc _).alloc _)
 have b0_0:Hid (At (w.heap.size) 0 (.int .u8 (k:Int)) v1):=by rw[hv1];exact At.ext (At.n0 (by rfl)) (eR.alloc _)
 have b0_1:Hid (At (w.heap.size) 1 (.int .i64 n) v1):=by rw[hv1];exact At.ext (At.n0 (by rfl)) (eR.alloc _)
 have b0_2:Hid (At (w.heap.size) 2 (.slice p l.length c) v1):=by rw[hv1];exact At.ext (At.n0 (by rfl)) (eR.alloc _)
 have k0:Hid (Bx 3 (w.heap.size) v1):=by rw[hv1];exact Bx.gr (Bx.n0 3 ⟨rfl,by decide⟩ (by decide) (by intro u hu;simp only[List.mem_cons,List.not_mem_nil,or_false]at hu;rcases hu with rfl | rfl | rfl <;> trivial)) (Ext.gr (eR.alloc _))
 have u0:Hid (w.heap.size<v1.heap.size):=b0_0.out.2
 have b1_0:Hid (At (w.heap.size+1) 0 (.int .u8 (k:Int)) v1):=by rw[hv1];exact At.ext (At.n1 (by rfl)) eR
 have b1_1:Hid (At (w.heap.size+1) 1 (.int .i64 n) v1):=by rw[hv1];exact At.ext (At.n1 (by rfl)) eR
 have b1_2:Hid (At (w.heap.size+1) 2 (.slice p' l'.length c') v1):=by rw[hv1];exact At.ext (At.n1 (by rfl)) eR
 have k1:Hid (Bx 3 (w.heap.size+1) v1):=by rw[hv1];exact Bx.gr (Bx.n1 3 ⟨rfl,by decide⟩ (by decide) (by intro u hu;simp only[List.mem_cons,List.not_mem_nil,or_false]at hu;rcases hu with rfl | rfl | rfl <;> trivial)) (Ext.gr eR)
 have u1:Hid (w.heap.size+1<v1.heap.size):=b1_0.out.2;have e1_:Ext w v1:=y1;rw[←hv1];clear hv1;have C2_0:=Hd b0_0.out;have C2_1:=Hd b0_1.out;have C2_2:=Hd b0_2.out;have C3_0:=Hd b1_0.out;have C3_1:=Hd b1_1.out;have C3_2:=Hd b1_2.out;have EW:Hid (Ext w v1):=e1_
 obtain⟨W4,rfl⟩:∃ W,W=v1:=⟨_,rfl⟩
 obtain⟨sb3,hsb3⟩:∃ s,w.heap.size+1=s:=⟨_,rfl⟩
 rw[hsb3]at C3_0 C3_1 C3_2
 (try rw[hsb3])
 obtain⟨sb2,hsb2⟩:∃ s,w.heap.size=s:=⟨_,rfl⟩
 rw[hsb2]at C2_0 C2_1 C2_2
 (try rw[hsb2])
 clear hsb2 hsb3;have H:=Hd (HW.out.ext EW.out);have H':=Hd (HW'.out.ext EW.out);clear HW HW'
 go_loopw [5] (fun v5 wr => ∃ ix:Nat,v5 = .int .i64 (ix:Int)∧ix≤l.length∧Ext W4 wr∧Hid (∀ j,j<ix → ∀ a b,l[j]? = some a→l'[j]? = some b→sameV a b=true)) (fun v5 _=>l.length - (intOf v5).toNat)
 case atStart=>exact⟨0,rfl,Nat.zero_le _,Ext.refl _,fun j hj=>absurd hj (Nat.not_lt_zero _)⟩
 case round =>
  obtain⟨ix,rfl,hi,hx,HA⟩:=hrel;have XX:=Hd hx;clear hx
  by_cases him:ix<l.length
  ·have LI:=Hd him
   have LJ:Hid (ix<l'.length):=by show _<_;rw[←HL.out];exact him
   have ti:(ix:Int)+1≤(l.length:Int):=by omega
   have tj:(ix:Int)+1≤(l'.length:Int):=by have:=LJ.out;omega
   have tn':=LJ.out;clear hi;obtain⟨b,o,q,d,rfl,hb,c0,c1,c2,hi⟩:=H.out.item rfl LI.out;obtain⟨b',o',q',d',rfl,hb',c0',c1',c2',hj⟩:=H'.out.item rfl LJ.out
   obtain⟨x,hx⟩:∃ x,l[ix]'LI.out=x:=⟨_,rfl⟩
   obtain⟨y,hy⟩:∃ y,l'[ix]'LJ.out=y:=⟨_,rfl⟩
   simp only[hx,hy]at c0 c1 c2 c0' c1' c2' hi hj;have HI:=Hd hi;have HJ:=Hd hj
   have D0:Hid (At b (o+ix*3) _ W4):=⟨c0,hb⟩
   have D1:Hid (At b (o+ix*3+1) _ W4):=⟨c1,hb⟩
   have D2:Hid (At b (o+ix*3+2) _ W4):=⟨c2,hb⟩
   have D0':Hid (At b' (o'+ix*3) _ W4):=⟨c0',hb'⟩
   have D1':Hid (At b' (o'+ix*3+1) _ W4):=⟨c1',hb'⟩
   have D2':Hid (At b' (o'+ix*3+2) _ W4):=⟨c2',hb'⟩
   have IX:Hid (∀ (w:World) (v:Value) (u:VT) (v':Value),IsV w v x→IsV w v' u→Calls Tryz.prog 23 #[v,v'] w fun e w'=>e = .returned (.bool (sameV x u))∧Ext w w'):=IH.out x (by rw[←hx];exact List.getElem_mem _)
   obtain⟨r,hr⟩:∃ r,sameV x y=r:=⟨_,rfl⟩
   have HX:=Hd hx;have HY:=Hd hy
   have LEN:Hid ((x.l.length:Int)≤9223372036854775807):=by obtain⟨kx,nx,lx⟩:=x;exact HI.out.len
   clear c0 c1 c2 c0' c1' c2' hi hj hb hb' hx hy
   cases r
   case true =>
    have HR:=Hd hr;clear hr;have b102_0:=Hd (C2_0.out.ext XX.out);have b102_1:=Hd (C2_1.out.ext XX.out);have b102_2:=Hd (C2_2.out.ext XX.out);have u102:=Hd b102_0.out.2;have b103_0:=Hd (C3_0.out.ext XX.out);have b103_1:=Hd (C3_1.out.ext XX.out);have b103_2:=Hd (C3_2.out.ext XX.out);have u103:=Hd b103_0.out.2;have g102_2:=b102_2.out.1;have f102:sb2<wr.heap.size:=b102_0.out.2;go_wp2_with fail;have hkeep51:AllAt' ([(sb2,0,.int .u8 (k:Int)),(sb2,1,.int .i64 n),(sb2,2,.slice (some ⟨b,o,none⟩) l.length c),(sb3,0,.int .u8 (k:Int)),(sb3,1,.int .i64 n),(sb3,2,.slice (some ⟨b',o',none⟩) l'.length c')]:List (Nat × Nat × Value)) wr:=AllAt'.cons b102_0.out (AllAt'.cons b102_1.out (AllAt'.cons b102_2.out (AllAt'.cons b103_0.out (AllAt'.cons b103_1.out (AllAt'.cons b103_2.out (AllAt'.nil _))))));have hob51:ObOk W4.heap.size wr (([(sb2,0,.int .u8 (k:Int)),(sb2,1,.int .i64 n),(sb2,2,.slice (some ⟨b,o,none⟩) l.length c),(sb3,0,.int .u8 (k:Int)),(sb3,1,.int .i64 n),(sb3,2,.slice (some ⟨b',o',none⟩) l'.length c')]:List (Nat × Nat × Value)).map (·.1)) ([]:List (Nat × List (Nat × Value))):=trivial;have hne51:AllNe (([]:List (Nat × List (Nat × Value))).map (·.1)):=trivial
    (try simp only[List.append_eq,List.cons_append,List.nil_append])
    refine wp_region_gen ⟨[34,35,36,37,38,39,40,41,42,43,44,45],fun i=>false,fun i=>([none,none,none,none,none,none,none,none,none,none,none,none]:List (Option (BoxRef × Nat))).getD i none,fun i=>([Sg.val (.pointer (some ⟨sb2,2,none⟩)),Sg.val (.slice (some ⟨b,o,none⟩) l.length c),Sg.val (.int .i64 (ix:Int)),Sg.val (.pointer (some ⟨b,o+ix*3,none⟩)),Sg.val (.agg #[.int .u8 (x.k:Int),.int .i64 x.n,.slice q x.l.length d]),Sg.val (.pointer (some ⟨sb3,2,none⟩)),Sg.val (.slice (some ⟨b',o',none⟩) l'.length c'),Sg.val (.int .i64 (ix:Int)),Sg.val (.pointer (some ⟨b',o'+ix*3,none⟩)),Sg.val (.agg #[.int .u8 (y.k:Int),.int .i64 y.n,.slice q' y.l.length d']),Sg.val (.bool true),Sg.val (.bool (!true))]:List Sg).getD i Sg.any,[(sb2,0,.int .u8 (k:Int)),(sb2,1,.int .i64 n),(sb2,2,.slice (some ⟨b,o,none⟩) l.length c),(sb3,0,.int .u8 (k:Int)),(sb3,1,.int .i64 n),(sb3,2,.slice (some ⟨b',o',none⟩) l'.length c')],[]⟩ W4.heap.size (by kernel_rfl) (by kernel_rfl) XX.out.size ?hfr hkeep51 hob51 hne51 ?hs ?he
    case hfr =>
     intro i v wk hi hst hv;exact absurd hi (by simp)
    case hs =>
     refine⟨?_,?_,?_,?_,?_,?_,?_,?_,?_,?_,?_,?_,trivial⟩
     ·refine RStep.op rfl rfl fun ac wk hp K hK=>?_;have t2_:ac.tmps[2]?.getD undef = .pointer (some ⟨sb2,0,none⟩):=hp.slot 2 rfl rfl;have HP:=Hd hp;clear hp;go_simp;refine hK.out _ _ ?_ eR (fun h=>absurd h (by simp));exact rfl
     ·refine RStep.op rfl rfl fun ac wk hp K hK=>?_;have u0e:=hp.g 0;have t34_:ac.tmps[34]?.getD undef = .pointer (some ⟨sb2,2,none⟩):=slot_is' u0e;have c0_:=hp.cell 2 rfl;have HP:=Hd hp;clear hp;go_simp;refine hK.out _ _ ?_ eR (fun h=>absurd h (by simp));exact rfl
     ·refine RStep.op rfl rfl fun ac wk hp K hK=>?_;have t5_:ac.tmps[5]?.getD undef = .int .i64 (ix:Int):=hp.slot 5 rfl rfl;have HP:=Hd hp;clear hp;go_simp;refine hK.out _ _ ?_ eR (fun h=>absurd h (by simp));exact rfl
     ·refine RStep.op rfl rfl fun ac wk hp K hK=>?_;have u1e:=hp.g 1;have t35_:ac.tmps[35]?.getD undef = .slice (some ⟨b,o,none⟩) l.length c:=slot_is' u1e;have u2e:=hp.g 2;have t36_:ac.tmps[36]?.getD undef = .int .i64 (ix:Int):=slot_is' u2e;have HP:=Hd hp;clear hp;go_simp;refine hK.out _ _ ?_ eR (fun h=>absurd h (by simp));exact (by first | rfl | (apply congrArg Value.bool;simp;done) | (apply congrArg Value.bool;simp;omega) | (simp [*];done))
     ·refine RStep.op rfl rfl fun ac wk hp K hK=>?_;have u3e:=hp.g 3;have t37_:ac.tmps[37]?.getD undef = .pointer (some ⟨b,o+ix*3,none⟩):=slot_is' u3e;have HP:=Hd hp;clear hp;have q0:=(D0.out.ext (Ext.below XX.out HP.out.blw)).1;have q1:=(D1.out.ext (Ext.below XX.out HP.out.blw)).1;have q2:=(D2.out.ext (Ext.below XX.out HP.out.blw)).1;go_simp;refine hK.out _ _ ?_ eR (fun h=>absurd h (by simp));exact (by first | rfl | (apply congrArg Value.bool;simp;done) | (apply congrArg Value.bool;simp;omega) | (simp [*];done))
     ·refine RStep.op rfl rfl fun ac wk hp K hK=>?_;have t3_:ac.tmps[3]?.getD undef = .pointer (some ⟨sb3,0,none⟩):=hp.slot 3 rfl rfl;have HP:=Hd hp;clear hp;go_simp;refine hK.out _ _ ?_ eR (fun h=>absurd h (by simp));exact rfl
     ·refine RStep.op rfl rfl fun ac wk hp K hK=>?_;have u5e:=hp.g 5;have t39_:ac.tmps[39]?.getD undef = .pointer (some ⟨sb3,2,none⟩):=slot_is' u5e;have c0_:=hp.cell 5 rfl;have HP:=Hd hp;clear hp;go_simp;refine hK.out _ _ ?_ eR (fun h=>absurd h (by simp));exact rfl
     ·refine RStep.op rfl rfl fun ac wk hp K hK=>?_;have t5_:ac.tmps[5]?.getD undef = .int .i64 (ix:Int):=hp.slot 5 rfl rfl;have HP:=Hd hp;clear hp;go_simp;refine hK.out _ _ ?_ eR (fun h=>absurd h (by simp));exact rfl
     ·refine RStep.op rfl rfl fun ac wk hp K hK=>?_;have u6e:=hp.g 6;have t40_:ac.tmps[40]?.getD undef = .slice (some ⟨b',o',none⟩) l'.length c':=slot_is' u6e;have u7e:=hp.g 7;have t41_:ac.tmps[41]?.getD undef = .int .i64 (ix:Int):=slot_is' u7e;have HP:=Hd hp;clear hp;go_simp;refine hK.out _ _ ?_ eR (fun h=>absurd h (by simp));exact (by first | rfl | (apply congrArg Value.bool;simp;done) | (apply congrArg Value.bool;simp;omega) | (simp [*];done))
     ·refine RStep.op rfl rfl fun ac wk hp K hK=>?_;have u8e:=hp.g 8;have t42_:ac.tmps[42]?.getD undef = .pointer (some ⟨b',o'+ix*3,none⟩):=slot_is' u8e;have HP:=Hd hp;clear hp;have q0:=(D0'.out.ext (Ext.below XX.out HP.out.blw)).1;have q1:=(D1'.out.ext (Ext.below XX.out HP.out.blw)).1;have q2:=(D2'.out.ext (Ext.below XX.out HP.out.blw)).1;go_simp;refine hK.out _ _ ?_ eR (fun h=>absurd h (by simp));exact (by first | rfl | (apply congrArg Value.bool;simp;done) | (apply congrArg Value.bool;simp;omega) | (simp [*];done))
     ·refine RStep.op rfl rfl fun ac wk hp K hK=>?_;have u4e:=hp.g 4;have t38_:ac.tmps[38]?.getD undef = .agg #[.int .u8 (x.k:Int),.int .i64 x.n,.slice q x.l.length d]:=slot_is' u4e;have u9e:=hp.g 9;have t43_:ac.tmps[43]?.getD undef = .agg #[.int .u8 (y.k:Int),.int .i64 y.n,.slice q' y.l.length d']:=slot_is' u9e;have HP:=Hd hp;clear hp;go_simp;refine (HR.out ▸ IX.out _ _ _ _ (HI.out.ext (Ext.below XX.out HP.out.blw)) (HJ.out.ext (Ext.below XX.out HP.out.blw))).mono ?_;rintro e wk' ⟨rfl,ix⟩;refine hK.out _ _ ?_ ix (fun h=>absurd h (by simp));exact rfl
     ·refine RStep.op rfl rfl fun ac wk hp K hK=>?_;have u10e:=hp.g 10;have t44_:ac.tmps[44]?.getD undef = .bool true:=slot_is' u10e;have HP:=Hd hp;clear hp;go_simp;refine hK.out _ _ ?_ eR (fun h=>absurd h (by simp));exact rfl
    case he =>
     intro ac v1 hM;have y51_0e:=hM.post 0 rfl rfl;have y51_1e:=hM.post 1 rfl rfl;have y51_2e:=hM.post 2 rfl rfl;have y51_3e:=hM.post 3 rfl rfl;have y51_4e:=hM.post 4 rfl rfl;have y51_5e:=hM.post 5 rfl rfl;have y51_6e:=hM.post 6 rfl rfl;have y51_7e:=hM.post 7 rfl rfl;have y51_8e:=hM.post 8 rfl rfl;have y51_9e:=hM.post 9 rfl rfl;have y51_10e:=hM.post 10 rfl rfl;have y51_11e:=hM.post 11 rfl rfl;have b102_0:Hid (At (sb2) 0 (.int .u8 (k:Int)) v1):=Hd (hM.keep.at 0 rfl);have b102_1:Hid (At (sb2) 1 (.int .i64 n) v1):=Hd (hM.keep.at 1 rfl);have b102_2:Hid (At (sb2) 2 (.slice (some ⟨b,o,none⟩) l.length c) v1):=Hd (hM.keep.at 2 rfl);have b103_0:Hid (At (sb3) 0 (.int .u8 (k:Int)) v1):=Hd (hM.keep.at 3 rfl);have b103_1:Hid (At (sb3) 1 (.int .i64 n) v1):=Hd (hM.keep.at 4 rfl);have b103_2:Hid (At (sb3) 2 (.slice (some ⟨b',o',none⟩) l'.length c') v1):=Hd (hM.keep.at 5 rfl);have gv1:Gr wr v1:=hM.gr;have e1_:Ext W4 v1:=Ext.below XX.out hM.blw;have z0_:sl ac 34 = .pointer (some ⟨sb2,2,none⟩):=y51_0e;have z1_:sl ac 35 = .slice (some ⟨b,o,none⟩) l.length c:=y51_1e;have z2_:sl ac 36 = .int .i64 (ix:Int):=y51_2e;have z3_:sl ac 37 = .pointer (some ⟨b,o+ix*3,none⟩):=y51_3e;have z4_:sl ac 38 = .agg #[.int .u8 (x.k:Int),.int .i64 x.n,.slice q x.l.length d]:=y51_4e;have z5_:sl ac 39 = .pointer (some ⟨sb3,2,none⟩):=y51_5e;have z6_:sl ac 40 = .slice (some ⟨b',o',none⟩) l'.length c':=y51_6e;have z7_:sl ac 41 = .int .i64 (ix:Int):=y51_7e;have z8_:sl ac 42 = .pointer (some ⟨b',o'+ix*3,none⟩):=y51_8e;have z9_:sl ac 43 = .agg #[.int .u8 (y.k:Int),.int .i64 y.n,.slice q' y.l.length d']:=y51_9e
     have z10_:sl ac 44 = .bool true:=y51_10e;have z11_:sl ac 45 = .bool (!true):=y51_11e;rw[hM.ag.lay];simp only[lay,List.foldl_cons,List.foldl_nil,List.setIfInBounds_toArray,List.set_cons_zero,List.set_cons_succ,z0_,z1_,z2_,z3_,z4_,z5_,z6_,z7_,z8_,z9_,z10_,z11_];clear hM hkeep51 hob51 hne51 z0_ z1_ z2_ z3_ z4_ z5_ z6_ z7_ z8_ z9_ z10_ z11_ y51_0e y51_1e y51_2e y51_3e y51_4e y51_5e y51_6e y51_7e y51_8e y51_9e y51_10e y51_11e;clear g102_2 f102;go_wp2_with fail;refine⟨⟨ix+1,by first | rfl | go_num,LI.out,e1_,?_⟩,by simp [intOf];have:=LI.out;omega⟩;intro j hj a b ha hb
     by_cases e:j<ix
     ·exact HA.out j e a b ha hb
     ·obtain rfl:j=ix:=by omega
      rw[List.getElem?_eq_getElem LI.out,HX.out]at ha;rw[List.getElem?_eq_getElem LJ.out,HY.out]at hb
      injection ha with ha
      injection hb with hb
      subst ha hb;exact HR.out
   case false =>
    have HR:=Hd hr;clear hr;have b102_0:=Hd (C2_0.out.ext XX.out);have b102_1:=Hd (C2_1.out.ext XX.out);have b102_2:=Hd (C2_2.out.ext XX.out);have u102:=Hd b102_0.out.2;have b103_0:=Hd (C3_0.out.ext XX.out);have b103_1:=Hd (C3_1.out.ext XX.out);have b103_2:=Hd (C3_2.out.ext XX.out);have u103:=Hd b103_0.out.2;have g102_2:=b102_2.out.1;have f102:sb2<wr.heap.size:=b102_0.out.2;go_wp2_with fail;have hkeep51:AllAt' ([(sb2,0,.int .u8 (k:Int)),(sb2,1,.int .i64 n),(sb2,2,.slice (some ⟨b,o,none⟩) l.length c),(sb3,0,.int .u8 (k:Int)),(sb3,1,.int .i64 n),(sb3,2,.slice (some ⟨b',o',none⟩) l'.length c')]:List (Nat × Nat × Value)) wr:=AllAt'.cons b102_0.out (AllAt'.cons b102_1.out (AllAt'.cons b102_2.out (AllAt'.cons b103_0.out (AllAt'.cons b103_1.out (AllAt'.cons b103_2.out (AllAt'.nil _))))));have hob51:ObOk W4.heap.size wr (([(sb2,0,.int .u8 (k:Int)),(sb2,1,.int .i64 n),(sb2,2,.slice (some ⟨b,o,none⟩) l.length c),(sb3,0,.int .u8 (k:Int)),(sb3,1,.int .i64 n),(sb3,2,.slice (some ⟨b',o',none⟩) l'.length c')]:List (Nat × Nat × Value)).map (·.1)) ([]:List (Nat × List (Nat × Value))):=trivial;have hne51:AllNe (([]:List (Nat × List (Nat × Value))).map (·.1)):=trivial
    (try simp only[List.append_eq,List.cons_append,List.nil_append])
    refine wp_region_gen ⟨[34,35,36,37,38,39,40,41,42,43,44,45],fun i=>false,fun i=>([none,none,none,none,none,none,none,none,none,none,none,none]:List (Option (BoxRef × Nat))).getD i none,fun i=>([Sg.val (.pointer (some ⟨sb2,2,none⟩)),Sg.val (.slice (some ⟨b,o,none⟩) l.length c),Sg.val (.int .i64 (ix:Int)),Sg.val (.pointer (some ⟨b,o+ix*3,none⟩)),Sg.val (.agg #[.int .u8 (x.k:Int),.int .i64 x.n,.slice q x.l.length d]),Sg.val (.pointer (some ⟨sb3,2,none⟩)),Sg.val (.slice (some ⟨b',o',none⟩) l'.length c'),Sg.val (.int .i64 (ix:Int)),Sg.val (.pointer (some ⟨b',o'+ix*3,none⟩)),Sg.val (.agg #[.int .u8 (y.k:Int),.int .i64 y.n,.slice q' y.l.length d']),Sg.val (.bool false),Sg.val (.bool (!false))]:List Sg).getD i Sg.any,[(sb2,0,.int .u8 (k:Int)),(sb2,1,.int .i64 n),(sb2,2,.slice (some ⟨b,o,none⟩) l.length c),(sb3,0,.int .u8 (k:Int)),(sb3,1,.int .i64 n),(sb3,2,.slice (some ⟨b',o',none⟩) l'.length c')],[]⟩ W4.heap.size (by kernel_rfl) (by kernel_rfl) XX.out.size ?hfr hkeep51 hob51 hne51 ?hs ?he
    case hfr =>
     intro i v wk hi hst hv;exact absurd hi (by simp)
    case hs =>
     refine⟨?_,?_,?_,?_,?_,?_,?_,?_,?_,?_,?_,?_,trivial⟩
     ·refine RStep.op rfl rfl fun ac wk hp K hK=>?_;have t2_:ac.tmps[2]?.getD undef = .pointer (some ⟨sb2,0,none⟩):=hp.slot 2 rfl rfl;have HP:=Hd hp;clear hp;go_simp;refine hK.out _ _ ?_ eR (fun h=>absurd h (by simp));exact rfl
     ·refine RStep.op rfl rfl fun ac wk hp K hK=>?_;have u0e:=hp.g 0;have t34_:ac.tmps[34]?.getD undef = .pointer (some ⟨sb2,2,none⟩):=slot_is' u0e;have c0_:=hp.cell 2 rfl;have HP:=Hd hp;clear hp;go_simp;refine hK.out _ _ ?_ eR (fun h=>absurd h (by simp));exact rfl
     ·refine RStep.op rfl rfl fun ac wk hp K hK=>?_;have t5_:ac.tmps[5]?.getD undef = .int .i64 (ix:Int):=hp.slot 5 rfl rfl;have HP:=Hd hp;clear hp;go_simp;refine hK.out _ _ ?_ eR (fun h=>absurd h (by simp));exact rfl
     ·refine RStep.op rfl rfl fun ac wk hp K hK=>?_;have u1e:=hp.g 1;have t35_:ac.tmps[35]?.getD undef = .slice (some ⟨b,o,none⟩) l.length c:=slot_is' u1e;have u2e:=hp.g 2;have t36_:ac.tmps[36]?.getD undef = .int .i64 (ix:Int):=slot_is' u2e;have HP:=Hd hp;clear hp;go_simp;refine hK.out _ _ ?_ eR (fun h=>absurd h (by simp));exact (by first | rfl | (apply congrArg Value.bool;simp;done) | (apply congrArg Value.bool;simp;omega) | (simp [*];done))
     ·refine RStep.op rfl rfl fun ac wk hp K hK=>?_;have u3e:=hp.g 3;have t37_:ac.tmps[37]?.getD undef = .pointer (some ⟨b,o+ix*3,none⟩):=slot_is' u3e;have HP:=Hd hp;clear hp;have q0:=(D0.out.ext (Ext.below XX.out HP.out.blw)).1;have q1:=(D1.out.ext (Ext.below XX.out HP.out.blw)).1;have q2:=(D2.out.ext (Ext.below XX.out HP.out.blw)).1;go_simp;refine hK.out _ _ ?_ eR (fun h=>absurd h (by simp));exact (by first | rfl | (apply congrArg Value.bool;simp;done) | (apply congrArg Value.bool;simp;omega) | (simp [*];done))
     ·refine RStep.op rfl rfl fun ac wk hp K hK=>?_;have t3_:ac.tmps[3]?.getD undef = .pointer (some ⟨sb3,0,none⟩):=hp.slot 3 rfl rfl;have HP:=Hd hp;clear hp;go_simp;refine hK.out _ _ ?_ eR (fun h=>absurd h (by simp));exact rfl
     ·refine RStep.op rfl rfl fun ac wk hp K hK=>?_;have u5e:=hp.g 5;have t39_:ac.tmps[39]?.getD undef = .pointer (some ⟨sb3,2,none⟩):=slot_is' u5e;have c0_:=hp.cell 5 rfl;have HP:=Hd hp;clear hp;go_simp;refine hK.out _ _ ?_ eR (fun h=>absurd h (by simp));exact rfl
     ·refine RStep.op rfl rfl fun ac wk hp K hK=>?_;have t5_:ac.tmps[5]?.getD undef = .int .i64 (ix:Int):=hp.slot 5 rfl rfl;have HP:=Hd hp;clear hp;go_simp;refine hK.out _ _ ?_ eR (fun h=>absurd h (by simp));exact rfl
     ·refine RStep.op rfl rfl fun ac wk hp K hK=>?_;have u6e:=hp.g 6;have t40_:ac.tmps[40]?.getD undef = .slice (some ⟨b',o',none⟩) l'.length c':=slot_is' u6e;have u7e:=hp.g 7;have t41_:ac.tmps[41]?.getD undef = .int .i64 (ix:Int):=slot_is' u7e;have HP:=Hd hp;clear hp;go_simp;refine hK.out _ _ ?_ eR (fun h=>absurd h (by simp));exact (by first | rfl | (apply congrArg Value.bool;simp;done) | (apply congrArg Value.bool;simp;omega) | (simp [*];done))
     ·refine RStep.op rfl rfl fun ac wk hp K hK=>?_;have u8e:=hp.g 8;have t42_:ac.tmps[42]?.getD undef = .pointer (some ⟨b',o'+ix*3,none⟩):=slot_is' u8e;have HP:=Hd hp;clear hp;have q0:=(D0'.out.ext (Ext.below XX.out HP.out.blw)).1;have q1:=(D1'.out.ext (Ext.below XX.out HP.out.blw)).1;have q2:=(D2'.out.ext (Ext.below XX.out HP.out.blw)).1;go_simp;refine hK.out _ _ ?_ eR (fun h=>absurd h (by simp));exact (by first | rfl | (apply congrArg Value.bool;simp;done) | (apply congrArg Value.bool;simp;omega) | (simp [*];done))
     ·refine RStep.op rfl rfl fun ac wk hp K hK=>?_;have u4e:=hp.g 4;have t38_:ac.tmps[38]?.getD undef = .agg #[.int .u8 (x.k:Int),.int .i64 x.n,.slice q x.l.length d]:=slot_is' u4e;have u9e:=hp.g 9;have t43_:ac.tmps[43]?.getD undef = .agg #[.int .u8 (y.k:Int),.int .i64 y.n,.slice q' y.l.length d']:=slot_is' u9e;have HP:=Hd hp;clear hp;go_simp;refine (HR.out ▸ IX.out _ _ _ _ (HI.out.ext (Ext.below XX.out HP.out.blw)) (HJ.out.ext (Ext.below XX.out HP.out.blw))).mono ?_;rintro e wk' ⟨rfl,ix⟩;refine hK.out _ _ ?_ ix (fun h=>absurd h (by simp));exact rfl
     ·refine RStep.op rfl rfl fun ac wk hp K hK=>?_;have u10e:=hp.g 10;have t44_:ac.tmps[44]?.getD undef = .bool false:=slot_is' u10e;have HP:=Hd hp;clear hp;go_simp;refine hK.out _ _ ?_ eR (fun h=>absurd h (by simp));exact rfl
    case he =>
     intro ac v1 hM;have y51_0e:=hM.post 0 rfl rfl;have y51_1e:=hM.post 1 rfl rfl;have y51_2e:=hM.post 2 rfl rfl;have y51_3e:=hM.post 3 rfl rfl;have y51_4e:=hM.post 4 rfl rfl;have y51_5e:=hM.post 5 rfl rfl;have y51_6e:=hM.post 6 rfl rfl;have y51_7e:=hM.post 7 rfl rfl;have y51_8e:=hM.post 8 rfl rfl;have y51_9e:=hM.post 9 rfl rfl;have y51_10e:=hM.post 10 rfl rfl;have y51_11e:=hM.post 11 rfl rfl;have b102_0:Hid (At (sb2) 0 (.int .u8 (k:Int)) v1):=Hd (hM.keep.at 0 rfl);have b102_1:Hid (At (sb2) 1 (.int .i64 n) v1):=Hd (hM.keep.at 1 rfl);have b102_2:Hid (At (sb2) 2 (.slice (some ⟨b,o,none⟩) l.length c) v1):=Hd (hM.keep.at 2 rfl);have b103_0:Hid (At (sb3) 0 (.int .u8 (k:Int)) v1):=Hd (hM.keep.at 3 rfl);have b103_1:Hid (At (sb3) 1 (.int .i64 n) v1):=Hd (hM.keep.at 4 rfl);have b103_2:Hid (At (sb3) 2 (.slice (some ⟨b',o',none⟩) l'.length c') v1):=Hd (hM.keep.at 5 rfl);have gv1:Gr wr v1:=hM.gr;have e1_:Ext W4 v1:=Ext.below XX.out hM.blw;have z0_:sl ac 34 = .pointer (some ⟨sb2,2,none⟩):=y51_0e;have z1_:sl ac 35 = .slice (some ⟨b,o,none⟩) l.length c:=y51_1e;have z2_:sl ac 36 = .int .i64 (ix:Int):=y51_2e;have z3_:sl ac 37 = .pointer (some ⟨b,o+ix*3,none⟩):=y51_3e;have z4_:sl ac 38 = .agg #[.int .u8 (x.k:Int),.int .i64 x.n,.slice q x.l.length d]:=y51_4e;have z5_:sl ac 39 = .pointer (some ⟨sb3,2,none⟩):=y51_5e;have z6_:sl ac 40 = .slice (some ⟨b',o',none⟩) l'.length c':=y51_6e;have z7_:sl ac 41 = .int .i64 (ix:Int):=y51_7e;have z8_:sl ac 42 = .pointer (some ⟨b',o'+ix*3,none⟩):=y51_8e;have z9_:sl ac 43 = .agg #[.int .u8 (y.k:Int),.int .i64 y.n,.slice q' y.l.length d']:=y51_9e
     have z10_:sl ac 44 = .bool false:=y51_10e;have z11_:sl ac 45 = .bool (!false):=y51_11e;rw[hM.ag.lay];simp only[lay,List.foldl_cons,List.foldl_nil,List.setIfInBounds_toArray,List.set_cons_zero,List.set_cons_succ,z0_,z1_,z2_,z3_,z4_,z5_,z6_,z7_,z8_,z9_,z10_,z11_];clear hM hkeep51 hob51 hne51 z0_ z1_ z2_ z3_ z4_ z5_ z6_ z7_ z8_ z9_ z10_ z11_ y51_0e y51_1e y51_2e y51_3e y51_4e y51_5e y51_6e y51_7e y51_8e y51_9e y51_10e y51_11e;clear g102_2 f102;go_wp2_with fail;go_ret;exact⟨ret_eq (congrArg Value.bool (by rw[HV.out,sameVs_at LI.out LJ.out HA.out (by rw[HX.out,HY.out,HR.out])])),EW.out.trans e1_⟩
  ·have t3:(l.length:Int)≤(ix:Int):=by omega
   have HE:Hid (sameVs l l'=true):=sameVs_end HL.out fun j hj=>HA.out j (by omega)
   clear hi him;have b102_0:=Hd (C2_0.out.ext XX.out);have b102_1:=Hd (C2_1.out.ext XX.out);have b102_2:=Hd (C2_2.out.ext XX.out);have u102:=Hd b102_0.out.2;have b103_0:=Hd (C3_0.out.ext XX.out);have b103_1:=Hd (C3_1.out.ext XX.out);have b103_2:=Hd (C3_2.out.ext XX.out);have u103:=Hd b103_0.out.2;have g102_2:=b102_2.out.1;have f102:sb2<wr.heap.size:=b102_0.out.2;go_wp2_with fail;go_ret;exact⟨ret_eq (congrArg Value.bool (by rw[HV.out,HE.out])),EW.out.trans XX.out⟩
theorem rvsame_calls:∀ (t:VT) (w:World) (v:Value) (u:VT) (v':Value),IsV w v t→IsV w v' u→Calls Tryz.prog 23 #[v,v'] w fun e w'=>e = .returned (.bool (sameV t u))∧Ext w w':=by
 refine VT.ind1 ?_;intro k n l ih w v u v' h h';obtain⟨k',n',l'⟩:=u;obtain⟨p,c,rfl⟩:=h.shape;obtain⟨p',c',rfl⟩:=h'.shape
 by_cases hk:k=k'
 ·have hk:k=k':=hk;subst hk
  by_cases hn:n=n'
  ·have hn:n=n':=hn;subst hn
   by_cases hl:l.length=l'.length
   ·exact rvsame_items k n l l' p p' c c' w h h' hl ih
   ·exact rvsame_len k n l l' p p' c c' w h h' hl
  ·exact rvsame_num k n n' l l' p p' c c' w h h' hn
 ·exact rvsame_kind k k' n n' l l' p p' c c' w h h' hk
end Go.Proofs.YtfofjalebhajhaaGreatDoor
