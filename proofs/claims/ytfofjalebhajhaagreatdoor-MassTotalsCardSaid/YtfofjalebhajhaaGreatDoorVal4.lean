/- Values in memory of the call's own; val.Copy, val.copies. -/
import Derived.Test.YtfofjalebhajhaaGreatDoorVal3
namespace Go.Proofs.YtfofjalebhajhaaGreatDoor
open Go Go.RowKit
mutual
def szV:VT→Nat
 | .mk _ _ l=>szVs l+1
def szVs:List VT→Nat
 | []=>0
 | a :: l=>szV a+szVs l
end
theorem szV_pos (t:VT):1≤szV t:=by cases t;unfold szV;omega
theorem szVs_len:∀ l:List VT,l.length≤szVs l
 | []=>Nat.zero_le _
 | a :: l=>by unfold szVs;have:=szV_pos a;have:=szVs_len l;simp only[List.length_cons];omega
theorem szVs_mem:∀ {l:List VT}{x:VT},x∈l→szV x≤szVs l
 | a :: l,x,h=>by
  unfold szVs
  cases h with
  | head=>omega
  | tail _ h=>have:=szVs_mem h;omega
inductive OwV (B:Nat) (w:World):Value→VT→Prop where
 | mk (k:Nat) (n:Int) (l:List VT) (p:Option Addr) (c:Nat) (xs:List Value) (hk:k<256) (hn:-9223372036854775808≤n∧n≤9223372036854775807)
   (hs:w.ownsRow B 29 3 (.slice p l.length c) l.length xs) (hl:∀ i x,l[i]? = some x→OwV B w (.agg #[xs.getD (i*3) undef,xs.getD (i*3+1) undef,xs.getD (i*3+2) undef]) x) :
   OwV B w (.agg #[.int .u8 (k:Int),.int .i64 n,.slice p l.length c]) (.mk k n l)
theorem OwV.isV {B:Nat}{w:World}{v:Value}{t:VT}(h:OwV B w v t):IsV w v t:=by
 induction h with
 | mk k n l p c xs hk hn hs hl ih=>exact .mk k n l p c xs hk hn (Own.sl (.inl hs)) fun i x hx=>ih i x hx
theorem OwV.shape {B:Nat}{w:World}{v:Value}{t:VT}(h:OwV B w v t):∃ p c,v = .agg #[.int .u8 (t.k:Int),.int .i64 t.n,.slice p t.l.length c]:=h.isV.shape
theorem OwV.ext {B:Nat}{w w':World}{v:Value}{t:VT}(h:OwV B w v t) (x:Ext w w'):OwV B w' v t:=by
 induction h with
 | mk k n l p c xs hk hn hs hl ih=>exact .mk k n l p c xs hk hn (ownsRow_ext' hs x) fun i y hy=>ih i y hy
theorem ownsRow_mono {B B':Nat}{e:TypeId}{s:Nat}{w:World}{v:Value}{n:Nat}{xs:List Value}(h:w.ownsRow B e s v n xs) (k:B'≤B):w.ownsRow B' e s v n xs:=by
 obtain⟨h1,h2⟩:=h;refine⟨h1,?_⟩
 rcases h2 with h2 | ⟨g,cap,cur,e,hg,rest⟩
 ·exact .inl h2
 ·exact .inr ⟨g,cap,cur,e,Nat.le_trans k hg,rest⟩
theorem OwV.mono {B B':Nat}{w:World}{v:Value}{t:VT}(h:OwV B w v t) (k:B'≤B):OwV B' w v t:=by
 induction h with
 | mk k' n l p c xs hk hn hs hl ih=>exact .mk k' n l p c xs hk hn (ownsRow_mono hs k) fun i y hy=>ih i y hy
theorem OwV.set_other {B:Nat}{w:World}{v:Value}{t:VT}(h:OwV B w v t){a:Addr}(ha:a.block<B) (u:Value):OwV B (w.setCell a u) v t:=by
 induction h with
 | mk k n l p c xs hk hn hs hl ih=>exact .mk k n l p c xs hk hn (ownsRow_setCell_below hs ha u) fun i y hy=>ih i y hy
def RetV (w:World) (t:VT) (e:Ending) (w':World):Prop:=∃ v,e = .returned v∧OwV w.heap.size w' v t∧Ext w w'
theorem info_val:(Tryz.prog.info? 29).map (fun i=>(i.zero,i.size,i.bytes))=some (some (.agg #[.int .u8 0,.int .i64 0,.slice none 0 0]),3,40):=by kernel_rfl
theorem make_vals {w:World}{ops:Array Oper}{rest:List Oper}{o:Oper}{a:Act}{Q:Exit→Act→World→Prop}(hgd:o.guard=none) (l c:Operand) (t:TypeId)
  (ht:Tryz.prog.underlying t=some (.slice 29)) (hop:o.op=Op.makeSlice t l c) (n:Nat) (C:Int) (hC:C=(n:Int)) (hl:a.eval l = .int .i64 C) (hc:a.eval c = .int .i64 C) (hn:n≤1000000)
  (h:∀ w' xs,w'.ownsRow w.heap.size 29 3 (.slice (some ⟨w.heap.size,0,none⟩) n n) n xs→w.grownBy w' none →
   wpList Tryz.prog ops Q rest (a.put o.dst (.slice (some ⟨w.heap.size,0,none⟩) n n)) w'):wpList Tryz.prog ops Q (o :: rest) a w:=by
 obtain⟨i,hi,hz,hsize,hby⟩:=info_parts info_val;exact wpList_make_full w hgd l c t hop w.heap.size 29 i _ 3 ht hi hz hsize .i64 .i64 C C n hl hc hC hC (by rw[hby];omega) (by unfold maxLen;omega) (Nat.le_refl _) (fun w' h1 h2=>h w' _ h1 h2)
theorem IsV.bounds {w:World}{v:Value}{t:VT}(h:IsV w v t):t.k<256 ∧ -9223372036854775808≤t.n∧t.n≤9223372036854775807:=by
 cases h with
 | mk k n l p c xs hk hn hs hl=>exact⟨hk,hn⟩
theorem IsV.item0 {w:World}{k:Nat}{n:Int}{l:List VT}{p:Option Addr}{c:Nat}(h:IsV w (.agg #[.int .u8 (k:Int),.int .i64 n,.slice p l.length c]) (.mk k n l)){i:Nat}(hi:i<l.length) :
  ∃ b o q d,p=some ⟨b,o,none⟩∧At b (o+i*3) (.int .u8 ((l[i]).k:Int)) w∧At b (o+i*3+1) (.int .i64 (l[i]).n) w∧At b (o+i*3+2) (.slice q (l[i]).l.length d) w ∧
   IsV w (.agg #[.int .u8 ((l[i]).k:Int),.int .i64 (l[i]).n,.slice q (l[i]).l.length d]) l[i]:=by
 obtain⟨b,o,q,d,h1,h2,h3,h4,h5,h6⟩:=h.item rfl hi;exact⟨b,o,q,d,h1,⟨h3,h2⟩,⟨h4,h2⟩,⟨h5,h2⟩,h6⟩
structure CopMem (l:List VT) (w:World) (g i:Nat) (xs:List Value) (wr:World):Prop where
 row:wr.ownsRow g 29 3 (.slice (some ⟨g,0,none⟩) l.length l.length) l.length xs
 its:∀ j x,j<i→l[j]? = some x→OwV (g+1) wr (.agg #[xs.getD (j*3) undef,xs.getD (j*3+1) undef,xs.getD (j*3+2) undef]) x
 ext:Ext w wr
 lo:w.heap.size≤g
theorem CopMem.lt {l:List VT}{w:World}{g i:Nat}{xs:List Value}{wr:World}(h:CopMem l w g i xs wr):g<wr.heap.size:=(h.row.lt g rfl).2
theorem CopMem.store {l:List VT}{w:World}{g i:Nat}{xs:List Value}{wr w2:World}(h:CopMem l w g i xs wr) (x2:Ext wr w2) (hi:i<l.length){a b c:Value}{t:VT}(ht:l[i]? = some t) (hv:OwV (g+1) w2 (.agg #[a,b,c]) t) :
  ∃ xs',CopMem l w g (i+1) xs' (((w2.setCell ⟨g,i*3,none⟩ a).setCell ⟨g,i*3+1,none⟩ b).setCell ⟨g,i*3+2,none⟩ c):=by
 have r0:=ownsRow_ext' h.row x2;have r1:=(World.ownsRow.stored r0 (i*3) a).1;have r2:=(World.ownsRow.stored r1 (i*3+1) b).1;have r3:=(World.ownsRow.stored r2 (i*3+2) c).1;have hl:=h.row.1;refine⟨_,r3,fun j x hj hx=>?_,?_,h.lo⟩
 ·have hset:∀ m,m≠i*3→m≠i*3+1→m≠i*3+2→(((xs.set (i*3) a).set (i*3+1) b).set (i*3+2) c).getD m undef=xs.getD m undef:=fun m h1 h2 h3=>by
   simp only[List.getD_eq_getElem?_getD,List.getElem?_set_ne (Ne.symm h3),List.getElem?_set_ne (Ne.symm h2),List.getElem?_set_ne (Ne.symm h1)]
  by_cases e:j=i
  ·subst e;rw[ht]at hx
   injection hx with hx
   subst hx
   have e0:(((xs.set (j*3) a).set (j*3+1) b).set (j*3+2) c).getD (j*3) undef=a:=by
    simp only[List.getD_eq_getElem?_getD];rw[List.getElem?_set_ne (by omega),List.getElem?_set_ne (by omega),List.getElem?_set_self (by omega)];rfl
   have e1:(((xs.set (j*3) a).set (j*3+1) b).set (j*3+2) c).getD (j*3+1) undef=b:=by
    simp only[List.getD_eq_getElem?_getD];rw[List.getElem?_set_ne (by omega),List.getElem?_set_self (by rw[List.length_set];omega)];rfl
   have e2:(((xs.set (j*3) a).set (j*3+1) b).set (j*3+2) c).getD (j*3+2) undef=c:=by
    simp only[List.getD_eq_getElem?_getD];rw[List.getElem?_set_self (by rw[List.length_set,List.length_set];omega)];rfl
   rw[e0,e1,e2];exact ((hv.set_other (by simp) _).set_other (by simp) _).set_other (by simp) _
  ·rw[hset _ (by omega) (by omega) (by omega),hset _ (by omega) (by omega) (by omega),hset _ (by omega) (by omega) (by omega)];exact ((((h.its j x (by omega) hx).ext x2).set_other (by simp) _).set_other (by simp) _).set_other (by simp) _
 ·exact Below.setCell (Below.setCell (Below.setCell (h.ext.trans x2) h.lo _) h.lo _) h.lo _
set_option maxHeartbeats 2000000 in
set_option maxRecDepth 100000 in
theorem copies_of (k:Nat) (n:Int) (l:List VT) (hsz:l.length≤1000000) (ih:∀ x∈l,∀ (w:World) (v:Value),IsV w v x→Calls Tryz.prog 63 #[v] w (RetV w x)) (w:World) (p:Option Addr) (c:Nat) (h:IsV w (.agg #[.int .u8 (k:Int),.int .i64 n,.slice p l.length c]) (.mk k n l)) :
  Calls Tryz.prog 74 #[.slice p l.length c] w fun e w' => ∃ p' c' xs,e = .returned (.slice p' l.length c')∧w'.ownsRow w.heap.size 29 3 (.slice p' l.length c') l.length xs∧(∀ i x,l[i]? = some x→OwV w.heap.size w' (.agg #[xs.getD (i*3) undef,xs.getD (i*3+1) undef,xs.getD (i*3+2) undef]) x)∧Ext w w':=by
 by_cases h0:l.length=0
 ·have h1:((l.length:Int) == 0)=true:=by rw[beq_iff_eq];omega
  have L0:=Hd h0;clear h ih hsz
  go_enter Tryz.func74,Tryz.ntmps74
  go_wp2_with fail;go_ret;refine⟨none,0,[],ret_eq (by show Value.slice none 0 0=_;rw[L0.out]),by rw[L0.out];exact World.ownsRow_nil ..,fun i x hx=>?_,Ext.refl _⟩;have:=(List.getElem?_eq_some_iff.1 hx).1;have:=L0.out;omega
 ·have h1:((l.length:Int) == 0)=false:=by rw[beq_eq_false_iff_ne];omega
  have hl6:(l.length:Int)≤1000000:=by omega
  have HSZ:=Hd hsz;have H:=Hd h;have IH:=Hd ih;clear h ih hsz h0
  go_enter Tryz.func74,Tryz.ntmps74
  go_wp2_with (at_make;refine make_vals rfl _ _ 22 Tryz.underlying22 rfl l.length _ rfl rfl rfl HSZ.out ?_;intro w1 xs0 hown hgrow;have M0:Hid (CopMem l w w.heap.size 0 xs0 w1):=⟨hown,fun j x hj=>absurd hj (Nat.not_lt_zero _),(Ext.refl w).grown hgrow (fun k hk=>by cases hk),Nat.le_refl _⟩;clear hown hgrow)
  obtain⟨g,hg⟩:∃ g,w.heap.size=g:=⟨_,rfl⟩
  rw[hg]at M0 ⊢
  go_loopw [14] (fun v14 wr => ∃ (i:Nat) (xs:List Value),v14 = .int .i64 (i:Int)∧i≤l.length∧CopMem l w g i xs wr) (fun v14 _=>l.length - (intOf v14).toNat)
  case atStart=>exact⟨0,xs0,rfl,Nat.zero_le _,M0.out⟩
  case round =>
   obtain⟨i,xs,rfl,hi,hM⟩:=hrel;have M:=Hd hM;clear hM
   by_cases him:i<l.length
   ·have LI:=Hd him
    have ti:(i:Int)+1≤(l.length:Int):=by omega
    obtain⟨b,o,q,d,rfl,c0,c1,c2,hi2⟩:=H.out.item0 LI.out
    obtain⟨x,hx⟩:∃ x,l[i]'LI.out=x:=⟨_,rfl⟩
    simp only[hx]at c0 c1 c2 hi2
    have HX:Hid (l[i]? = some x):=by show _=_;rw[List.getElem?_eq_getElem LI.out,hx]
    have IX:=Hd (IH.out x (by rw[←hx];exact List.getElem_mem _));have g0:=(c0.ext M.out.ext).1;have g1:=(c1.ext M.out.ext).1;have g2:=(c2.ext M.out.ext).1;have gb:=(c0.ext M.out.ext).2;have HI:=Hd (hi2.ext M.out.ext)
    have LEN:Hid ((x.l.length:Int)≤9223372036854775807):=by obtain⟨kx,nx,lx⟩:=x;exact HI.out.len
    clear c0 c1 c2 hi2 hx hi;go_wp2_with fail;have X1:Hid (Ext wr (wr.alloc (.cells #[.int .u8 (x.k:Int),.int .i64 x.n,.slice q x.l.length d] 29))):=eR.alloc _;refine (IX.out _ _ (HI.out.ext X1.out)).mono ?_;rintro e w2 ⟨v',rfl,ov,x2⟩;obtain⟨p2,c2,rfl⟩:=ov.shape;have OV:Hid (OwV (g+1) w2 (.agg #[.int .u8 (x.k:Int),.int .i64 x.n,.slice p2 x.l.length c2]) x):=ov.mono (by have:=M.out.lt;simp;omega);have X2:=Hd (X1.out.trans x2);have hrow:=ownsRow_ext' M.out.row X2.out;have hxl:=hrow.1;have k0:=(World.ownsRow.cellAt hrow (i*3) (by omega)).trans (List.getElem?_eq_getElem (by omega));have k1:=(World.ownsRow.cellAt hrow (i*3+1) (by omega)).trans (List.getElem?_eq_getElem (by omega));have k2:=(World.ownsRow.cellAt hrow (i*3+2) (by omega)).trans (List.getElem?_eq_getElem (by omega))
    obtain⟨y0,hy0⟩:∃ y,xs[i*3]'(by omega)=y:=⟨_,rfl⟩
    obtain⟨y1,hy1⟩:∃ y,xs[i*3+1]'(by omega)=y:=⟨_,rfl⟩
    obtain⟨y2,hy2⟩:∃ y,xs[i*3+2]'(by omega)=y:=⟨_,rfl⟩
    rw[hy0]at k0;rw[hy1]at k1;rw[hy2]at k2;have f0:=World.ownsRow.frozenAt hrow (i*3);have f1:=World.ownsRow.frozenAt hrow (i*3+1);have f2:=World.ownsRow.frozenAt hrow (i*3+2);have hbx:=(At.n0 (w:=wr) (C:=#[.int .u8 (x.k:Int),.int .i64 x.n,.slice q x.l.length d]) (t := 29) (o:=0) rfl).ext x2;clear ov x2 hrow hxl hy0 hy1 hy2 g0 g1 g2 gb hbx;go_wp2_with fail;obtain⟨xs',hM'⟩:=M.out.store X2.out LI.out HX.out OV.out;exact⟨⟨i+1,xs',by go_num,LI.out,hM'⟩,by simp [intOf];have:=LI.out;omega⟩
   ·have t3:(l.length:Int)≤(i:Int):=by omega
    have hil:i=l.length:=by omega
    have HIL:=Hd hil;clear hi him hil;go_wp2_with fail;go_ret;refine⟨_,_,xs,rfl,ownsRow_mono M.out.row M.out.lo,fun j x hx=>?_,M.out.ext⟩;have hjl:=(List.getElem?_eq_some_iff.1 hx).1;exact (M.out.its j x (by rw[HIL.out];exact hjl) hx).mono (by have:=M.out.lo;omega)
set_option maxHeartbeats 2000000 in
set_option maxRecDepth 100000 in
theorem copy_step (k:Nat) (n:Int) (l:List VT) (hsz:l.length≤1000000) (ih:∀ x∈l,∀ (w:World) (v:Value),IsV w v x→Calls Tryz.prog 63 #[v] w (RetV w x)) (w:World) (p:Option Addr) (c:Nat) (h:IsV w (.agg #[.int .u8 (k:Int),.int .i64 n,.slice p l.length c]) (.mk k n l)) :
  Calls Tryz.prog 63 #[.agg #[.int .u8 (k:Int),.int .i64 n,.slice p l.length c]] w (RetV w (.mk k n l)):=by
 have H:=Hd h;have CP:=Hd (copies_of k n l hsz ih);have HK:Hid (k<256 ∧ -9223372036854775808≤n∧n≤9223372036854775807):=h.bounds;clear h ih hsz
 go_enter Tryz.func63,Tryz.ntmps63
 go_wp2_with fail
 obtain⟨w1,hw1⟩:∃ W,W=(w.alloc (.cells #[.int .u8 (k:Int),.int .i64 n,.slice p l.length c] 29)).alloc (.cells #[.int .u8 0,.int .i64 0,.slice none 0 0] 29):=⟨_,rfl⟩
 have X1:Hid (Ext w w1):=by rw[hw1];exact (eR.alloc _).alloc _
 have b0:Hid (At w.heap.size 0 (.int .u8 (k:Int)) w1):=by rw[hw1];exact At.ext (At.n0 rfl) (eR.alloc _)
 have b1:Hid (At w.heap.size 1 (.int .i64 n) w1):=by rw[hw1];exact At.ext (At.n0 rfl) (eR.alloc _)
 have b2:Hid (At w.heap.size 2 (.slice p l.length c) w1):=by rw[hw1];exact At.ext (At.n0 rfl) (eR.alloc _)
 have d0:Hid (At (w.heap.size+1) 0 (.int .u8 0) w1):=by rw[hw1];exact At.n1 rfl
 have d1:Hid (At (w.heap.size+1) 1 (.int .i64 0) w1):=by rw[hw1];exact At.n1 rfl
 have d2:Hid (At (w.heap.size+1) 2 (.slice none 0 0) w1):=by rw[hw1];exact At.n1 rfl
 have B0:Hid (Bx 3 w.heap.size w1):=by rw[hw1];exact (Bx.new 3 ⟨rfl,by decide⟩ (by decide) (by intro u hu;simp at hu;rcases hu with rfl | rfl | rfl <;> trivial)).gr (eR.alloc _).gr
 have B1:Hid (Bx 3 (w.heap.size+1) w1):=by rw[hw1];exact Bx.n1 3 ⟨rfl,by decide⟩ (by decide) (by intro u hu;simp at hu;rcases hu with rfl | rfl | rfl <;> trivial)
 rw[←hw1];clear hw1;refine (CP.out w1 p c (H.out.ext X1.out)).mono ?_;rintro e w2 ⟨p2,c2,xs,rfl,hrow,hits,x2⟩;have HR:=Hd hrow;have HI:=Hd hits;have X2:=Hd x2;have a0:=(b0.out.ext x2).1;have a1:=(b1.out.ext x2).1;have a2:=(b2.out.ext x2).1;have e0:=(d0.out.ext x2).1;have e1:=(d1.out.ext x2).1;have e2:=(d2.out.ext x2).1;have f0:=(B0.out.gr x2.gr).free 2;have f1:=(B1.out.gr x2.gr).free 0;have f2:=(B1.out.gr x2.gr).free 1;have f3:=(B1.out.gr x2.gr).free 2;have hlt:=(d0.out.ext x2).2;clear hrow hits x2;go_wp2_with fail
 have noV:∀ u ∈ [Value.int .u8 (k:Int),.int .i64 n,.slice p2 l.length c2],NoI u:=by intro u hu;simp at hu;rcases hu with rfl | rfl | rfl <;> trivial
 have s1:=setRow_bx' (o:=2) (cs:=[.slice p2 l.length c2]) (B0.out.gr X2.out.gr) (by simp) noI_1;have s2:=setRow_bx' (s:=w.heap.size+1) (o:=0) (cs:=[.int .u8 (k:Int),.int .i64 n,.slice p2 l.length c2]) ((B1.out.gr X2.out.gr).gr (setRow_gr' (o:=2) (cs:=[.slice p2 l.length c2]) (B0.out.gr X2.out.gr) (by simp) noI_1)) (by simp) noV
 obtain⟨w3,hw3⟩:∃ W,W=setRow (w.heap.size+1) 0 [.int .u8 (k:Int),.int .i64 n,.slice p2 l.length c2] (setRow w.heap.size 2 [.slice p2 l.length c2] w2):=⟨_,rfl⟩
 have r0:=s2.2.1 0 _ rfl;have r1:=s2.2.1 1 _ rfl;have r2:=s2.2.1 2 _ rfl;rw[←hw3]at r0 r1 r2;have q0:w3.cell? ⟨w.heap.size+1,0,none⟩=some (.int .u8 (k:Int)):=r0.1;have q1:w3.cell? ⟨w.heap.size+1,1,none⟩=some (.int .i64 n):=r1.1;have q2:w3.cell? ⟨w.heap.size+1,2,none⟩=some (.slice p2 l.length c2):=r2.1;rw[show (((w2.setCell ⟨w.heap.size,2,none⟩ (.slice p2 l.length c2)).setCell ⟨w.heap.size+1,0,none⟩ (.int .u8 (k:Int))).setCell ⟨w.heap.size+1,1,none⟩ (.int .i64 n)).setCell ⟨w.heap.size+1,2,none⟩ (.slice p2 l.length c2)=w3 from hw3.symm];have l0:=b0.out.2;have l1:=d0.out.2
 have ho:∀ v t,OwV w1.heap.size w2 v t→OwV w.heap.size w3 v t:=fun v t h=>by
  rw[hw3];exact ((((h.set_other (a:=⟨w.heap.size,2,none⟩) l0 _).set_other (a:=⟨w.heap.size+1,0,none⟩) l1 _).set_other (a:=⟨w.heap.size+1,1,none⟩) l1 _).set_other (a:=⟨w.heap.size+1,2,none⟩) l1 _).mono X1.out.size
 have hr3:w3.ownsRow w.heap.size 29 3 (.slice p2 l.length c2) l.length xs:=by
  rw[hw3];exact ownsRow_mono (ownsRow_setCell_below (ownsRow_setCell_below (ownsRow_setCell_below (ownsRow_setCell_below HR.out (a:=⟨w.heap.size,2,none⟩) l0 _) (a:=⟨w.heap.size+1,0,none⟩) l1 _) (a:=⟨w.heap.size+1,1,none⟩) l1 _) (a:=⟨w.heap.size+1,2,none⟩) l1 _) X1.out.size
 have hx3:Ext w w3:=by rw[hw3];exact setRow_below _ _ (Nat.le_succ _) _ _ (setRow_below _ _ (Nat.le_refl _) _ _ (X1.out.trans X2.out))
 clear hw3 s1 s2 r0 r1 r2;refine bodyPost_ret (v:=.agg #[.int .u8 (k:Int),.int .i64 n,.slice p2 l.length c2]) (by simp [results,Tryz.results63,go_sem,q0,q1,q2]) rfl ?_;exact⟨_,rfl,.mk k n l p2 c2 xs HK.out.1 HK.out.2 hr3 fun i x hx=>ho _ _ (HI.out i x hx),hx3⟩
theorem copy_calls:∀ (t:VT),szV t≤1000000 → ∀ (w:World) (v:Value),IsV w v t→Calls Tryz.prog 63 #[v] w (RetV w t):=by
 refine VT.ind1 ?_;intro k n l ih hsz w v h;obtain⟨p,c,rfl⟩:=h.shape;unfold szV at hsz;exact copy_step k n l (by have:=szVs_len l;omega) (fun x hx=>ih x hx (by have:=szVs_mem hx;omega)) w p c h
end Go.Proofs.YtfofjalebhajhaaGreatDoor
