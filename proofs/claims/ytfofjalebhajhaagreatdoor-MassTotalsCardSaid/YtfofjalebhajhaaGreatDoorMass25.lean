/- val.Tuple; the functions that MassTotals hands to Join, Map, Keep. -/
import Derived.Test.YtfofjalebhajhaaGreatDoorMass24
namespace Go.Proofs.YtfofjalebhajhaaGreatDoor
open Go Go.RowKit
theorem vnumT_calls (w:World) (n:Int):Calls Tryz.prog 36 #[.int .i64 n] w fun z w'=>z = .returned (.agg #[.int .u8 1,.int .i64 n,.slice none 0 0])∧Ext w w':=by
 go_enter Tryz.func36,Tryz.ntmps36
 go_wp2_with fail;refine bodyPost_ret (v:=.agg #[.int .u8 1,.int .i64 n,.slice none 0 0]) (by simp [results,Tryz.results36,go_sem]) rfl ?_;exact⟨rfl,eR.alloc _⟩
set_option maxHeartbeats 2000000 in
set_option maxRecDepth 100000 in
theorem tuple_calls {w:World}(l:List VT) (hz:∀ x∈l,szV x≤1000000) (hsz:l.length≤1000000){p:Option Addr}{c:Nat}(h:IsV w (.agg #[.int .u8 ((0:Nat):Int),.int .i64 0,.slice p l.length c]) (.mk 0 0 l)) :
  Calls Tryz.prog 33 #[.slice p l.length c] w (RetV w (.mk 3 0 l)):=by
 have HC:Hid (∀ W,Ext w W→Calls Tryz.prog 74 #[.slice p l.length c] W fun e w' => ∃ p' c' xs,e = .returned (.slice p' l.length c')∧w'.ownsRow W.heap.size 29 3 (.slice p' l.length c') l.length xs∧(∀ i x,l[i]? = some x→OwV W.heap.size w' (.agg #[xs.getD (i*3) undef,xs.getD (i*3+1) undef,xs.getD (i*3+2) undef]) x)∧Ext W w'):=fun W hW =>
  copies_of 0 0 l hsz (fun x hx w v hv=>copy_calls x (hz x hx) w v hv) W p c (h.ext hW)
 obtain⟨n,hn⟩:∃ n,l.length=n:=⟨_,rfl⟩
 have HN:=Hd hn;rw[hn]at HC ⊢;clear h hz hsz hn
 go_enter Tryz.func33,Tryz.ntmps33
 go_wp2_with fail;have X1:Hid (Ext w (w.alloc (.cells #[.int .u8 0,.int .i64 0,.slice none 0 0] 29))):=eR.alloc _;refine (HC.out _ X1.out).mono ?_;rintro e w2 ⟨p2,c2,xs,rfl,hrow,hits,x2⟩
 obtain⟨s0,hs0⟩:∃ s,w.heap.size=s:=⟨_,rfl⟩
 have BK:Hid (Bk 3 s0 w2):=by rw[←hs0];exact (Bk.new' 3 rfl).ext x2
 have X2:=Hd (X1.out.trans x2);rw[size_alloc]at hrow;simp only[size_alloc]at hits;rw[hs0]at hrow hits;have HR:=Hd hrow;have HI:=Hd hits;have HS:Hid (w.heap.size=s0):=hs0;rw[hs0];clear hs0 x2 hrow hits HC;have f0:=BK.out.lt;obtain⟨g0_,g0⟩:=BK.out.cell (o:=0) (by decide);have z0:=BK.out.free 0;obtain⟨g1_,g1⟩:=BK.out.cell (o:=1) (by decide);have z1:=BK.out.free 1;obtain⟨g2_,g2⟩:=BK.out.cell (o:=2) (by decide);have z2:=BK.out.free 2;go_wp2_with fail;obtain⟨d0,d1,d2⟩:=out3 BK.out (.int .u8 3) (.int .i64 0) (.slice p2 n c2);refine bodyPost_ret (v:=.agg #[.int .u8 3,.int .i64 0,.slice p2 n c2]) (by simp [results,Tryz.results33,go_sem,d0,d1,d2]) rfl ?_;have hlt:s0<s0+1:=Nat.lt_succ_self _;have hr3:=ownsRow_mono (ownsRow_setCell_below (ownsRow_setCell_below (ownsRow_setCell_below HR.out (a:=⟨s0,0,none⟩) hlt (.int .u8 3)) (a:=⟨s0,1,none⟩) hlt (.int .i64 0)) (a:=⟨s0,2,none⟩) hlt (.slice p2 n c2)) (Nat.le_succ s0);have hle:w.heap.size≤s0:=Nat.le_of_eq HS.out;refine⟨_,rfl,?_,ext_out3 X2.out hle _ _ _⟩;rw[HS.out]
 have:=OwV.mk (B:=s0) (w:=((w2.setCell ⟨s0,0,none⟩ (.int .u8 3)).setCell ⟨s0,1,none⟩ (.int .i64 0)).setCell ⟨s0,2,none⟩ (.slice p2 n c2)) 3 0 l p2 c2 xs (by decide) (by omega) (by rw[HN.out];exact hr3) fun i x hx=>((((HI.out i x hx).set_other (a:=⟨s0,0,none⟩) hlt _).set_other (a:=⟨s0,1,none⟩) hlt _).set_other (a:=⟨s0,2,none⟩) hlt _).mono (Nat.le_succ s0)
 rw[HN.out]at this;exact this
theorem sl_lit2 {w:World}{b:Nat}{cs:List Value}(h:∀ j u,cs[j]? = some u→At b j u w) (hl:cs.length=6):Sl 3 w (.slice (some ⟨b,0,none⟩) 2 2) 2 cs:=by
 refine⟨hl,_,2,rfl,Nat.le_refl _,by simp [maxLen],fun e=>(by cases e),fun p hp _=>?_⟩
 injection hp with hp
 subst hp;refine⟨rfl,(h 0 _ (List.getElem?_eq_getElem (by omega))).2,fun j hj=>?_⟩;rw[Nat.zero_add];exact (h j _ (List.getElem?_eq_getElem hj)).1
set_option maxHeartbeats 4000000 in
set_option maxRecDepth 100000 in
theorem pair1_calls {w:World}{v v':Value}{t t':VT}(h:IsV w v t) (h':IsV w v' t') (hz:szV t≤100000) (hz':szV t'≤100000):Calls Tryz.prog 32 #[v,v'] w (RetV w (.mk 3 0 [t,t'])):=by
 have h0:=h;have h0':=h';obtain⟨p,c,rfl⟩:=h.shape;obtain⟨p',c',rfl⟩:=h'.shape
 obtain⟨a1,ha1⟩:∃ a,(t.k:Int)=a:=⟨_,rfl⟩
 obtain⟨a2,ha2⟩:∃ a,(t'.k:Int)=a:=⟨_,rfl⟩
 obtain⟨n1,hn1⟩:∃ a,t.n=a:=⟨_,rfl⟩
 obtain⟨n2,hn2⟩:∃ a,t'.n=a:=⟨_,rfl⟩
 obtain⟨l1,hl1⟩:∃ a,t.l.length=a:=⟨_,rfl⟩
 obtain⟨l2,hl2⟩:∃ a,t'.l.length=a:=⟨_,rfl⟩
 rw[ha1,hn1,hl1]at h0;rw[ha2,hn2,hl2]at h0';rw[ha1,ha2,hn1,hn2,hl1,hl2]
 obtain⟨s1,hs1⟩:∃ s,w.heap.size=s:=⟨_,rfl⟩
 have HT:Hid (∀ W,Ext w W→Calls Tryz.prog 33 #[.slice (some ⟨W.heap.size,0,none⟩) 2 2] (W.alloc (.cells #[.int .u8 a1,.int .i64 n1,.slice p l1 c,.int .u8 a2,.int .i64 n2,.slice p' l2 c'] 29)) (RetV (W.alloc (.cells #[.int .u8 a1,.int .i64 n1,.slice p l1 c,.int .u8 a2,.int .i64 n2,.slice p' l2 c'] 29)) (.mk 3 0 [t,t']))):=fun W hW=>by
  have X:Ext W (W.alloc (.cells #[.int .u8 a1,.int .i64 n1,.slice p l1 c,.int .u8 a2,.int .i64 n2,.slice p' l2 c'] 29)):=eR.alloc _;refine tuple_calls [t,t'] (fun x hx=>?_) (by simp) (IsV.mk 0 0 [t,t'] _ 2 [.int .u8 a1,.int .i64 n1,.slice p l1 c,.int .u8 a2,.int .i64 n2,.slice p' l2 c'] (by decide) (by decide) (sl_lit2 (fun j u hj=>at_new (by simpa using hj)) rfl) fun i x hx=>?_)
  ·simp only[List.mem_cons,List.not_mem_nil,or_false]at hx
   rcases hx with rfl | rfl
   ·omega
   ·omega
  ·match i,hx with
   | 0,hx=>simp only[List.getElem?_cons_zero,Option.some.injEq]at hx;subst hx;exact h0.ext (hW.trans X)
   | 1,hx=>simp only[List.getElem?_cons_zero,List.getElem?_cons_succ,Option.some.injEq]at hx;subst hx;exact h0'.ext (hW.trans X)
   | i+2,hx=>simp at hx
 clear h h' h0 h0' ha1 ha2 hn1 hn2 hl1 hl2 hz hz'
 go_enter Tryz.func32,Tryz.ntmps32
 go_upto_region 1 with fail
 obtain⟨W3,hW3⟩:∃ W,W=((w.alloc (.cells #[.int .u8 a1,.int .i64 n1,.slice p l1 c] 29)).alloc (.cells #[.int .u8 a2,.int .i64 n2,.slice p' l2 c'] 29)).alloc (.cells #[.int .u8 0,.int .i64 0,.slice none 0 0] 29):=⟨_,rfl⟩
 have X3:Hid (Ext w W3):=by rw[hW3];exact ((eR.alloc _).alloc _).alloc _
 have BK:Hid (Bk 3 (s1+1+1) W3):=by rw[hW3,←hs1];exact Bk.new2 3 rfl
 have P0:Hid (At s1 0 (.int .u8 a1) W3):=by rw[hW3,←hs1];exact ((at_new rfl).ext (eR.alloc _)).ext (eR.alloc _)
 have P1:Hid (At s1 1 (.int .i64 n1) W3):=by rw[hW3,←hs1];exact ((at_new rfl).ext (eR.alloc _)).ext (eR.alloc _)
 have P2:Hid (At s1 2 (.slice p l1 c) W3):=by rw[hW3,←hs1];exact ((at_new rfl).ext (eR.alloc _)).ext (eR.alloc _)
 have Q0:Hid (At (s1+1) 0 (.int .u8 a2) W3):=by rw[hW3,←hs1];exact (At.n1 rfl).ext (eR.alloc _)
 have Q1:Hid (At (s1+1) 1 (.int .i64 n2) W3):=by rw[hW3,←hs1];exact (At.n1 rfl).ext (eR.alloc _)
 have Q2:Hid (At (s1+1) 2 (.slice p' l2 c') W3):=by rw[hW3,←hs1];exact (At.n1 rfl).ext (eR.alloc _)
 have SZ:Hid (s1+1+1<W3.heap.size):=BK.out.lt;rw[←hW3];have HS1:Hid (w.heap.size=s1):=hs1;clear hW3 hs1;have c0:=P0.out.1;have c1:=P1.out.1;have c2:=P2.out.1;have e0:=Q0.out.1;have e1:=Q1.out.1;have e2:=Q2.out.1;go_wp2_with fail;refine (HT.out _ X3.out).mono ?_;rintro e w2 ⟨v,rfl,o1,x2⟩;obtain⟨p9,c9,rfl⟩:=o1.shape;have X4:Hid (Ext W3 w2):=(eR.alloc _).trans x2;have BK2:=Hd (BK.out.ext X4.out);have O1:Hid (OwV (s1+1+1+1) w2 (.agg #[.int .u8 (((VT.mk 3 0 [t,t']).k:Nat):Int),.int .i64 (VT.mk 3 0 [t,t']).n,.slice p9 (VT.mk 3 0 [t,t']).l.length c9]) (.mk 3 0 [t,t'])):=o1.mono (by rw[size_alloc];have:=SZ.out;omega);clear o1 x2 HT c0 c1 c2 e0 e1 e2
 obtain⟨s0,hs0⟩:∃ s,s1+1+1=s:=⟨_,rfl⟩
 rw[hs0]at BK2 O1 ⊢
 have HS:Hid (w.heap.size≤s0):=by show _≤_;have:=HS1.out;omega
 clear hs0;have f0:=BK2.out.lt;obtain⟨g0_,g0⟩:=BK2.out.cell (o:=0) (by decide);have z0:=BK2.out.free 0;obtain⟨g1_,g1⟩:=BK2.out.cell (o:=1) (by decide);have z1:=BK2.out.free 1;obtain⟨g2_,g2⟩:=BK2.out.cell (o:=2) (by decide);have z2:=BK2.out.free 2;go_wp2_with fail;obtain⟨d0,d1,d2⟩:=out3 BK2.out (.int .u8 (((VT.mk 3 0 [t,t']).k:Nat):Int)) (.int .i64 (VT.mk 3 0 [t,t']).n) (.slice p9 (VT.mk 3 0 [t,t']).l.length c9);refine bodyPost_ret (v:=.agg #[.int .u8 (((VT.mk 3 0 [t,t']).k:Nat):Int),.int .i64 (VT.mk 3 0 [t,t']).n,.slice p9 (VT.mk 3 0 [t,t']).l.length c9]) (by simp [results,Tryz.results32,go_sem,d0,d1,d2]) rfl ?_;have hlt:s0<s0+1:=Nat.lt_succ_self _;exact⟨_,rfl,(((O1.out.set_other (a:=⟨s0,0,none⟩) hlt _).set_other (a:=⟨s0,1,none⟩) hlt _).set_other (a:=⟨s0,2,none⟩) hlt _).mono (by have:=HS.out;omega),ext_out3 (X3.out.trans X4.out) HS.out _ _ _⟩
theorem pair_how:HowFn 32 (fun t t' => .mk 3 0 [t,t']):=⟨fun args w => Tryz.call32 args w,fun h h' z z'=>pair1_calls h h' z z'⟩
set_option maxHeartbeats 2000000 in
set_option maxRecDepth 100000 in
theorem mapn_calls {w:World}{v:Value}{t:VT}(h:IsV w v t):Calls Tryz.prog 35 #[v] w (RetV w (.mk 1 t.n [])):=by
 have hb:=h.bounds;obtain⟨p,c,rfl⟩:=h.shape
 obtain⟨a1,ha1⟩:∃ a,(t.k:Int)=a:=⟨_,rfl⟩
 obtain⟨n1,hn1⟩:∃ a,t.n=a:=⟨_,rfl⟩
 obtain⟨l1,hl1⟩:∃ a,t.l.length=a:=⟨_,rfl⟩
 rw[hn1]at hb;rw[ha1,hn1,hl1];have HB:Hid (-9223372036854775808≤n1∧n1≤9223372036854775807):=hb.2;clear h ha1 hn1 hl1 hb
 go_enter Tryz.func35,Tryz.ntmps35
 go_wp2_with fail;refine (vnumT_calls _ _).mono ?_;rintro z w1 ⟨rfl,x1⟩
 obtain⟨s0,hs0⟩:∃ s,w.heap.size+1=s:=⟨_,rfl⟩
 have BK:Hid (Bk 3 s0 w1):=by rw[←hs0];refine Bk.ext ?_ x1;exact Bk.new1 3 rfl
 have X1:Hid (Ext w w1):=((eR.alloc _).alloc _).trans x1
 have HS:Hid (w.heap.size≤s0):=by show _≤_;omega
 rw[hs0];clear hs0 x1;have f0:=BK.out.lt;obtain⟨g0_,g0⟩:=BK.out.cell (o:=0) (by decide);have z0:=BK.out.free 0;obtain⟨g1_,g1⟩:=BK.out.cell (o:=1) (by decide);have z1:=BK.out.free 1;obtain⟨g2_,g2⟩:=BK.out.cell (o:=2) (by decide);have z2:=BK.out.free 2;go_wp2_with fail;obtain⟨c0,c1,c2⟩:=out3 BK.out (.int .u8 1) (.int .i64 n1) (.slice none 0 0);refine bodyPost_ret (v:=.agg #[.int .u8 1,.int .i64 n1,.slice none 0 0]) (by simp [results,Tryz.results35,go_sem,c0,c1,c2]) rfl ?_;exact⟨_,rfl,owV_num _ _ _ HB.out,ext_out3 X1.out HS.out _ _ _⟩
theorem mapn_how:MapFn 35 (fun t => .mk 1 t.n []):=⟨fun args w => Tryz.call35 args w,fun h _=>mapn_calls h⟩
set_option maxHeartbeats 2000000 in
set_option maxRecDepth 100000 in
theorem less1_calls {w:World}{v:Value}{t u:VT}{c:Nat}{k:Nat}{n:Int}{p:Option Addr}{x y:Nat}(h:IsV w v t) (hu:IsV w (.agg #[.int .u8 (k:Int),.int .i64 n,.slice p x y]) u) (b0:At c 0 (.int .u8 (k:Int)) w) (b1:At c 1 (.int .i64 n) w) (b2:At c 2 (.slice p x y) w) :
  Calls Tryz.prog 40 #[v,.pointer (some ⟨c,0,none⟩)] w fun z w'=>z = .returned (.bool (decide (cmpV t u<0)))∧Ext w w':=by
 obtain⟨p1,c1,rfl⟩:=h.shape
 have HC:Hid (∀ W,Ext w W→Calls Tryz.prog 10 #[.agg #[.int .u8 (t.k:Int),.int .i64 t.n,.slice p1 t.l.length c1],.agg #[.int .u8 (k:Int),.int .i64 n,.slice p x y]] W fun e w'=>e = .returned (.int .i64 (cmpV t u))∧Ext W w'):=fun W hW=>vcmp_calls _ _ _ _ _ (h.ext hW) (hu.ext hW)
 obtain⟨cv,hcv⟩:∃ a,cmpV t u=a:=⟨_,rfl⟩
 obtain⟨a1,ha1⟩:∃ a,(t.k:Int)=a:=⟨_,rfl⟩
 obtain⟨n1,hn1⟩:∃ a,t.n=a:=⟨_,rfl⟩
 obtain⟨l1,hl1⟩:∃ a,t.l.length=a:=⟨_,rfl⟩
 rw[ha1,hn1,hl1,hcv]at HC;rw[ha1,hn1,hl1,hcv];have X:Hid (Ext w (w.alloc (.cells #[.int .u8 a1,.int .i64 n1,.slice p1 l1 c1] 29))):=eR.alloc _;have q0:=(b0.ext X.out).1;have q1:=(b1.ext X.out).1;have q2:=(b2.ext X.out).1;have hlt:=b0.2;have r0:=b0.1;have r1:=b1.1;have r2:=b2.1;clear h hu ha1 hn1 hl1 hcv b0 b1 b2
 by_cases hc:cv<0
 all_goals
  go_enter Tryz.func40,Tryz.ntmps40
  go_wp2_with fail;refine (HC.out _ X.out).mono ?_;rintro z w1 ⟨rfl,x1⟩;have X1:=Hd (X.out.trans x1);clear x1 q0 q1 q2 r0 r1 r2 hlt;go_wp2_with fail;go_ret;exact⟨by first | rfl | (simp;done) | (simp [hc];done) | (simp [hc];omega),X1.out⟩
theorem less1_how {w:World}{u:VT}{c:Nat}{k:Nat}{n:Int}{p:Option Addr}{x y:Nat}(hu:IsV w (.agg #[.int .u8 (k:Int),.int .i64 n,.slice p x y]) u) (b0:At c 0 (.int .u8 (k:Int)) w) (b1:At c 1 (.int .i64 n) w) (b2:At c 2 (.slice p x y) w):KeepFn 40 c w (fun t=>decide (cmpV t u<0)) :=
 ⟨fun args w => Tryz.call40 args w,fun hx h _=>less1_calls h (hu.ext hx) (b0.ext hx) (b1.ext hx) (b2.ext hx)⟩
set_option maxHeartbeats 2000000 in
set_option maxRecDepth 100000 in
theorem more1_calls {w:World}{v:Value}{t u:VT}{c:Nat}{k:Nat}{n:Int}{p:Option Addr}{x y:Nat}(h:IsV w v t) (hu:IsV w (.agg #[.int .u8 (k:Int),.int .i64 n,.slice p x y]) u) (b0:At c 0 (.int .u8 (k:Int)) w) (b1:At c 1 (.int .i64 n) w) (b2:At c 2 (.slice p x y) w) :
  Calls Tryz.prog 41 #[v,.pointer (some ⟨c,0,none⟩)] w fun z w'=>z = .returned (.bool (!decide (cmpV t u<0)))∧Ext w w':=by
 obtain⟨p1,c1,rfl⟩:=h.shape
 have HC:Hid (∀ W,Ext w W→Calls Tryz.prog 10 #[.agg #[.int .u8 (t.k:Int),.int .i64 t.n,.slice p1 t.l.length c1],.agg #[.int .u8 (k:Int),.int .i64 n,.slice p x y]] W fun e w'=>e = .returned (.int .i64 (cmpV t u))∧Ext W w'):=fun W hW=>vcmp_calls _ _ _ _ _ (h.ext hW) (hu.ext hW)
 obtain⟨cv,hcv⟩:∃ a,cmpV t u=a:=⟨_,rfl⟩
 obtain⟨a1,ha1⟩:∃ a,(t.k:Int)=a:=⟨_,rfl⟩
 obtain⟨n1,hn1⟩:∃ a,t.n=a:=⟨_,rfl⟩
 obtain⟨l1,hl1⟩:∃ a,t.l.length=a:=⟨_,rfl⟩
 rw[ha1,hn1,hl1,hcv]at HC;rw[ha1,hn1,hl1,hcv];have X:Hid (Ext w (w.alloc (.cells #[.int .u8 a1,.int .i64 n1,.slice p1 l1 c1] 29))):=eR.alloc _;have q0:=(b0.ext X.out).1;have q1:=(b1.ext X.out).1;have q2:=(b2.ext X.out).1;have hlt:=b0.2;have r0:=b0.1;have r1:=b1.1;have r2:=b2.1;clear h hu ha1 hn1 hl1 hcv b0 b1 b2
 by_cases hc:cv<0
 all_goals
  go_enter Tryz.func41,Tryz.ntmps41
  go_wp2_with fail;refine (HC.out _ X.out).mono ?_;rintro z w1 ⟨rfl,x1⟩;have X1:=Hd (X.out.trans x1);clear x1 q0 q1 q2 r0 r1 r2 hlt;go_wp2_with fail;go_ret;exact⟨by first | rfl | (simp;done) | (simp [hc];done) | (simp [hc];omega),X1.out⟩
theorem more1_how {w:World}{u:VT}{c:Nat}{k:Nat}{n:Int}{p:Option Addr}{x y:Nat}(hu:IsV w (.agg #[.int .u8 (k:Int),.int .i64 n,.slice p x y]) u) (b0:At c 0 (.int .u8 (k:Int)) w) (b1:At c 1 (.int .i64 n) w) (b2:At c 2 (.slice p x y) w):KeepFn 41 c w (fun t => !decide (cmpV t u<0)) :=
 ⟨fun args w => Tryz.call41 args w,fun hx h _=>more1_calls h (hu.ext hx) (b0.ext hx) (b1.ext hx) (b2.ext hx)⟩
end Go.Proofs.YtfofjalebhajhaaGreatDoor
