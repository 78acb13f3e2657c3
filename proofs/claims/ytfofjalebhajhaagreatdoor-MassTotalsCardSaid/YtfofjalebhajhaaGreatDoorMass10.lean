/- share, sum, val.Num; Even's function. -/
import Derived.Test.YtfofjalebhajhaaGreatDoorMass9
namespace Go.Proofs.YtfofjalebhajhaaGreatDoor
open Go Go.RowKit
theorem wrap64_range (y:Int):-9223372036854775808≤wrap64 y∧wrap64 y≤9223372036854775807:=by
 unfold wrap64;omega
theorem size_alloc (w:World) (o:Obj):(w.alloc o).heap.size=w.heap.size+1:=Array.size_push ..
theorem Bk.new2 {w:World}{o1 o2:Obj}{C:Array Value}{t:TypeId}(n:Nat) (h:C.size=n):Bk n (w.heap.size+1+1) (((w.alloc o1).alloc o2).alloc (.cells C t)):=by
 have:=Bk.new' (w:=(w.alloc o1).alloc o2) (t:=t) n h
 rwa [show ((w.alloc o1).alloc o2).heap.size=w.heap.size+1+1 by rw[size_alloc,size_alloc]]at this
theorem Bk.new1 {w:World}{o1:Obj}{C:Array Value}{t:TypeId}(n:Nat) (h:C.size=n):Bk n (w.heap.size+1) ((w.alloc o1).alloc (.cells C t)):=by
 have:=Bk.new' (w:=w.alloc o1) (t:=t) n h
 rwa [size_alloc w o1]at this
theorem tyS_new1 {w:World}{o1:Obj}{C:Array Value}:TyS (w.heap.size+1) ((w.alloc o1).alloc (.cells C 47)):=by
 refine⟨C,?_⟩;have:=heap_alloc_new (w.alloc o1) (.cells C 47)
 rwa [size_alloc w o1]at this
theorem tyS_new {w:World}{C:Array Value}:TyS w.heap.size (w.alloc (.cells C 47)):=⟨C,heap_alloc_new w _⟩
theorem owV_num (B:Nat) (w:World) (n:Int) (h:-9223372036854775808≤n∧n≤9223372036854775807):OwV B w (.agg #[.int .u8 1,.int .i64 n,.slice none 0 0]) (.mk 1 n []):=OwV.mk 1 n [] none 0 [] (by decide) h (World.ownsRow_nil ..) fun i x hx=>by simp at hx
theorem isR_set6 {B:Nat}{w:World}{b:Bool}{v u:Value}{m d s:Nat}{q:Rat}(h:IsR w b v u m d q) (o:OwnR B w v u m d) (ty:TyS s w) (x0 x1 x2 x3 x4 x5:Value):IsR ((((((w.setCell ⟨s,0,none⟩ (x0)).setCell ⟨s,1,none⟩ (x1)).setCell ⟨s,2,none⟩ (x2)).setCell ⟨s,3,none⟩ (x3)).setCell ⟨s,4,none⟩ (x4)).setCell ⟨s,5,none⟩ (x5)) b v u m d q∧OwnR B ((((((w.setCell ⟨s,0,none⟩ (x0)).setCell ⟨s,1,none⟩ (x1)).setCell ⟨s,2,none⟩ (x2)).setCell ⟨s,3,none⟩ (x3)).setCell ⟨s,4,none⟩ (x4)).setCell ⟨s,5,none⟩ (x5)) v u m d:=by
 have t1:=ty.setCell 0 x0;have t2:=t1.setCell 1 x1;have t3:=t2.setCell 2 x2;have t4:=t3.setCell 3 x3;have t5:=t4.setCell 4 x4;have o1:=(((((o.1.setS ty 0 x0).setS t1 1 x1).setS t2 2 x2).setS t3 3 x3).setS t4 4 x4).setS t5 5 x5;have o2:=(((((o.2.setS ty 0 x0).setS t1 1 x1).setS t2 2 x2).setS t3 3 x3).setS t4 4 x4).setS t5 5 x5;exact⟨⟨h.1,h.2.1,h.2.2.1,o1.limbs,o2.limbs⟩,o1,o2⟩
def RetSh (w:World) (pt:Pt) (z:Ending) (w':World):Prop :=
 ∃ (k:Nat) (n:Int) (p:Option Addr) (x y:Nat) (s:Bool) (p1:Option Addr) (n1 c1:Nat) (p2:Option Addr) (n2 c2:Nat),
  z = .returned (.agg #[.int .u8 (k:Int),.int .i64 n,.slice p x y,.bool s,.slice p1 n1 c1,.slice p2 n2 c2])∧ElO w' ([.int .u8 (k:Int),.int .i64 n,.slice p x y,.bool s,.slice p1 n1 c1,.slice p2 n2 c2],pt)∧Ext w w'
structure HowFn (G:Nat) (f:VT→VT→VT):Prop where
 enter:∀ args w,(callFunc G args).run Tryz.prog w = .ok (.enter G args) w
 call:∀ {w:World}{v v':Value}{t t':VT},IsV w v t→IsV w v' t'→szV t≤100000→szV t'≤100000→Calls Tryz.prog G #[v,v'] w (RetV w (f t t'))
set_option maxHeartbeats 2000000 in
set_option maxRecDepth 100000 in
theorem sum_calls {w:World}{v v':Value}{t t':VT}(h:IsV w v t) (h':IsV w v' t'):Calls Tryz.prog 43 #[v,v'] w (RetV w (.mk 1 (wrap64 (t.n+t'.n)) [])):=by
 obtain⟨p,c,rfl⟩:=h.shape;obtain⟨p',c',rfl⟩:=h'.shape
 obtain⟨a1,ha1⟩:∃ a,(t.k:Int)=a:=⟨_,rfl⟩
 obtain⟨a2,ha2⟩:∃ a,(t'.k:Int)=a:=⟨_,rfl⟩
 obtain⟨n1,hn1⟩:∃ a,t.n=a:=⟨_,rfl⟩
 obtain⟨n2,hn2⟩:∃ a,t'.n=a:=⟨_,rfl⟩
 rw[ha1,ha2,hn1,hn2]
 obtain⟨N,hN⟩:∃ a,wrap64 (n1+n2)=a:=⟨_,rfl⟩
 have HN:=Hd hN
 have RN:Hid (-9223372036854775808≤N∧N≤9223372036854775807):=by
  show _∧_
  rw[←hN];exact wrap64_range _
 clear h h' ha1 ha2 hn1 hn2 hN
 go_enter Tryz.func43,Tryz.ntmps43
 go_wp2_with fail;rw[HN.out];refine (num_calls _ _).mono ?_;rintro z w1 ⟨rfl,x1⟩
 obtain⟨s0,hs0⟩:∃ s,w.heap.size+1+1=s:=⟨_,rfl⟩
 have BK:Hid (Bk 3 s0 w1):=by rw[←hs0];refine Bk.ext ?_ x1;exact Bk.new2 3 rfl
 have X1:Hid (Ext w w1):=(((eR.alloc _).alloc _).alloc _).trans x1
 have HS:Hid (w.heap.size≤s0):=by show _≤_;omega
 rw[hs0];clear hs0 x1;have f0:=BK.out.lt;obtain⟨g0_,g0⟩:=BK.out.cell (o:=0) (by decide);have z0:=BK.out.free 0;obtain⟨g1_,g1⟩:=BK.out.cell (o:=1) (by decide);have z1:=BK.out.free 1;obtain⟨g2_,g2⟩:=BK.out.cell (o:=2) (by decide);have z2:=BK.out.free 2;go_wp2_with fail;obtain⟨c0,c1,c2⟩:=out3 BK.out (.int .u8 1) (.int .i64 N) (.slice none 0 0);refine bodyPost_ret (v:=.agg #[.int .u8 1,.int .i64 N,.slice none 0 0]) (by simp [results,Tryz.results43,go_sem,c0,c1,c2]) rfl ?_;exact⟨_,rfl,by rw[HN.out];exact owV_num _ _ _ RN.out,ext_out3 X1.out HS.out _ _ _⟩
theorem sum_how:HowFn 43 (fun t t' => .mk 1 (wrap64 (t.n+t'.n)) []):=⟨fun args w => Tryz.call43 args w,fun h h' _ _=>sum_calls h h'⟩
set_option maxHeartbeats 2000000 in
set_option maxRecDepth 100000 in
theorem share_calls (w:World) (m n d:Int) (hm:-9223372036854775808≤m∧m≤9223372036854775807) (hn:-9223372036854775808≤n∧n≤9223372036854775807) (hd:-9223372036854775808≤d∧d≤9223372036854775807) (h0:d≠0){q:Rat}(hq:Rat.divInt n d=q) :
  Calls Tryz.prog 21 #[.int .i64 m,.int .i64 n,.int .i64 d] w (RetSh w (.mk 1 m [],q)):=by
 have HO:Hid (∀ W,Calls Tryz.prog 13 #[.int .i64 n,.int .i64 d] W (RetR W q)):=fun W=>over_calls W n d hn hd h0 hq
 have HM:=Hd hm;clear hm hn hd h0 hq
 go_enter Tryz.func21,Tryz.ntmps21
 go_wp2_with fail;refine (num_calls _ _).mono ?_;rintro z w1 ⟨rfl,x1⟩
 obtain⟨s0,hs0⟩:∃ s,w.heap.size=s:=⟨_,rfl⟩
 have BK1:Hid (Bk 6 s0 w1):=by rw[←hs0];exact (Bk.new' 6 rfl).ext x1
 have TY1:Hid (TyS s0 w1):=by rw[←hs0];exact tyS_new.ext x1
 have X1:Hid (Ext w w1):=(eR.alloc _).trans x1;have HS:=Hd (Nat.le_of_eq hs0);rw[hs0];clear hs0 x1;go_wp2_with fail;refine (HO.out _).mono ?_;rintro e w2 ⟨sb,sv,su,sm,sd,rfl,e1,o1,x2⟩;obtain⟨sp,sl,sc,tp,tl,tc,rfl,rfl⟩:=e1.slice;have BK:=Hd (BK1.out.ext x2);have TY:=Hd (TY1.out.ext x2);have X2:=Hd (X1.out.trans x2);have E1:=Hd e1;have O1:=Hd o1;clear e1 o1 x2 BK1 TY1 X1;have f0:=BK.out.lt;obtain⟨g0_,g0⟩:=BK.out.cell (o:=0) (by decide);have z0:=BK.out.free 0;obtain⟨g1_,g1⟩:=BK.out.cell (o:=1) (by decide);have z1:=BK.out.free 1;obtain⟨g2_,g2⟩:=BK.out.cell (o:=2) (by decide);have z2:=BK.out.free 2;obtain⟨g3_,g3⟩:=BK.out.cell (o:=3) (by decide);have z3:=BK.out.free 3;obtain⟨g4_,g4⟩:=BK.out.cell (o:=4) (by decide);have z4:=BK.out.free 4;obtain⟨g5_,g5⟩:=BK.out.cell (o:=5) (by decide);have z5:=BK.out.free 5;go_wp2_with fail;have ho:=out6 BK.out (.int .u8 1) (.int .i64 m) (.slice none 0 0) (.bool sb) (.slice sp sl sc) (.slice tp tl tc);obtain⟨c0,c1,c2,c3,c4,c5⟩:=ho;refine bodyPost_ret (v:=.agg #[.int .u8 1,.int .i64 m,.slice none 0 0,.bool sb,.slice sp sl sc,.slice tp tl tc]) (by simp [results,Tryz.results21,go_sem,c0,c1,c2,c3,c4,c5]) rfl ?_;obtain⟨r1,r2⟩:=isR_set6 E1.out O1.out TY.out (.int .u8 1) (.int .i64 m) (.slice none 0 0) (.bool sb) (.slice sp sl sc) (.slice tp tl tc);refine⟨1,m,none,0,0,sb,_,_,_,_,_,_,rfl,⟨1,m,none,0,0,sb,_,_,_,_,_,_,rfl,owV_num _ _ _ HM.out,r1.1,?_,?_⟩,ext_out6 X2.out HS.out _ _ _ _ _ _⟩
 ·rw[r1.2.1];exact r2.1.mono (Nat.zero_le _)
 ·rw[r1.2.2.1];exact r2.2.mono (Nat.zero_le _)
set_option maxHeartbeats 2000000 in
set_option maxRecDepth 100000 in
theorem even1_calls {w:World}{k:Nat}{n:Int}{p:Option Addr}{x y:Nat}{t:VT}(hv:IsV w (.agg #[.int .u8 (k:Int),.int .i64 n,.slice p x y]) t){b:Nat}{q:Option Addr}{m c:Nat}(hb:At b 0 (.slice q m c) w) (h1:1≤m) (h2:m≤100000){r:Rat}(hr:Rat.divInt 1 (m:Int)=r) :
  Calls Tryz.prog 45 #[.agg #[.int .u8 (k:Int),.int .i64 n,.slice p x y],.pointer (some ⟨b,0,none⟩)] w (MkRet (some (t,r)) 1 w):=by
 have HO:Hid (∀ W,Calls Tryz.prog 46 #[.int .i64 1,.int .i64 (m:Int)] W (RetR0 W r)):=fun W=>over_is W 1 m (by decide) (by decide) (by omega) (by omega) (by omega) hr
 have HLR:Hid (LenR 1 r):=lenR_over (n:=1) (d:=m) (by decide) (by decide) (by omega) (by omega) hr;have HV:=Hd hv;have hb0:=hb.1;have hbl:=hb.2;clear hv hb h1 h2 hr
 go_enter Tryz.func45,Tryz.ntmps45
 go_wp2_with fail;refine (HO.out _).mono ?_;rintro e w2 ⟨sb,sv,su,sm,sd,rfl,e1,o1,x2⟩;obtain⟨sp,sl,sc,tp,tl,tc,rfl,rfl⟩:=e1.slice
 obtain⟨b2,hb2⟩:∃ s,w.heap.size=s:=⟨_,rfl⟩
 obtain⟨s0,hs0⟩:∃ s,b2+1=s:=⟨_,rfl⟩
 have hne:¬ s0=b2:=by omega
 have hne':¬ b2=s0:=by omega
 have BK:Hid (Bk 6 s0 w2):=by rw[←hs0,←hb2];exact (Bk.new1 6 rfl).ext x2
 have TY:Hid (TyS s0 w2):=by rw[←hs0,←hb2];exact tyS_new1.ext x2
 have X2:Hid (Ext w w2):=((eR.alloc _).alloc _).trans x2
 have HS:Hid (w.heap.size≤s0):=by show _≤_;omega
 have BV0:Hid (At b2 0 (.int .u8 (k:Int)) w2):=by rw[←hb2];exact ((at_new rfl).ext (eR.alloc _)).ext x2
 have BV1:Hid (At b2 1 (.int .i64 n) w2):=by rw[←hb2];exact ((at_new rfl).ext (eR.alloc _)).ext x2
 have BV2:Hid (At b2 2 (.slice p x y) w2):=by rw[←hb2];exact ((at_new rfl).ext (eR.alloc _)).ext x2
 have E1:=Hd e1;have O1:=Hd o1;rw[hb2,hs0];clear hb2 hs0 e1 o1 x2 hb0 hbl
 go_upto_region 2 with fail
 have XR:Ext w2 (w2.alloc (.cells #[.bool sb,.slice sp sl sc,.slice tp tl tc] 36)):=eR.alloc _
 obtain⟨b5,hb5⟩:∃ s,w2.heap.size=s:=⟨_,rfl⟩
 have BR0:Hid (At b5 0 (.bool sb) (w2.alloc (.cells #[.bool sb,.slice sp sl sc,.slice tp tl tc] 36))):=by rw[←hb5];exact at_new rfl
 have BR1:Hid (At b5 1 (.slice sp sl sc) (w2.alloc (.cells #[.bool sb,.slice sp sl sc,.slice tp tl tc] 36))):=by rw[←hb5];exact at_new rfl
 have BR2:Hid (At b5 2 (.slice tp tl tc) (w2.alloc (.cells #[.bool sb,.slice sp sl sc,.slice tp tl tc] 36))):=by rw[←hb5];exact at_new rfl
 rw[hb5]
 obtain⟨w3,hw3⟩:∃ W,W=w2.alloc (.cells #[.bool sb,.slice sp sl sc,.slice tp tl tc] 36):=⟨_,rfl⟩
 rw[←hw3]at XR BR0 BR1 BR2 ⊢;have XR:=Hd XR;have BK:=Hd (BK.out.ext XR.out);have TY:=Hd (TY.out.ext XR.out);have v0:=(BV0.out.ext XR.out).1;have v1:=(BV1.out.ext XR.out).1;have v2:=(BV2.out.ext XR.out).1;have r0:=BR0.out.1;have r1:=BR1.out.1;have r2:=BR2.out.1;clear hw3 hb5 BR0 BR1 BR2;have f0:=BK.out.lt;obtain⟨g0_,g0⟩:=BK.out.cell (o:=0) (by decide);have z0:=BK.out.free 0;obtain⟨g1_,g1⟩:=BK.out.cell (o:=1) (by decide);have z1:=BK.out.free 1;obtain⟨g2_,g2⟩:=BK.out.cell (o:=2) (by decide);have z2:=BK.out.free 2;obtain⟨g3_,g3⟩:=BK.out.cell (o:=3) (by decide);have z3:=BK.out.free 3;obtain⟨g4_,g4⟩:=BK.out.cell (o:=4) (by decide);have z4:=BK.out.free 4;obtain⟨g5_,g5⟩:=BK.out.cell (o:=5) (by decide);have z5:=BK.out.free 5;go_wp2_with fail;obtain⟨c0,c1,c2,c3,c4,c5⟩:=out6 BK.out (.int .u8 (k:Int)) (.int .i64 n) (.slice p x y) (.bool sb) (.slice sp sl sc) (.slice tp tl tc);refine bodyPost_ret (v:=.tuple #[.agg #[.int .u8 (k:Int),.int .i64 n,.slice p x y,.bool sb,.slice sp sl sc,.slice tp tl tc],.bool true]) (by simp [results,Tryz.results45,go_sem,c0,c1,c2,c3,c4,c5]) rfl ?_;obtain⟨r1,r2⟩:=isR_set6 (E1.out.ext XR.out) (O1.out.ext XR.out) TY.out (.int .u8 (k:Int)) (.int .i64 n) (.slice p x y) (.bool sb) (.slice sp sl sc) (.slice tp tl tc)
 have XF:=(ext_out6 (X2.out.trans XR.out) HS.out (.int .u8 (k:Int)) (.int .i64 n) (.slice p x y) (.bool sb) (.slice sp sl sc) (.slice tp tl tc))
 refine⟨k,n,p,x,y,sb,_,_,_,_,_,_,rfl,XF,fun pt hpt=>?_⟩
 injection hpt with hpt
 subst hpt;exact⟨HV.out.ext XF,r1.inR HLR.out⟩
end Go.Proofs.YtfofjalebhajhaaGreatDoor
