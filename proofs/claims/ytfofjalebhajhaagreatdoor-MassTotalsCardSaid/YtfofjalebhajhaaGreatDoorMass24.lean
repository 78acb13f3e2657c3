/- Map's and Keep's function; mass.Map, mass.Keep. -/
import Derived.Test.YtfofjalebhajhaaGreatDoorMass23
namespace Go.Proofs.YtfofjalebhajhaaGreatDoor
open Go Go.RowKit
structure MapFn (G:Nat) (f:VT→VT):Prop where
 enter:∀ args w,(callFunc G args).run Tryz.prog w = .ok (.enter G args) w
 call:∀ {w:World}{v:Value}{t:VT},IsV w v t→szV t≤100000→Calls Tryz.prog G #[v] w (RetV w (f t))
structure KeepFn (G c:Nat) (w0:World) (P:VT→Bool):Prop where
 enter:∀ args w,(callFunc G args).run Tryz.prog w = .ok (.enter G args) w
 call:∀ {w:World}{v:Value}{t:VT},Ext w0 w→IsV w v t→szV t≤100000→Calls Tryz.prog G #[v,.pointer (some ⟨c,0,none⟩)] w fun z w'=>z = .returned (.bool (P t))∧Ext w w'
def Sx.shF (t:VT) (cs:List Value):Sx:=⟨fun v w => ∃ (k:Nat) (n:Int) (p:Option Addr) (a b:Nat),v = .agg (([.int .u8 (k:Int),.int .i64 n,.slice p a b]:List Value) ++ cs).toArray∧OwV 0 w (.agg #[.int .u8 (k:Int),.int .i64 n,.slice p a b]) t,
 fun v w w' ⟨k,n,p,a,b,h1,h2⟩ x=>⟨k,n,p,a,b,h1,h2.ext x⟩⟩
theorem OwV.set6 {w:World}{v:Value}{t:VT}(h:OwV 0 w v t){g:Nat}(t0:TyS g w) (x0 x1 x2 x3 x4 x5:Value):OwV 0 ((((((w.setCell ⟨g,0,none⟩ (x0)).setCell ⟨g,1,none⟩ (x1)).setCell ⟨g,2,none⟩ (x2)).setCell ⟨g,3,none⟩ (x3)).setCell ⟨g,4,none⟩ (x4)).setCell ⟨g,5,none⟩ (x5)) v t:=by
 have t1:=t0.setCell 0 x0;have t2:=t1.setCell 1 x1;have t3:=t2.setCell 2 x2;have t4:=t3.setCell 3 x3;have t5:=t4.setCell 4 x4;exact (((((h.setS t0 0 x0).setS t1 1 x1).setS t2 2 x2).setS t3 3 x3).setS t4 4 x4).setS t5 5 x5
set_option maxHeartbeats 4000000 in
set_option maxRecDepth 100000 in
theorem map1_calls {w:World}{ik:Nat}{iN:Int}{iq:Option Addr}{ia ib:Nat}{is:Bool}{ir:Option Addr}{ic id:Nat}{iu:Option Addr}{ig ih:Nat}{t:VT}{q:Rat}{K G:Nat}{f:VT→VT}(hG:MapFn G f) (hv:IsV w (.agg #[.int .u8 (ik:Int),.int .i64 iN,.slice iq ia ib]) t) (hq:InR w is (.slice ir ic id) (.slice iu ig ih) K q) (hz:szV t≤100000)
  {b:Nat}(hb:At b 0 (.func (.func G) #[] #[]) w):Calls Tryz.prog 62 #[.agg #[.int .u8 (ik:Int),.int .i64 iN,.slice iq ia ib,.bool is,.slice ir ic id,.slice iu ig ih],.pointer (some ⟨b,0,none⟩)] w (MkRet (some (f t,q)) K w):=by
 have eG:=hG.enter;have HG:=Hd hG;have HC1:=Hd (copy_calls t (Nat.le_trans hz (by decide)));have HZ:=Hd hz;have HV:=Hd hv;have HQ:=Hd hq;have hb0:=Hd hb;clear hG hv hq hz hb
 go_enter Tryz.func62,Tryz.ntmps62
 go_upto_region 1 with fail
 obtain⟨b2,hb2⟩:∃ s,w.heap.size=s:=⟨_,rfl⟩
 obtain⟨s0,hs0⟩:∃ s,b2+1=s:=⟨_,rfl⟩
 have HS:Hid (w.heap.size≤s0):=by show _≤_;omega
 obtain⟨W,hW⟩:∃ W,W=((w.alloc (.cells #[.int .u8 (ik:Int),.int .i64 iN,.slice iq ia ib,.bool is,.slice ir ic id,.slice iu ig ih] 47)).alloc (.cells #[.int .u8 0,.int .i64 0,.slice none 0 0,.bool false,.slice none 0 0,.slice none 0 0] 47)):=⟨_,rfl⟩
 have XW:Hid (Ext w W):=by rw[hW];exact (eR.alloc _).alloc _
 have BK:Hid (Bk 6 s0 W):=by rw[hW,←hs0,←hb2];exact Bk.new1 6 rfl
 have TY:Hid (TyS s0 W):=by rw[hW,←hs0,←hb2];exact tyS_new1
 have PB0:Hid (At b2 0 (.int .u8 (ik:Int)) W):=by rw[hW,←hb2];exact (at_new rfl).ext (eR.alloc _)
 have PB1:Hid (At b2 1 (.int .i64 iN) W):=by rw[hW,←hb2];exact (at_new rfl).ext (eR.alloc _)
 have PB2:Hid (At b2 2 (.slice iq ia ib) W):=by rw[hW,←hb2];exact (at_new rfl).ext (eR.alloc _)
 have PB3:Hid (At b2 3 (.bool is) W):=by rw[hW,←hb2];exact (at_new rfl).ext (eR.alloc _)
 have PB4:Hid (At b2 4 (.slice ir ic id) W):=by rw[hW,←hb2];exact (at_new rfl).ext (eR.alloc _)
 have PB5:Hid (At b2 5 (.slice iu ig ih) W):=by rw[hW,←hb2];exact (at_new rfl).ext (eR.alloc _)
 rw[hb2,hs0,←hW];clear hW hb2 hs0;have CB0:=Hd (hb0.out.ext XW.out);refine wp_region_tail [5,6,7,8,9,10,11,12] [8,9] (fun ix__=>([Sx.val (.func (.func G) #[] #[]),Sx.val (.pointer (some ⟨b2,0,none⟩)),Sx.val (.agg #[.int .u8 (ik:Int),.int .i64 iN,.slice iq ia ib]),Sx.ownV t,Sx.ownV (f t),Sx.val (.pointer (some ⟨b2,3,none⟩)),Sx.val (.agg #[.bool is,.slice ir ic id,.slice iu ig ih]),Sx.shF (f t) [.bool is,.slice ir ic id,.slice iu ig ih]]:List Sx).getD ix__ (Sx.val undef)) (by kernel_rfl) (by kernel_rfl) ?hs ?ht
 case hs =>
  refine⟨?_,?_,?_,?_,?_,?_,?_,?_,fun _ => .inl rfl,fun _ => .inl rfl,trivial⟩
  ·refine XStep.op rfl fun ac wk hp K hK=>?_;have t1_:ac.tmps[1]?.getD undef = .pointer (some ⟨b,0,none⟩):=hp.slot 1 rfl rfl;have q0:=((CB0.out).ext hp.ext).1;clear hp;go_simp;exact hK.out _ _ rfl eR
  ·refine XStep.op rfl fun ac wk hp K hK=>?_;have t2_:ac.tmps[2]?.getD undef = .pointer (some ⟨b2,0,none⟩):=hp.slot 2 rfl rfl;clear hp;go_simp;exact hK.out _ _ rfl eR
  ·refine XStep.op rfl fun ac wk hp K hK=>?_;have t6_:=hp.v 1;have q0:=((PB0.out).ext hp.ext).1;have q1:=((PB1.out).ext hp.ext).1;have q2:=((PB2.out).ext hp.ext).1;clear hp;go_simp;exact hK.out _ _ rfl eR
  ·refine XStep.op rfl fun ac wk hp K hK=>?_;have t7_:=hp.v 2;have xe:=Hd hp.ext;clear hp;go_simp;refine (HC1.out _ _ ((HV.out.ext XW.out).ext xe.out)).mono ?_;rintro e wk' ⟨v,rfl,o1,ix⟩;obtain⟨p9,c9,rfl⟩:=o1.shape;exact hK.out _ _ ⟨_,_,_,_,_,rfl,o1.mono (Nat.zero_le _)⟩ ix
  ·refine XStep.op rfl fun ac wk hp K hK=>?_;have t5_:=hp.v 0;obtain⟨f8k,f8n,f8q,f8a,f8b,f8e,f8o⟩:=hp.g 3;rw[f8e]at f8o;have t8_:ac.tmps[8]?.getD undef = .agg #[.int .u8 (f8k:Int),.int .i64 f8n,.slice f8q f8a f8b]:=slot_is' f8e;have xe:=Hd hp.ext;clear hp f8e;go_simp;refine (HG.out.call f8o.isV HZ.out).mono ?_;rintro e wk' ⟨v,rfl,o1,ix⟩;obtain⟨p9,c9,rfl⟩:=o1.shape;exact hK.out _ _ ⟨_,_,_,_,_,rfl,o1.mono (Nat.zero_le _)⟩ ix
  ·refine XStep.op rfl fun ac wk hp K hK=>?_;have t2_:ac.tmps[2]?.getD undef = .pointer (some ⟨b2,0,none⟩):=hp.slot 2 rfl rfl;clear hp;go_simp;exact hK.out _ _ rfl eR
  ·refine XStep.op rfl fun ac wk hp K hK=>?_;have t10_:=hp.v 5;have q0:=((PB3.out).ext hp.ext).1;have q1:=((PB4.out).ext hp.ext).1;have q2:=((PB5.out).ext hp.ext).1;clear hp;go_simp;exact hK.out _ _ rfl eR
  ·refine XStep.op rfl fun ac wk hp K hK=>?_;obtain⟨f9k,f9n,f9q,f9a,f9b,f9e,f9o⟩:=hp.g 4;rw[f9e]at f9o;have t9_:ac.tmps[9]?.getD undef = .agg #[.int .u8 (f9k:Int),.int .i64 f9n,.slice f9q f9a f9b]:=slot_is' f9e;have t11_:=hp.v 6;have xe:=Hd hp.ext;clear hp f9e;go_simp;exact hK.out _ _ ⟨_,_,_,_,_,rfl,f9o⟩ eR
 case ht =>
  intro ac v2 hag hext hpost;have z5_:sl ac 5 = .func (.func G) #[] #[]:=hpost 0 (by decide +kernel) rfl;have z6_:sl ac 6 = .pointer (some ⟨b2,0,none⟩):=hpost 1 (by decide +kernel) rfl;have z7_:sl ac 7 = .agg #[.int .u8 (ik:Int),.int .i64 iN,.slice iq ia ib]:=hpost 2 (by decide +kernel) rfl;obtain⟨f8k,f8n,f8q,f8a,f8b,f8e,f8o⟩:=hpost 3 (by decide +kernel) rfl;rw[f8e]at f8o;have z8_:sl ac 8 = .agg #[.int .u8 (f8k:Int),.int .i64 f8n,.slice f8q f8a f8b]:=f8e;obtain⟨f9k,f9n,f9q,f9a,f9b,f9e,f9o⟩:=hpost 4 (by decide +kernel) rfl;rw[f9e]at f9o;have z9_:sl ac 9 = .agg #[.int .u8 (f9k:Int),.int .i64 f9n,.slice f9q f9a f9b]:=f9e;have z10_:sl ac 10 = .pointer (some ⟨b2,3,none⟩):=hpost 5 (by decide +kernel) rfl;have z11_:sl ac 11 = .agg #[.bool is,.slice ir ic id,.slice iu ig ih]:=hpost 6 (by decide +kernel) rfl;obtain⟨f12k,f12n,f12q,f12a,f12b,f12e,f12o⟩:=hpost 7 (by decide +kernel) rfl;have z12_:sl ac 12 = .agg #[.int .u8 (f12k:Int),.int .i64 f12n,.slice f12q f12a f12b,.bool is,.slice ir ic id,.slice iu ig ih]:=f12e;rw[hag.lay];simp only[lay,List.foldl_cons,List.foldl_nil,List.setIfInBounds_toArray,List.set_cons_zero,List.set_cons_succ,z5_,z6_,z7_,z8_,z9_,z10_,z11_,z12_];have HEX:=Hd hext;clear hag hpost hext z5_ z6_ z7_ z8_ z9_ z10_ z11_ z12_ f8e f9e f12e;have BK2:=Hd (BK.out.ext HEX.out);have TY2:=Hd (TY.out.ext HEX.out);have N1:=Hd f12o;clear f12o;have f0:=BK2.out.lt;obtain⟨g0_,g0⟩:=BK2.out.cell (o:=0) (by decide);have z0:=BK2.out.free 0;obtain⟨g1_,g1⟩:=BK2.out.cell (o:=1) (by decide);have z1:=BK2.out.free 1;obtain⟨g2_,g2⟩:=BK2.out.cell (o:=2) (by decide);have z2:=BK2.out.free 2
  obtain⟨g3_,g3⟩:=BK2.out.cell (o:=3) (by decide);have z3:=BK2.out.free 3;obtain⟨g4_,g4⟩:=BK2.out.cell (o:=4) (by decide);have z4:=BK2.out.free 4;obtain⟨g5_,g5⟩:=BK2.out.cell (o:=5) (by decide);have z5:=BK2.out.free 5;refine seqTail.op rfl rfl (fun K hK=>?_);have HK3:=Hd hK;clear hK;go_simp;refine HK3.out _ _ ?_;clear HK3 g0 z0 g1 z1 g2 z2 g3 z3 g4 z4 g5 z5;refine seqTail.op rfl rfl (fun K hK=>?_);have HK3:=Hd hK;clear hK;go_simp;refine HK3.out _ _ ?_;clear HK3
  show seqTail _ _ _ [] _ _
  unfold seqTail;go_wp2_with fail;obtain⟨c0,c1,c2,c3,c4,c5⟩:=out6 BK2.out (.int .u8 (f12k:Int)) (.int .i64 f12n) (.slice f12q f12a f12b) (.bool is) (.slice ir ic id) (.slice iu ig ih);refine bodyPost_ret (v:=.tuple #[.agg #[.int .u8 (f12k:Int),.int .i64 f12n,.slice f12q f12a f12b,.bool is,.slice ir ic id,.slice iu ig ih],.bool true]) (by simp [results,Tryz.results62,go_sem,c0,c1,c2,c3,c4,c5]) rfl ?_;have XF:=ext_out6 (XW.out.trans HEX.out) HS.out (.int .u8 (f12k:Int)) (.int .i64 f12n) (.slice f12q f12a f12b) (.bool is) (.slice ir ic id) (.slice iu ig ih);refine⟨_,_,_,_,_,_,_,_,_,_,_,_,rfl,XF,fun pt hpt=>?_⟩
  injection hpt with hpt
  subst hpt;exact⟨(N1.out.set6 TY2.out (.int .u8 (f12k:Int)) (.int .i64 f12n) (.slice f12q f12a f12b) (.bool is) (.slice ir ic id) (.slice iu ig ih)).isV,HQ.out.ext XF⟩
set_option maxHeartbeats 4000000 in
set_option maxRecDepth 100000 in
theorem keep1_calls {w w0:World}{ik:Nat}{iN:Int}{iq:Option Addr}{ia ib:Nat}{is:Bool}{ir:Option Addr}{ic id:Nat}{iu:Option Addr}{ig ih:Nat}{t:VT}{q:Rat}{K G c:Nat}{P:VT→Bool}(hG:KeepFn G c w0 P) (x0:Ext w0 w) (hv:IsV w (.agg #[.int .u8 (ik:Int),.int .i64 iN,.slice iq ia ib]) t) (hq:InR w is (.slice ir ic id) (.slice iu ig ih) K q) (hz:szV t≤100000)
  {b:Nat}(hb:At b 0 (.func (.func G) #[] #[.pointer (some ⟨c,0,none⟩)]) w):Calls Tryz.prog 64 #[.agg #[.int .u8 (ik:Int),.int .i64 iN,.slice iq ia ib,.bool is,.slice ir ic id,.slice iu ig ih],.pointer (some ⟨b,0,none⟩)] w (MkRet (if P t=true then some (t,q) else none) K w):=by
 have eG:=hG.enter;have HC1:=Hd (copy_calls t (Nat.le_trans hz (by decide)))
 have HG:Hid (∀ W v,Ext w W→IsV W v t→Calls Tryz.prog G #[v,.pointer (some ⟨c,0,none⟩)] W fun z w'=>z = .returned (.bool (P t))∧Ext W w'):=fun W v hW hi=>hG.call (x0.trans hW) hi hz
 obtain⟨pb,hpb⟩:∃ b,P t=b:=⟨_,rfl⟩
 rw[hpb]at HG ⊢
 obtain⟨mk,hmk⟩:∃ o,(if pb=true then some (t,q) else none:Option Pt)=o:=⟨_,rfl⟩
 rw[hmk]
 have HPB:Hid (∀ cs,Ending.returned (.tuple #[cs,.bool pb]) = .returned (.tuple #[cs,.bool mk.isSome])):=fun cs=>by rw[←hmk];cases pb <;> rfl
 have HPQ:Hid (∀ pt,mk=some pt→pt=(t,q)):=fun pt h=>by
  rw[←hmk]at h
  cases pb with
  | true=>exact (Option.some.inj h).symm
  | false=>cases h
 have HV:=Hd hv;have HQ:=Hd hq;have hb0:=Hd hb;clear hG hv hq hz hb hpb x0 hmk
 go_enter Tryz.func64,Tryz.ntmps64
 go_upto_region 1 with fail
 obtain⟨b2,hb2⟩:∃ s,w.heap.size=s:=⟨_,rfl⟩
 obtain⟨s0,hs0⟩:∃ s,b2+1=s:=⟨_,rfl⟩
 have HS:Hid (w.heap.size≤s0):=by show _≤_;omega
 obtain⟨W,hW⟩:∃ W,W=((w.alloc (.cells #[.int .u8 (ik:Int),.int .i64 iN,.slice iq ia ib,.bool is,.slice ir ic id,.slice iu ig ih] 47)).alloc (.cells #[.int .u8 0,.int .i64 0,.slice none 0 0,.bool false,.slice none 0 0,.slice none 0 0] 47)):=⟨_,rfl⟩
 have XW:Hid (Ext w W):=by rw[hW];exact (eR.alloc _).alloc _
 have BK:Hid (Bk 6 s0 W):=by rw[hW,←hs0,←hb2];exact Bk.new1 6 rfl
 have TY:Hid (TyS s0 W):=by rw[hW,←hs0,←hb2];exact tyS_new1
 have PB0:Hid (At b2 0 (.int .u8 (ik:Int)) W):=by rw[hW,←hb2];exact (at_new rfl).ext (eR.alloc _)
 have PB1:Hid (At b2 1 (.int .i64 iN) W):=by rw[hW,←hb2];exact (at_new rfl).ext (eR.alloc _)
 have PB2:Hid (At b2 2 (.slice iq ia ib) W):=by rw[hW,←hb2];exact (at_new rfl).ext (eR.alloc _)
 have PB3:Hid (At b2 3 (.bool is) W):=by rw[hW,←hb2];exact (at_new rfl).ext (eR.alloc _)
 have PB4:Hid (At b2 4 (.slice ir ic id) W):=by rw[hW,←hb2];exact (at_new rfl).ext (eR.alloc _)
 have PB5:Hid (At b2 5 (.slice iu ig ih) W):=by rw[hW,←hb2];exact (at_new rfl).ext (eR.alloc _)
 rw[hb2,hs0,←hW];clear hW hb2 hs0;have CB0:=Hd (hb0.out.ext XW.out);refine wp_region_tail [5,6,7,8,9,10] [6,7] (fun ix__=>([Sx.val (.agg #[.int .u8 (ik:Int),.int .i64 iN,.slice iq ia ib,.bool is,.slice ir ic id,.slice iu ig ih]),Sx.val (.func (.func G) #[] #[.pointer (some ⟨c,0,none⟩)]),Sx.val (.pointer (some ⟨b2,0,none⟩)),Sx.val (.agg #[.int .u8 (ik:Int),.int .i64 iN,.slice iq ia ib]),Sx.ownV t,Sx.val (.bool pb)]:List Sx).getD ix__ (Sx.val undef)) (by kernel_rfl) (by kernel_rfl) ?hs ?ht
 case hs =>
  refine⟨?_,?_,?_,?_,?_,?_,fun _ => .inl rfl,fun _ => .inl rfl,trivial⟩
  ·refine XStep.op rfl fun ac wk hp K hK=>?_;have t2_:ac.tmps[2]?.getD undef = .pointer (some ⟨b2,0,none⟩):=hp.slot 2 rfl rfl;have q0:=((PB0.out).ext hp.ext).1;have q1:=((PB1.out).ext hp.ext).1;have q2:=((PB2.out).ext hp.ext).1;have q3:=((PB3.out).ext hp.ext).1;have q4:=((PB4.out).ext hp.ext).1;have q5:=((PB5.out).ext hp.ext).1;clear hp;go_simp;exact hK.out _ _ rfl eR
  ·refine XStep.op rfl fun ac wk hp K hK=>?_;have t1_:ac.tmps[1]?.getD undef = .pointer (some ⟨b,0,none⟩):=hp.slot 1 rfl rfl;have q0:=((CB0.out).ext hp.ext).1;clear hp;go_simp;exact hK.out _ _ rfl eR
  ·refine XStep.op rfl fun ac wk hp K hK=>?_;have t2_:ac.tmps[2]?.getD undef = .pointer (some ⟨b2,0,none⟩):=hp.slot 2 rfl rfl;clear hp;go_simp;exact hK.out _ _ rfl eR
  ·refine XStep.op rfl fun ac wk hp K hK=>?_;have t7_:=hp.v 2;have q0:=((PB0.out).ext hp.ext).1;have q1:=((PB1.out).ext hp.ext).1;have q2:=((PB2.out).ext hp.ext).1;clear hp;go_simp;exact hK.out _ _ rfl eR
  ·refine XStep.op rfl fun ac wk hp K hK=>?_;have t8_:=hp.v 3;have xe:=Hd hp.ext;clear hp;go_simp;refine (HC1.out _ _ ((HV.out.ext XW.out).ext xe.out)).mono ?_;rintro e wk' ⟨v,rfl,o1,ix⟩;obtain⟨p9,c9,rfl⟩:=o1.shape;exact hK.out _ _ ⟨_,_,_,_,_,rfl,o1.mono (Nat.zero_le _)⟩ ix
  ·refine XStep.op rfl fun ac wk hp K hK=>?_;have t6_:=hp.v 1;obtain⟨f9k,f9n,f9q,f9a,f9b,f9e,f9o⟩:=hp.g 4;rw[f9e]at f9o;have t9_:ac.tmps[9]?.getD undef = .agg #[.int .u8 (f9k:Int),.int .i64 f9n,.slice f9q f9a f9b]:=slot_is' f9e;have xe:=Hd hp.ext;clear hp f9e;go_simp;refine (HG.out _ _ (XW.out.trans xe.out) f9o.isV).mono ?_;rintro e wk' ⟨rfl,ix⟩;exact hK.out _ _ rfl ix
 case ht =>
  intro ac v2 hag hext hpost;have z5_:sl ac 5 = .agg #[.int .u8 (ik:Int),.int .i64 iN,.slice iq ia ib,.bool is,.slice ir ic id,.slice iu ig ih]:=hpost 0 (by decide +kernel) rfl;have z6_:sl ac 6 = .func (.func G) #[] #[.pointer (some ⟨c,0,none⟩)]:=hpost 1 (by decide +kernel) rfl;have z7_:sl ac 7 = .pointer (some ⟨b2,0,none⟩):=hpost 2 (by decide +kernel) rfl;have z8_:sl ac 8 = .agg #[.int .u8 (ik:Int),.int .i64 iN,.slice iq ia ib]:=hpost 3 (by decide +kernel) rfl;obtain⟨f9k,f9n,f9q,f9a,f9b,f9e,f9o⟩:=hpost 4 (by decide +kernel) rfl;rw[f9e]at f9o;have z9_:sl ac 9 = .agg #[.int .u8 (f9k:Int),.int .i64 f9n,.slice f9q f9a f9b]:=f9e;have z10_:sl ac 10 = .bool pb:=hpost 5 (by decide +kernel) rfl;rw[hag.lay];simp only[lay,List.foldl_cons,List.foldl_nil,List.setIfInBounds_toArray,List.set_cons_zero,List.set_cons_succ,z5_,z6_,z7_,z8_,z9_,z10_];have HEX:=Hd hext;clear hag hpost hext z5_ z6_ z7_ z8_ z9_ z10_ f9e;have BK2:=Hd (BK.out.ext HEX.out);have TY2:=Hd (TY.out.ext HEX.out);have f0:=BK2.out.lt;obtain⟨g0_,g0⟩:=BK2.out.cell (o:=0) (by decide);have z0:=BK2.out.free 0;obtain⟨g1_,g1⟩:=BK2.out.cell (o:=1) (by decide);have z1:=BK2.out.free 1;obtain⟨g2_,g2⟩:=BK2.out.cell (o:=2) (by decide);have z2:=BK2.out.free 2;obtain⟨g3_,g3⟩:=BK2.out.cell (o:=3) (by decide);have z3:=BK2.out.free 3;obtain⟨g4_,g4⟩:=BK2.out.cell (o:=4) (by decide);have z4:=BK2.out.free 4;obtain⟨g5_,g5⟩:=BK2.out.cell (o:=5) (by decide);have z5:=BK2.out.free 5;refine seqTail.op rfl rfl (fun K hK=>?_);have HK3:=Hd hK;clear hK;go_simp;refine HK3.out _ _ ?_;clear HK3 g0 z0 g1 z1 g2 z2 g3 z3 g4 z4 g5 z5;refine seqTail.op rfl rfl (fun K hK=>?_)
  have HK3:=Hd hK;clear hK;go_simp;refine HK3.out _ _ ?_;clear HK3
  show seqTail _ _ _ [] _ _
  unfold seqTail;go_wp2_with fail;obtain⟨c0,c1,c2,c3,c4,c5⟩:=out6 BK2.out (.int .u8 (ik:Int)) (.int .i64 iN) (.slice iq ia ib) (.bool is) (.slice ir ic id) (.slice iu ig ih);refine bodyPost_ret (v:=.tuple #[.agg #[.int .u8 (ik:Int),.int .i64 iN,.slice iq ia ib,.bool is,.slice ir ic id,.slice iu ig ih],.bool pb]) (by simp [results,Tryz.results64,go_sem,c0,c1,c2,c3,c4,c5]) rfl ?_;have XF:=ext_out6 (XW.out.trans HEX.out) HS.out (.int .u8 (ik:Int)) (.int .i64 iN) (.slice iq ia ib) (.bool is) (.slice ir ic id) (.slice iu ig ih);refine⟨_,_,_,_,_,_,_,_,_,_,_,_,HPB.out _,XF,fun pt hpt=>?_⟩;obtain rfl:=HPQ.out pt hpt;exact⟨HV.out.ext XF,HQ.out.ext XF⟩
set_option maxHeartbeats 1000000 in
set_option maxRecDepth 100000 in
theorem mapM_calls {w:World}{v:Value}{A:List Pt}(h:SlM w v A){G:Nat}{f:VT→VT}(hG:MapFn G f){D X k K:Nat}(hK:K≤1000) (hK1:1≤K) (hl:∀ a∈A,LenR K a.2) (hlen:A.length≤100000) (hz:∀ a∈A,szV a.1≤100000) (hzf:∀ a∈A,szV (f a.1)≤1000000)
  (hdn:∀ a∈A,Dn D X a.2) (hD0:D≠0) (hD:D<Bs^k) (hX:A.length*X<Bs^k) (hk1:1≤k) (hk:k≤10000) :
  Calls Tryz.prog 24 #[v,.func (.func G) #[] #[]] w (GathRet w ((A.map fun a=>((f a.1,a.2):Pt)))):=by
 obtain⟨C,hC,hcl,hrr⟩:=SlS.cells h;rw[List.length_map]at hcl;obtain⟨p,c,hv⟩:=slC_len hC;subst hv
 obtain⟨W,hW⟩:∃ W,W=w.alloc (.cells #[.func (.func G) #[] #[]] 64):=⟨_,rfl⟩
 have XW:Hid (Ext w W):=by rw[hW];exact eR.alloc _
 obtain⟨s,hs⟩:∃ s,w.heap.size=s:=⟨_,rfl⟩
 have B0:Hid (At s 0 (.func (.func G) #[] #[]) W):=by rw[hW,←hs];exact at_new rfl
 obtain⟨M,hM⟩:∃ M,(A.map fun a=>((f a.1,a.2):Pt))=M:=⟨_,rfl⟩
 rw[hM]
 have hmk:madeL (fun i=>M[i]?) C.length=M:=by
  rw[hcl,←hM];rw[show A.length=(A.map fun a=>((f a.1,a.2):Pt)).length by rw[List.length_map]];exact madeL_get _
 have hsub:∀ a∈M,∃ b∈A,a.2=b.2∧szV a.1≤1000000:=fun a ha=>by
  rw[←hM]at ha;obtain⟨t,ht,rfl⟩:=List.mem_map.1 ha;exact⟨t,ht,rfl,hzf t ht⟩
 have hf:MakeFn 62 #[.pointer (some ⟨s,0,none⟩)] W C (fun i=>M[i]?) K:=by
  refine⟨fun args w => Tryz.call62 args w,fun i cs w' hi hx=>?_⟩
  have hil:i<A.length:=by rw[←hcl];exact (List.getElem?_eq_some_iff.1 hi).1
  have hra:=hrr i cs (raPt A[i]) hi (by rw[List.getElem?_map,List.getElem?_eq_getElem hil];rfl);obtain⟨k,n,p,x,y,p1',n1',c1',p2',n2',c2',rfl,hv,ha,hb⟩:=hra;have hmem:=List.getElem_mem hil;have hlm:=mem_map_raPt hl (raPt A[i]) (List.mem_map_of_mem hmem);have x':=XW.out.trans hx
  have hq:InR w' (raPt A[i]).2.1 (.slice p1' n1' c1') (.slice p2' n2' c2') K (A[i]).2:=⟨_,_,ha.ext x',hb.ext x',qRa_pt A[i],hlm.1,hlm.2,hK1⟩
  have e:M[i]? = some (f (A[i]).1,(A[i]).2):=by rw[←hM,List.getElem?_map,List.getElem?_eq_getElem hil];rfl
  show Calls _ _ _ _ (MkRet M[i]? K w')
  rw[e];exact map1_calls hG (hv.ext x') hq (hz _ hmem) (B0.out.ext hx)
 have HG:Hid (Calls Tryz.prog 59 #[.slice p C.length c,.func (.func 62) #[] #[.pointer (some ⟨s,0,none⟩)]] W (GathRet W M)):=by
  have:=gatherS_calls (D:=D) (X:=X) (k:=k) (hC.ext XW.out) hf (by omega) (by omega) (fun a ha=>by
    rw[hmk]at ha;obtain⟨b,hb,e,hz⟩:=hsub a ha
    exact hz) (fun a ha=>by
    rw[hmk]at ha;obtain⟨b,hb,e,hz⟩:=hsub a ha
    rw[e];exact hdn b hb) hD0 hD (by rw[hcl];exact hX) hk1 hk
  rw[hmk]at this;exact this
 obtain⟨cl,hcl⟩:∃ m,C.length=m:=⟨_,rfl⟩
 rw[hcl]at HG ⊢;have HW:=Hd hW;have HB:=Hd hs
 have hfn:∀ w,Sem.run Tryz.prog (binOp BinOp.eql 64 (.func (.func G) #[] #[]) .nilFunc) w = .ok (.bool false) w:=fun w=>func_nil Tryz.underlying64 _ _ _
 clear hC hrr hf hmk hM hlen hz hcl B0 hW hs hdn hD0 hD hX hk1 hk h hG hl hK hK1 hsub hzf
 go_enter Tryz.func24,Tryz.ntmps24
 go_wp2_with fail;rw[HB.out,←HW.out];refine HG.out.mono ?_;rintro z w1 ⟨v',out,rfl,h1,h2,h3⟩;have H1:=Hd h1;have H2:=Hd h2;have H3:=Hd (XW.out.trans h3);clear h1 h2 h3 HG HW XW;go_wp2_with fail;go_ret;exact⟨_,_,rfl,H1.out,H2.out,H3.out⟩
set_option maxHeartbeats 1000000 in
set_option maxRecDepth 100000 in
theorem keepM_calls {w:World}{v:Value}{A:List Pt}(h:SlM w v A){G c0:Nat}{P:VT→Bool}(hG:KeepFn G c0 w P){D X k K:Nat}(hK:K≤1000) (hK1:1≤K) (hl:∀ a∈A,LenR K a.2) (hlen:A.length≤100000) (hz:∀ a∈A,szV a.1≤100000) 
  (hdn:∀ a∈A,Dn D X a.2) (hD0:D≠0) (hD:D<Bs^k) (hX:A.length*X<Bs^k) (hk1:1≤k) (hk:k≤10000) :
  Calls Tryz.prog 25 #[v,.func (.func G) #[] #[.pointer (some ⟨c0,0,none⟩)]] w (GathRet w ((A.filter fun a=>P a.1))):=by
 obtain⟨C,hC,hcl,hrr⟩:=SlS.cells h;rw[List.length_map]at hcl;obtain⟨p,c,hv⟩:=slC_len hC;subst hv
 obtain⟨W,hW⟩:∃ W,W=w.alloc (.cells #[.func (.func G) #[] #[.pointer (some ⟨c0,0,none⟩)]] 68):=⟨_,rfl⟩
 have XW:Hid (Ext w W):=by rw[hW];exact eR.alloc _
 obtain⟨s,hs⟩:∃ s,w.heap.size=s:=⟨_,rfl⟩
 have B0:Hid (At s 0 (.func (.func G) #[] #[.pointer (some ⟨c0,0,none⟩)]) W):=by rw[hW,←hs];exact at_new rfl
 obtain⟨M,hM⟩:∃ M,(A.filter fun a=>P a.1)=M:=⟨_,rfl⟩
 rw[hM]
 have hmk:madeL (fun i=>(A[i]?).bind fun a=>if P a.1=true then some a else none) C.length=M:=by
  rw[hcl,←hM]
  exact madeL_filter A fun a=>P a.1
 have hsub:∀ a∈M,∃ b∈A,a.2=b.2∧szV a.1≤1000000:=fun a ha=>by
  rw[←hM]at ha;have hm:=(List.mem_filter.1 ha).1;exact⟨a,hm,rfl,Nat.le_trans (hz a hm) (by decide)⟩
 have hf:MakeFn 64 #[.pointer (some ⟨s,0,none⟩)] W C (fun i=>(A[i]?).bind fun a=>if P a.1=true then some a else none) K:=by
  refine⟨fun args w => Tryz.call64 args w,fun i cs w' hi hx=>?_⟩
  have hil:i<A.length:=by rw[←hcl];exact (List.getElem?_eq_some_iff.1 hi).1
  have hra:=hrr i cs (raPt A[i]) hi (by rw[List.getElem?_map,List.getElem?_eq_getElem hil];rfl);obtain⟨k,n,p,x,y,p1',n1',c1',p2',n2',c2',rfl,hv,ha,hb⟩:=hra;have hmem:=List.getElem_mem hil;have hlm:=mem_map_raPt hl (raPt A[i]) (List.mem_map_of_mem hmem);have x':=XW.out.trans hx
  have hq:InR w' (raPt A[i]).2.1 (.slice p1' n1' c1') (.slice p2' n2' c2') K (A[i]).2:=⟨_,_,ha.ext x',hb.ext x',qRa_pt A[i],hlm.1,hlm.2,hK1⟩
  have e:(A[i]?).bind (fun a=>if P a.1=true then some a else none)=if P (A[i]).1=true then some ((A[i]).1,(A[i]).2) else none:=by rw[List.getElem?_eq_getElem hil];rfl
  show Calls _ _ _ _ (MkRet ((A[i]?).bind fun a=>if P a.1=true then some a else none) K w')
  rw[e];exact keep1_calls hG x' (hv.ext x') hq (hz _ hmem) (B0.out.ext hx)
 have HG:Hid (Calls Tryz.prog 59 #[.slice p C.length c,.func (.func 64) #[] #[.pointer (some ⟨s,0,none⟩)]] W (GathRet W M)):=by
  have:=gatherS_calls (D:=D) (X:=X) (k:=k) (hC.ext XW.out) hf (by omega) (by omega) (fun a ha=>by
    rw[hmk]at ha;obtain⟨b,hb,e,hz⟩:=hsub a ha
    exact hz) (fun a ha=>by
    rw[hmk]at ha;obtain⟨b,hb,e,hz⟩:=hsub a ha
    rw[e];exact hdn b hb) hD0 hD (by rw[hcl];exact hX) hk1 hk
  rw[hmk]at this;exact this
 obtain⟨cl,hcl⟩:∃ m,C.length=m:=⟨_,rfl⟩
 rw[hcl]at HG ⊢;have HW:=Hd hW;have HB:=Hd hs
 have hfn:∀ w,Sem.run Tryz.prog (binOp BinOp.eql 68 (.func (.func G) #[] #[.pointer (some ⟨c0,0,none⟩)]) .nilFunc) w = .ok (.bool false) w:=fun w=>func_nil Tryz.underlying68 _ _ _
 clear hC hrr hf hmk hM hlen hz hcl B0 hW hs hdn hD0 hD hX hk1 hk h hG hl hK hK1 hsub
 go_enter Tryz.func25,Tryz.ntmps25
 go_wp2_with fail;rw[HB.out,←HW.out];refine HG.out.mono ?_;rintro z w1 ⟨v',out,rfl,h1,h2,h3⟩;have H1:=Hd h1;have H2:=Hd h2;have H3:=Hd (XW.out.trans h3);clear h1 h2 h3 HG HW XW;go_wp2_with fail;go_ret;exact⟨_,_,rfl,H1.out,H2.out,H3.out⟩
end Go.Proofs.YtfofjalebhajhaaGreatDoor
