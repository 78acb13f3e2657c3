/- mass.At, mass.Total. -/
import Derived.Test.YtfofjalebhajhaaGreatDoorMass11
namespace Go.Proofs.YtfofjalebhajhaaGreatDoor
open Go Go.RowKit
theorem At.blw {s o B:Nat}{u:Value}{a b:World}(h:At s o u a) (x:Below B a b) (hs:s<B):At s o u b:=by
 refine⟨?_,Nat.lt_of_lt_of_le h.2 x.size⟩;rw[←h.1];exact World.cell?_of_block (w:=a) (x.block s hs)
theorem Bk.blw {n s B:Nat}{a b:World}(h:Bk n s a) (x:Below B a b) (hs:s<B):Bk n s b:=by
 obtain⟨cur,t,h1,h2⟩:=h;exact⟨cur,t,by rw[x.block s hs];exact h1,h2⟩
theorem Bx.blw {n s B:Nat}{a b:World}(h:Bx n s a) (x:Below B a b) (hs:s<B):Bx n s b:=h.of_eq (x.block s hs)
def RetQ (w:World) (q:Rat) (z:Ending) (w':World):Prop:=∃ (b:Bool) (p1:Option Addr) (n1 c1:Nat) (p2:Option Addr) (n2 c2:Nat),z = .returned (.agg #[.bool b,.slice p1 n1 c1,.slice p2 n2 c2])∧IsR w' b (.slice p1 n1 c1) (.slice p2 n2 c2) q.num.natAbs q.den q∧Ext w w'
def AccR (s:Nat) (q:Rat) (w:World):Prop:=∃ (b:Bool) (p1:Option Addr) (n1 c1:Nat) (p2:Option Addr) (n2 c2:Nat),At s 0 (.bool b) w∧At s 1 (.slice p1 n1 c1) w∧At s 2 (.slice p2 n2 c2) w∧Bx 3 s w∧IsR w b (.slice p1 n1 c1) (.slice p2 n2 c2) q.num.natAbs q.den q
theorem AccR.ext {s:Nat}{q:Rat}{w w':World}(h:AccR s q w) (x:Ext w w'):AccR s q w':=by
 obtain⟨b,p1,n1,c1,p2,n2,c2,h1,h2,h3,h4,h5⟩:=h;exact⟨b,p1,n1,c1,p2,n2,c2,h1.ext x,h2.ext x,h3.ext x,h4.gr x.gr,h5.ext x⟩
theorem AccR.set {s:Nat}{q q':Rat}{w:World}{b:Bool}{p1:Option Addr}{n1 c1:Nat}{p2:Option Addr}{n2 c2:Nat}{m d:Nat}(h:AccR s q w) (hr:IsR w b (.slice p1 n1 c1) (.slice p2 n2 c2) m d q') :
  AccR s q' (((w.setCell ⟨s,0,none⟩ (.bool b)).setCell ⟨s,1,none⟩ (.slice p1 n1 c1)).setCell ⟨s,2,none⟩ (.slice p2 n2 c2)):=by
 obtain⟨-,-,-,-,-,-,-,-,-,-,h4,-⟩:=h;have e:setRow s 0 [.bool b,.slice p1 n1 c1,.slice p2 n2 c2] w=(((w.setCell ⟨s,0,none⟩ (.bool b)).setCell ⟨s,1,none⟩ (.slice p1 n1 c1)).setCell ⟨s,2,none⟩ (.slice p2 n2 c2)):=rfl;rw[←e];obtain⟨u1,u2⟩:=setRow_bx h4 (cs:=[.bool b,.slice p1 n1 c1,.slice p2 n2 c2]) rfl noI_s3;have hg:=setRow_gr h4 (cs:=[.bool b,.slice p1 n1 c1,.slice p2 n2 c2]) rfl noI_s3;have hr:=hr.gr hg;obtain⟨r1,r2,r3,r4,r5⟩:=hr;exact⟨b,p1,n1,c1,p2,n2,c2,u2 0 _ rfl,u2 1 _ rfl,u2 2 _ rfl,u1,r1,rfl,rfl,by rw[r2];exact r4,by rw[r3];exact r5⟩
theorem AccR.bk {s:Nat}{q:Rat}{w:World}(h:AccR s q w):Bk 3 s w:=by
 obtain⟨-,-,-,-,-,-,-,-,-,-,⟨cur,t,h1,h2,-⟩,-⟩:=h;exact⟨cur,t,h1,h2.1⟩
theorem take_sum (W:VT→Rat){M:List Pt}{i:Nat}{a:Pt}(h:M[i]? = some a):sumW W (M.take (i+1))=sumW W (M.take i)+W a.1*a.2:=by
 rw[List.take_add_one,h,sumW_app];simp only[Option.toList,sumW]
 grind
theorem take_len {D X k:Nat}{W:VT→Rat}(hW:∀ v,W v=0∨W v=1){M:List Pt}(hM:∀ a∈M,Dn D X a.2) (h0:D≠0) (hD:D<Bs^k) (hX:M.length*X<Bs^k) (hk:1≤k) (i:Nat):LenR k (sumW W (M.take i)):=by
 have h:=sumW_dn hW (M.take i) (fun a ha=>hM a (List.mem_of_mem_take ha));refine h.len h0 hD (Nat.lt_of_le_of_lt (Nat.mul_le_mul_right X ?_) hX) hk;rw[List.length_take];exact Nat.min_le_right _ _
theorem isV_01 (t:VT) (v:VT):isV t v=0∨isV t v=1:=by unfold isV;split <;> simp
theorem one_01 (v:VT):oneV v=0∨oneV v=1:=.inr rfl
set_option maxHeartbeats 4000000 in
set_option maxRecDepth 100000 in
theorem at_calls {w:World}{v:Value}{Ls:List Ra}(h:SlS w v Ls){D X k K:Nat}(hD0:D≠0) (hD:D<Bs^k) (hX:Ls.length*X<Bs^k) (hk1:1≤k) (hk:k≤10000) (hdn:∀ a∈Ls.map ptRa,Dn D X a.2) (hK:K≤10000) (hK1:1≤K) (hlim:∀ a∈Ls,a.2.2.1.length≤K∧a.2.2.2.length≤K){vk:Nat}{vn:Int}{vp:Option Addr}{vx vy:Nat}{t:VT}(hv:IsV w (.agg #[.int .u8 (vk:Int),.int .i64 vn,.slice vp vx vy]) t) :
  Calls Tryz.prog 12 #[v,.agg #[.int .u8 (vk:Int),.int .i64 vn,.slice vp vx vy]] w (RetQ w (sumW (isV t) (Ls.map ptRa))):=by
 obtain⟨p0,c0,rfl,h1,h2,h3,h4⟩:=h;unfold maxLen at h2
 obtain⟨m,hm⟩:∃ m,Ls.length=m:=⟨_,rfl⟩
 have HLR:Hid (∀ i,LenR 10000 (sumW (isV t) ((Ls.map ptRa).take i))):=fun i=>(take_len (W:=isV t) (isV_01 t) hdn hD0 hD (by rw[List.length_map];exact hX) hk1 i).mono hk
 have H4:=Hd h4;have HM:=Hd hm;have HLIM:=Hd hlim;have HK:=Hd hK;have HK1:=Hd hK1;have HV:=Hd hv;rw[hm]at h1 ⊢
 have M5:Hid ((m:Int)≤9223372036854775807):=by show _≤_;omega
 clear hD0 hD hX hk1 hk hdn hK hK1 hlim h1 h2 h3 h4 hm hv
 go_enter Tryz.func12,Tryz.ntmps12
 go_wp2_with fail;refine (rof_is _ 0 (by decide) (by decide)).mono ?_;rintro e w1 ⟨sb,sv,su,sm,sd,rfl,e1,o1,x1⟩;obtain⟨sp,sl,sc,tp,tl,tc,rfl,rfl⟩:=e1.slice
 obtain⟨s2,hs2⟩:∃ s,w.heap.size+1=s:=⟨_,rfl⟩
 have BK:Hid (Bk 3 s2 w1):=by rw[←hs2];exact (Bk.new1 3 rfl).ext x1
 have BX:Hid (Bx 3 s2 w1):=by rw[←hs2];exact (Bx.n1 3 ⟨rfl,by decide⟩ (by decide) noI_s3).gr (Ext.gr x1)
 obtain⟨b3,hb3⟩:∃ s,w.heap.size=s:=⟨_,rfl⟩
 have PV0:Hid (At b3 0 (.int .u8 (vk:Int)) w1):=by rw[←hb3];exact ((at_new rfl).ext (eR.alloc _)).ext x1
 have PV1:Hid (At b3 1 (.int .i64 vn) w1):=by rw[←hb3];exact ((at_new rfl).ext (eR.alloc _)).ext x1
 have PV2:Hid (At b3 2 (.slice vp vx vy) w1):=by rw[←hb3];exact ((at_new rfl).ext (eR.alloc _)).ext x1
 have N32:Hid (b3<s2):=by show _<_;omega
 have X1:Hid (Ext w w1):=((eR.alloc _).alloc _).trans x1
 have HS2:Hid (w.heap.size≤s2):=by show _≤_;omega
 have E1:=Hd e1;rw[hs2,hb3];clear hs2 hb3 e1 o1 x1;go_wp2_with fail
 obtain⟨s5,hs5⟩:∃ s,w1.heap.size=s:=⟨_,rfl⟩
 obtain⟨W,hW⟩:∃ W,W=w1.alloc (.cells #[.bool sb,.slice sp sl sc,.slice tp tl tc] 36):=⟨_,rfl⟩
 have XW:Hid (Ext w1 W):=by rw[hW];exact eR.alloc _
 have ACC:Hid (AccR s5 0 W):=by
  rw[hW,←hs5];have h:=E1.out;obtain⟨g1,g2,g3,g4,g5⟩:=h;refine⟨sb,_,_,_,_,_,_,at_new rfl,at_new rfl,at_new rfl,Bx.n0 3 ⟨rfl,by decide⟩ (by decide) noI_s3,g1,rfl,rfl,?_,?_⟩
  ·rw[show (0:Rat).num.natAbs=sm from g2];exact g4.ext (eR.alloc _)
  ·rw[show (0:Rat).den=sd from g3];exact g5.ext (eR.alloc _)
 have H25:Hid (s2<s5):=by show _<_;rw[←hs5];exact BK.out.lt
 have BK2:Hid (Bk 3 s2 W):=BK.out.ext XW.out;have BX2:Hid (Bx 3 s2 W):=BX.out.gr (Ext.gr XW.out);have X2:=Hd (X1.out.trans XW.out);have H05:Hid (w.heap.size≤s5):=Nat.le_trans HS2.out (Nat.le_of_lt H25.out);have PW0:=Hd (PV0.out.ext XW.out);have PW1:=Hd (PV1.out.ext XW.out);have PW2:=Hd (PV2.out.ext XW.out);have H35:Hid (b3<s5):=Nat.lt_trans N32.out H25.out;rw[hs5,←hW];clear hW hs5 BK BX X1 E1 PV0 PV1 PV2 N32
 go_loopw [11] (fun vi wr => ∃ i:Nat,vi = .int .i64 (i:Int)∧i≤m∧Below s5 W wr∧AccR s5 (sumW (isV t) ((Ls.map ptRa).take i)) wr) (fun vi _=>m - (intOf vi).toNat)
 case atStart=>exact⟨0,rfl,Nat.zero_le _,Below.refl _ _,ACC.out⟩
 case round =>
  rename World=>wr
  obtain⟨i,rfl,hi,hx,hA⟩:=hrel;have XX:=Hd hx;have XE:Hid (Ext w wr):=Ext.below X2.out (hx.mono H05.out);have AA:=Hd hA;clear hx hA
  by_cases hlt:i<m
  ·have hli:(i:Int)<(m:Int):=by omega
   have hl1:(i:Int)+1≤(m:Int):=by omega
   have m5:=M5.out
   have hwi:IntKind.i64.wrap ((i:Int)+1)=((i+1:Nat):Int):=by rw[IntWalk.i64_in _ (by omega)];omega
   obtain⟨a,ha⟩:∃ y,Ls[i]? = some y:=⟨_,List.getElem?_eq_getElem (by rw[HM.out];exact hlt)⟩
   have HAI:=Hd ha;obtain⟨bl,off,cs,rfl,hra,hat⟩:=H4.out i a ha;have HRA:=Hd hra;obtain⟨k,n,p,x,y,p1,n1,c1,p2,n2,c2,rfl,hvi,hla,hld⟩:=hra;have HVI:=Hd (hvi.ext XE.out);have HAT:=Hd hat;have LT:=Hd hlt;have HIR:Hid (InR wr a.2.1 (.slice p1 n1 c1) (.slice p2 n2 c2) K (qRa a)):=(HRA.out.ext XE.out).inR (HLIM.out a (List.mem_of_getElem? ha)).1 (HLIM.out a (List.mem_of_getElem? ha)).2 HK1.out;have HTK:Hid (sumW (isV t) ((Ls.map ptRa).take (i+1))=sumW (isV t) ((Ls.map ptRa).take i)+(isV t) a.1*qRa a):=take_sum (isV t) (a:=ptRa a) (by rw[List.getElem?_map,ha];rfl)
   obtain⟨s,hsg⟩:∃ s,a.2.1=s:=⟨_,rfl⟩
   rw[hsg]at HAT HIR;have fb:=Nat.lt_of_lt_of_le (HAT.out 0 _ rfl).2 XE.out.size;clear ha hat hi m5 hlt hvi hla hld hsg HRA;have h0:=((HAT.out 0 (.int .u8 (k:Int)) rfl).ext XE.out).1;have h1:=((HAT.out 1 (.int .i64 n) rfl).ext XE.out).1;have h2:=((HAT.out 2 (.slice p x y) rfl).ext XE.out).1;have h3:=((HAT.out 3 (.bool s) rfl).ext XE.out).1;have h4:=((HAT.out 4 (.slice p1 n1 c1) rfl).ext XE.out).1;have h5:=((HAT.out 5 (.slice p2 n2 c2) rfl).ext XE.out).1;rw[Nat.add_zero]at h0
   obtain⟨cv,hcv⟩:∃ c,cmpV a.1 t=c:=⟨_,rfl⟩
   have HCV:=Hd hcv
   have HCC:Hid (∀ X,Ext wr X→Calls Tryz.prog 10 #[.agg #[.int .u8 (k:Int),.int .i64 n,.slice p x y],.agg #[.int .u8 (vk:Int),.int .i64 vn,.slice vp vx vy]] X fun e w'=>e = .returned (.int .i64 cv)∧Ext X w'):=fun X hX=>by rw[←hcv];exact vcmp_calls _ _ _ _ _ (HVI.out.ext hX) ((HV.out.ext XE.out).ext hX)
   have y0:=(PW0.out.blw XX.out H35.out).1;have y1:=(PW1.out.blw XX.out H35.out).1;have y2:=(PW2.out.blw XX.out H35.out).1;have fy:=(PW2.out.blw XX.out H35.out).2;clear hcv;go_wp2_with fail
   obtain⟨b7,hb7⟩:∃ s,wr.heap.size=s:=⟨_,rfl⟩
   have XB:Hid (Ext wr (wr.alloc (.cells #[.int .u8 (k:Int),.int .i64 n,.slice p x y,.bool s,.slice p1 n1 c1,.slice p2 n2 c2] 47))):=eR.alloc _
   have PB0:Hid (At b7 0 (.int .u8 (k:Int)) (wr.alloc (.cells #[.int .u8 (k:Int),.int .i64 n,.slice p x y,.bool s,.slice p1 n1 c1,.slice p2 n2 c2] 47))):=by rw[←hb7];exact at_new rfl
   have PB1:Hid (At b7 1 (.int .i64 n) (wr.alloc (.cells #[.int .u8 (k:Int),.int .i64 n,.slice p x y,.bool s,.slice p1 n1 c1,.slice p2 n2 c2] 47))):=by rw[←hb7];exact at_new rfl
   have PB2:Hid (At b7 2 (.slice p x y) (wr.alloc (.cells #[.int .u8 (k:Int),.int .i64 n,.slice p x y,.bool s,.slice p1 n1 c1,.slice p2 n2 c2] 47))):=by rw[←hb7];exact at_new rfl
   have PB3:Hid (At b7 3 (.bool s) (wr.alloc (.cells #[.int .u8 (k:Int),.int .i64 n,.slice p x y,.bool s,.slice p1 n1 c1,.slice p2 n2 c2] 47))):=by rw[←hb7];exact at_new rfl
   have PB4:Hid (At b7 4 (.slice p1 n1 c1) (wr.alloc (.cells #[.int .u8 (k:Int),.int .i64 n,.slice p x y,.bool s,.slice p1 n1 c1,.slice p2 n2 c2] 47))):=by rw[←hb7];exact at_new rfl
   have PB5:Hid (At b7 5 (.slice p2 n2 c2) (wr.alloc (.cells #[.int .u8 (k:Int),.int .i64 n,.slice p x y,.bool s,.slice p1 n1 c1,.slice p2 n2 c2] 47))):=by rw[←hb7];exact at_new rfl
   obtain⟨W7,hW7⟩:∃ X,X=wr.alloc (.cells #[.int .u8 (k:Int),.int .i64 n,.slice p x y,.bool s,.slice p1 n1 c1,.slice p2 n2 c2] 47):=⟨_,rfl⟩
   rw[←hW7]at XB PB0 PB1 PB2 PB3 PB4 PB5;rw[hb7,←hW7];clear hb7 hW7 h0 h1 h2 h3 h4 h5 fb y0 y1 y2 fy;refine (HCC.out _ XB.out).mono ?_;rintro e w2 ⟨rfl,x2⟩;have XB2:=Hd (XB.out.trans x2);have AAx:=Hd (AA.out.ext XB2.out);have fb7:=(PB5.out.ext x2).2;have h3:=(PB3.out.ext x2).1;have h4:=(PB4.out.ext x2).1;have h5:=(PB5.out.ext x2).1;clear x2
   by_cases hc:cv=0
   ·have hcd:((cv:Int) == 0)=true:=by rw[hc];rfl
    have HC:=Hd hc;have hcd2:decide (cv=0)=true:=decide_eq_true hc;rw[hc];clear hc hcd hcd2;obtain⟨qb,qp,qn,qc,rp,rn,rc,q0_,q1_,q2_,qx,qr⟩:=AAx.out;have QX:=Hd qx;have QR:=Hd qr;have g0:=q0_.1;have g1:=q1_.1;have g2:=q2_.1;have f5:=q2_.2;have z0:=qx.free 0;have z1:=qx.free 1;have z2:=qx.free 2;clear qx qr q0_ q1_ q2_;go_wp2_with fail;refine (radd_is (QR.out.inR (HLR.out i)) (HIR.out.ext XB2.out) (by have:=HK.out;omega)).mono ?_;rintro e w3 ⟨sb,sv,su,sm,sd,rfl,e1,o1,x3⟩;obtain⟨sp,sl,sc,tp,tl,tc,rfl,rfl⟩:=e1.slice;have E1:=Hd e1;have AAy:=Hd (AAx.out.ext x3);have XB3:=Hd (XB2.out.trans x3);clear g0 g1 g2 z0 z1 z2 f5 e1 o1 x3 QX QR h3 h4 h5;clear fb7;have f0:=AAy.out.bk.lt;obtain⟨g0_,g0⟩:=AAy.out.bk.cell (o:=0) (by decide);have z0:=AAy.out.bk.free 0;obtain⟨g1_,g1⟩:=AAy.out.bk.cell (o:=1) (by decide);have z1:=AAy.out.bk.free 1;obtain⟨g2_,g2⟩:=AAy.out.bk.cell (o:=2) (by decide);have z2:=AAy.out.bk.free 2;go_wp2_with fail;have hb:=XX.out.trans (XB3.out.mono (Nat.le_of_lt (AA.out.bk.lt)));refine⟨⟨i+1,by first | rfl | simp | rw[hwi],LT.out,((hb.setCell (Nat.le_refl _) _).setCell (Nat.le_refl _) _).setCell (Nat.le_refl _) _,?_⟩,by simp only[intOf];have:=LT.out;omega⟩;have hset:=AAy.out.set E1.out;rw[HTK.out];unfold isV;rw[if_pos (by rw[HCV.out];exact HC.out),Rat.one_mul];exact hset
   ·have hcd:((cv:Int) == 0)=false:=beq_eq_false_iff_ne.2 hc;have HC:=Hd hc;clear h3 h4 h5;go_wp2_with fail;refine⟨⟨i+1,by first | rfl | simp | rw[hwi],LT.out,XX.out.trans (XB2.out.mono (Nat.le_of_lt (AA.out.bk.lt))),?_⟩,by simp only[intOf];have:=LT.out;omega⟩;rw[HTK.out];unfold isV;rw[if_neg (by rw[HCV.out];exact HC.out),Rat.zero_mul,Rat.add_zero];exact AAx.out
  ·have hli:¬ (i:Int)<(m:Int):=by omega
   have him:i=m:=by omega
   rw[him,List.take_of_length_le (by rw[List.length_map,HM.out];exact Nat.le_refl _)]at AA;have BK3:=Hd (BK2.out.blw XX.out H25.out);have BX3:=Hd (BX2.out.blw XX.out H25.out);clear hlt hi him;have AAx:=AA;obtain⟨qb,qp,qn,qc,rp,rn,rc,q0_,q1_,q2_,qx,qr⟩:=AAx.out;have QX:=Hd qx;have QR:=Hd qr;have g0:=q0_.1;have g1:=q1_.1;have g2:=q2_.1;have f5:=q2_.2;have z0:=qx.free 0;have z1:=qx.free 1;have z2:=qx.free 2;clear qx qr q0_ q1_ q2_;have N25:¬ s2=s5:=Nat.ne_of_lt H25.out;have N52:¬ s5=s2:=Nat.ne_of_gt H25.out;have f2:=BK3.out.lt;obtain⟨k0_,k0⟩:=BK3.out.cell (o:=0) (by decide);have l0:=BK3.out.free 0;obtain⟨k1_,k1⟩:=BK3.out.cell (o:=1) (by decide);have l1:=BK3.out.free 1;obtain⟨k2_,k2⟩:=BK3.out.cell (o:=2) (by decide);have l2:=BK3.out.free 2;go_wp2_with fail;obtain⟨d0,d1,d2⟩:=out3 BK3.out (.bool qb) (.slice qp qn qc) (.slice rp rn rc);refine bodyPost_ret (v:=.agg #[.bool qb,.slice qp qn qc,.slice rp rn rc]) (by simp [results,Tryz.results12,go_sem,d0,d1,d2]) rfl ?_;have hg:Gr wr (((wr.setCell ⟨s2,0,none⟩ (.bool qb)).setCell ⟨s2,1,none⟩ (.slice qp qn qc)).setCell ⟨s2,2,none⟩ (.slice rp rn rc)):=setRow_gr BX3.out (cs:=[.bool qb,.slice qp qn qc,.slice rp rn rc]) rfl noI_s3;exact⟨_,_,_,_,_,_,_,rfl,QR.out.gr hg,ext_out3 XE.out HS2.out _ _ _⟩
set_option maxHeartbeats 4000000 in
set_option maxRecDepth 100000 in
theorem total_calls {w:World}{v:Value}{Ls:List Ra}(h:SlS w v Ls){D X k K:Nat}(hD0:D≠0) (hD:D<Bs^k) (hX:Ls.length*X<Bs^k) (hk1:1≤k) (hk:k≤10000) (hdn:∀ a∈Ls.map ptRa,Dn D X a.2) (hK:K≤10000) (hK1:1≤K) (hlim:∀ a∈Ls,a.2.2.1.length≤K∧a.2.2.2.length≤K) :
  Calls Tryz.prog 16 #[v] w (RetQ w (sumW (oneV) (Ls.map ptRa))):=by
 obtain⟨p0,c0,rfl,h1,h2,h3,h4⟩:=h;unfold maxLen at h2
 obtain⟨m,hm⟩:∃ m,Ls.length=m:=⟨_,rfl⟩
 have HLR:Hid (∀ i,LenR 10000 (sumW (oneV) ((Ls.map ptRa).take i))):=fun i=>(take_len (W:=oneV) one_01 hdn hD0 hD (by rw[List.length_map];exact hX) hk1 i).mono hk
 have H4:=Hd h4;have HM:=Hd hm;have HLIM:=Hd hlim;have HK:=Hd hK;have HK1:=Hd hK1;rw[hm]at h1 ⊢
 have M5:Hid ((m:Int)≤9223372036854775807):=by show _≤_;omega
 clear hD0 hD hX hk1 hk hdn hK hK1 hlim h1 h2 h3 h4 hm
 go_enter Tryz.func16,Tryz.ntmps16
 go_wp2_with fail;refine (rof_is _ 0 (by decide) (by decide)).mono ?_;rintro e w1 ⟨sb,sv,su,sm,sd,rfl,e1,o1,x1⟩;obtain⟨sp,sl,sc,tp,tl,tc,rfl,rfl⟩:=e1.slice
 obtain⟨s2,hs2⟩:∃ s,w.heap.size=s:=⟨_,rfl⟩
 have BK:Hid (Bk 3 s2 w1):=by rw[←hs2];exact (Bk.new' 3 rfl).ext x1
 have BX:Hid (Bx 3 s2 w1):=by rw[←hs2];exact (Bx.n0 3 ⟨rfl,by decide⟩ (by decide) noI_s3).gr (Ext.gr x1)
 have X1:Hid (Ext w w1):=(eR.alloc _).trans x1
 have HS2:Hid (w.heap.size≤s2):=by show _≤_;omega
 have E1:=Hd e1;rw[hs2];clear hs2 e1 o1 x1;go_wp2_with fail
 obtain⟨s5,hs5⟩:∃ s,w1.heap.size=s:=⟨_,rfl⟩
 obtain⟨W,hW⟩:∃ W,W=w1.alloc (.cells #[.bool sb,.slice sp sl sc,.slice tp tl tc] 36):=⟨_,rfl⟩
 have XW:Hid (Ext w1 W):=by rw[hW];exact eR.alloc _
 have ACC:Hid (AccR s5 0 W):=by
  rw[hW,←hs5];have h:=E1.out;obtain⟨g1,g2,g3,g4,g5⟩:=h;refine⟨sb,_,_,_,_,_,_,at_new rfl,at_new rfl,at_new rfl,Bx.n0 3 ⟨rfl,by decide⟩ (by decide) noI_s3,g1,rfl,rfl,?_,?_⟩
  ·rw[show (0:Rat).num.natAbs=sm from g2];exact g4.ext (eR.alloc _)
  ·rw[show (0:Rat).den=sd from g3];exact g5.ext (eR.alloc _)
 have H25:Hid (s2<s5):=by show _<_;rw[←hs5];exact BK.out.lt
 have BK2:Hid (Bk 3 s2 W):=BK.out.ext XW.out;have BX2:Hid (Bx 3 s2 W):=BX.out.gr (Ext.gr XW.out);have X2:=Hd (X1.out.trans XW.out);have H05:Hid (w.heap.size≤s5):=Nat.le_trans HS2.out (Nat.le_of_lt H25.out);rw[hs5,←hW];clear hW hs5 BK BX X1 E1
 go_loopw [9] (fun vi wr => ∃ i:Nat,vi = .int .i64 (i:Int)∧i≤m∧Below s5 W wr∧AccR s5 (sumW (oneV) ((Ls.map ptRa).take i)) wr) (fun vi _=>m - (intOf vi).toNat)
 case atStart=>exact⟨0,rfl,Nat.zero_le _,Below.refl _ _,ACC.out⟩
 case round =>
  rename World=>wr
  obtain⟨i,rfl,hi,hx,hA⟩:=hrel;have XX:=Hd hx;have XE:Hid (Ext w wr):=Ext.below X2.out (hx.mono H05.out);have AA:=Hd hA;clear hx hA
  by_cases hlt:i<m
  ·have hli:(i:Int)<(m:Int):=by omega
   have hl1:(i:Int)+1≤(m:Int):=by omega
   have m5:=M5.out
   have hwi:IntKind.i64.wrap ((i:Int)+1)=((i+1:Nat):Int):=by rw[IntWalk.i64_in _ (by omega)];omega
   obtain⟨a,ha⟩:∃ y,Ls[i]? = some y:=⟨_,List.getElem?_eq_getElem (by rw[HM.out];exact hlt)⟩
   have HAI:=Hd ha;obtain⟨bl,off,cs,rfl,hra,hat⟩:=H4.out i a ha;have HRA:=Hd hra;obtain⟨k,n,p,x,y,p1,n1,c1,p2,n2,c2,rfl,hvi,hla,hld⟩:=hra;have HVI:=Hd (hvi.ext XE.out);have HAT:=Hd hat;have LT:=Hd hlt;have HIR:Hid (InR wr a.2.1 (.slice p1 n1 c1) (.slice p2 n2 c2) K (qRa a)):=(HRA.out.ext XE.out).inR (HLIM.out a (List.mem_of_getElem? ha)).1 (HLIM.out a (List.mem_of_getElem? ha)).2 HK1.out;have HTK:Hid (sumW (oneV) ((Ls.map ptRa).take (i+1))=sumW (oneV) ((Ls.map ptRa).take i)+(oneV) a.1*qRa a):=take_sum (oneV) (a:=ptRa a) (by rw[List.getElem?_map,ha];rfl)
   obtain⟨s,hsg⟩:∃ s,a.2.1=s:=⟨_,rfl⟩
   rw[hsg]at HAT HIR;have fb:=Nat.lt_of_lt_of_le (HAT.out 0 _ rfl).2 XE.out.size;clear ha hat hi m5 hlt hvi hla hld hsg HRA;have h0:=((HAT.out 0 (.int .u8 (k:Int)) rfl).ext XE.out).1;have h1:=((HAT.out 1 (.int .i64 n) rfl).ext XE.out).1;have h2:=((HAT.out 2 (.slice p x y) rfl).ext XE.out).1;have h3:=((HAT.out 3 (.bool s) rfl).ext XE.out).1;have h4:=((HAT.out 4 (.slice p1 n1 c1) rfl).ext XE.out).1;have h5:=((HAT.out 5 (.slice p2 n2 c2) rfl).ext XE.out).1;rw[Nat.add_zero]at h0;have XB:Hid (Ext wr (wr.alloc (.cells #[.int .u8 (k:Int),.int .i64 n,.slice p x y,.bool s,.slice p1 n1 c1,.slice p2 n2 c2] 47))):=eR.alloc _;have AAx:=Hd AA.out;obtain⟨qb,qp,qn,qc,rp,rn,rc,q0_,q1_,q2_,qx,qr⟩:=AAx.out;have QX:=Hd qx;have QR:=Hd qr;have g0:=q0_.1;have g1:=q1_.1;have g2:=q2_.1;have f5:=q2_.2;have z0:=qx.free 0;have z1:=qx.free 1;have z2:=qx.free 2;clear qx qr q0_ q1_ q2_;go_wp2_with fail;refine (radd_is ((QR.out.ext XB.out).inR (HLR.out i)) (HIR.out.ext XB.out) (by have:=HK.out;omega)).mono ?_;rintro e w3 ⟨sb,sv,su,sm,sd,rfl,e1,o1,x3⟩;obtain⟨sp,sl,sc,tp,tl,tc,rfl,rfl⟩:=e1.slice;have E1:=Hd e1;have XB3:=Hd (XB.out.trans x3);have AAy:=Hd (AAx.out.ext XB3.out);clear g0 g1 g2 z0 z1 z2 f5 e1 o1 x3 QX QR h0 h1 h2 h3 h4 h5 fb;have f0:=AAy.out.bk.lt;obtain⟨g0_,g0⟩:=AAy.out.bk.cell (o:=0) (by decide);have z0:=AAy.out.bk.free 0;obtain⟨g1_,g1⟩:=AAy.out.bk.cell (o:=1) (by decide);have z1:=AAy.out.bk.free 1;obtain⟨g2_,g2⟩:=AAy.out.bk.cell (o:=2) (by decide);have z2:=AAy.out.bk.free 2;go_wp2_with fail;have hb:=XX.out.trans (XB3.out.mono (Nat.le_of_lt (AA.out.bk.lt)))
   refine⟨⟨i+1,by first | rfl | simp | rw[hwi],LT.out,((hb.setCell (Nat.le_refl _) _).setCell (Nat.le_refl _) _).setCell (Nat.le_refl _) _,?_⟩,by simp only[intOf];have:=LT.out;omega⟩;have hset:=AAy.out.set E1.out;rw[HTK.out];unfold oneV;rw[Rat.one_mul];exact hset
  ·have hli:¬ (i:Int)<(m:Int):=by omega
   have him:i=m:=by omega
   rw[him,List.take_of_length_le (by rw[List.length_map,HM.out];exact Nat.le_refl _)]at AA;have BK3:=Hd (BK2.out.blw XX.out H25.out);have BX3:=Hd (BX2.out.blw XX.out H25.out);clear hlt hi him;have AAx:=AA;obtain⟨qb,qp,qn,qc,rp,rn,rc,q0_,q1_,q2_,qx,qr⟩:=AAx.out;have QX:=Hd qx;have QR:=Hd qr;have g0:=q0_.1;have g1:=q1_.1;have g2:=q2_.1;have f5:=q2_.2;have z0:=qx.free 0;have z1:=qx.free 1;have z2:=qx.free 2;clear qx qr q0_ q1_ q2_;have N25:¬ s2=s5:=Nat.ne_of_lt H25.out;have N52:¬ s5=s2:=Nat.ne_of_gt H25.out;have f2:=BK3.out.lt;obtain⟨k0_,k0⟩:=BK3.out.cell (o:=0) (by decide);have l0:=BK3.out.free 0;obtain⟨k1_,k1⟩:=BK3.out.cell (o:=1) (by decide);have l1:=BK3.out.free 1;obtain⟨k2_,k2⟩:=BK3.out.cell (o:=2) (by decide);have l2:=BK3.out.free 2;go_wp2_with fail;obtain⟨d0,d1,d2⟩:=out3 BK3.out (.bool qb) (.slice qp qn qc) (.slice rp rn rc);refine bodyPost_ret (v:=.agg #[.bool qb,.slice qp qn qc,.slice rp rn rc]) (by simp [results,Tryz.results16,go_sem,d0,d1,d2]) rfl ?_;have hg:Gr wr (((wr.setCell ⟨s2,0,none⟩ (.bool qb)).setCell ⟨s2,1,none⟩ (.slice qp qn qc)).setCell ⟨s2,2,none⟩ (.slice rp rn rc)):=setRow_gr BX3.out (cs:=[.bool qb,.slice qp qn qc,.slice rp rn rc]) rfl noI_s3;exact⟨_,_,_,_,_,_,_,rfl,QR.out.gr hg,ext_out3 XE.out HS2.out _ _ _⟩
end Go.Proofs.YtfofjalebhajhaaGreatDoor
