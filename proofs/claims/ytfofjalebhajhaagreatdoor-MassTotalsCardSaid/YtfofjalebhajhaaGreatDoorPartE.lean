/- Facts and contracts, joined: Rat4, Rat5, Cut, Pow. -/
import Derived.Test.YtfofjalebhajhaaGreatDoorPartD
import Derived.Test.YtfofjalebhajhaaGreatDoorPartA
import Derived.Test.YtfofjalebhajhaaGreatDoorPartC
import Derived.Lib.Bytealg
import Derived.Lib.IndexLaws
import Derived.Laws.Externs
namespace Go.Proofs.YtfofjalebhajhaaGreatDoor
open Go Go.RowKit
end Go.Proofs.YtfofjalebhajhaaGreatDoor
namespace Go.Proofs.YtfofjalebhajhaaGreatDoor
open Go Go.RowKit
theorem val_inj {A B:List Nat}(hA:∀ x∈A,x<Bs) (hB:∀ x∈B,x<Bs) (hl:A.length=B.length) (h:val A=val B):A=B:=by
 refine List.ext_getElem hl fun i h1 h2=>?_
 have e1:=el_val hA i;have e2:=el_val hB i;rw[el_of_lt h1]at e1;rw[el_of_lt h2]at e2;rw[e1,e2,h]
theorem same_bool {w:World}{v u:Value}{A B:List Nat}(hA:Limbs w v A) (hB:Limbs w u B) (b:Bool) (hb:decide (A=B)=b) :
  Calls Tryz.prog 97 #[v,u] w fun e w'=>e = .returned (.bool b)∧Ext w w':=by
 subst hb;exact same_calls hA hB
set_option maxHeartbeats 1000000 in
theorem equal_is {w:World}{v u:Value}{A B:List Nat}(hA:Limbs w v A) (hB:Limbs w u B) (hlA:A.length≤65535) (hlB:B.length≤65535) (b:Bool) (hb:decide (A=B)=b) :
  Calls Tryz.prog 56 #[v,u] w fun e w'=>e = .returned (.bool b)∧Ext w w':=by
 obtain⟨pa,qa,rfl,-,-,-⟩:=hA.open;obtain⟨pb,qb,rfl,-,-,-⟩:=hB.open;have H1:=Hd (lmax_17 hlA);have H2:=Hd (lmax_17 hlB)
 by_cases hl:A.length=B.length
 ·have hl':((A.length:Int) == (B.length:Int))=true:=by simp [hl]
  obtain⟨k,hk⟩:∃ k,cmpN (val A) (val B)=k:=⟨_,rfl⟩
  obtain⟨c,hc⟩:∃ c,((k:Int) == 0)=c:=⟨_,rfl⟩
  have HB:Hid (c=b):=by
   show _=_
   rw[←hc,←hb,←hk,Bool.eq_iff_iff,beq_iff_eq,decide_eq_true_eq]
   constructor
   ·intro h;refine val_inj hA.2 hB.2 hl ?_;unfold cmpN at h
    split at h;· omega
    split at h;· omega
    omega
   ·rintro rfl;exact cmpN_eq rfl
  have HK:=Hd hk;have HC:=Hd hc;have HL:=Hd hl;clear hlA hlB hb hk hl hc
  go_enter Tryz.func56,Tryz.ntmps56
  go_wp2_with fail;refine (cmp_int hA hB H1.out H2.out k HK.out).mono ?_;rintro e w1 ⟨rfl,rfl⟩;go_wp2_with fail
  all_goals (go_ret;refine⟨?_,Ext.refl _⟩)
  all_goals (rw[←HB.out,←HC.out];try rfl)
  all_goals (try simp [*])
 ·have hl':((A.length:Int) == (B.length:Int))=false:=by rw[beq_eq_false_iff_ne];omega
  have HB:Hid (false=b):=by
   show _=_
   rw[←hb,eq_comm,decide_eq_false_iff_not];rintro rfl;exact hl rfl
  clear hlA hlB hb hl
  go_enter Tryz.func56,Tryz.ntmps56
  go_wp2_with fail;go_ret;exact⟨by rw[HB.out];rfl,Ext.refl _⟩
set_option maxHeartbeats 4000000 in
set_option maxRecDepth 100000 in
theorem is_raw {w:World}{v1 u1 v2 u2:Value}{A1 B1 A2 B2:List Nat}(h1:Limbs w v1 A1) (g1:Limbs w u1 B1) (h2:Limbs w v2 A2) (g2:Limbs w u2 B2) (b1 b2:Bool) (c:Bool) (hc:decide (b1=b2∧A1=A2∧B1=B2)=c) :
  Calls Tryz.prog 61 #[.agg #[.bool b1,v1,u1],.agg #[.bool b2,v2,u2]] w fun e w'=>e = .returned (.bool c)∧Ext w w':=by
 obtain⟨p1,q1,rfl,-,-,-⟩:=h1.open;obtain⟨p1',q1',rfl,-,-,-⟩:=g1.open;obtain⟨p2,q2,rfl,-,-,-⟩:=h2.open;obtain⟨p2',q2',rfl,-,-,-⟩:=g2.open
 by_cases hb:b1=b2
 case neg =>
  obtain rfl:c=false:=by rw[←hc];simp [hb]
  have hb':(b1 == b2)=false:=by simpa using hb
  clear hb hc
  go_enter Tryz.func61,Tryz.ntmps61
  go_wp2_with fail
  obtain⟨v1,hv1⟩:∃ W,W=((w.alloc (.cells #[.bool b1,.slice p1 A1.length q1,.slice p1' B1.length q1'] 36)).alloc (.cells #[.bool b2,.slice p2 A2.length q2,.slice p2' B2.length q2'] 36)):=⟨_,rfl⟩
  have y1:Ext w v1:=by rw[hv1];exact ((eR.alloc _).alloc _)
  have b0_0:Hid (At (w.heap.size) 0 (.bool b1) v1):=by rw[hv1];exact At.ext (At.n0 (by rfl)) (eR.alloc _)
  have b0_1:Hid (At (w.heap.size) 1 (.slice p1 A1.length q1) v1):=by rw[hv1];exact At.ext (At.n0 (by rfl)) (eR.alloc _)
  have b0_2:Hid (At (w.heap.size) 2 (.slice p1' B1.length q1') v1):=by rw[hv1];exact At.ext (At.n0 (by rfl)) (eR.alloc _)
  have k0:Hid (Bx 3 (w.heap.size) v1):=by rw[hv1];exact Bx.gr (Bx.n0 3 ⟨rfl,by decide⟩ (by decide) noI_s3) (Ext.gr (eR.alloc _))
  have u0:Hid (w.heap.size<v1.heap.size):=b0_0.out.2
  have b1_0:Hid (At (w.heap.size+1) 0 (.bool b2) v1):=by rw[hv1];exact At.ext (At.n1 (by rfl)) eR
  have b1_1:Hid (At (w.heap.size+1) 1 (.slice p2 A2.length q2) v1):=by rw[hv1];exact At.ext (At.n1 (by rfl)) eR
  have b1_2:Hid (At (w.heap.size+1) 2 (.slice p2' B2.length q2') v1):=by rw[hv1];exact At.ext (At.n1 (by rfl)) eR
  have k1:Hid (Bx 3 (w.heap.size+1) v1):=by rw[hv1];exact Bx.gr (Bx.n1 3 ⟨rfl,by decide⟩ (by decide) noI_s3) (Ext.gr eR)
  have u1:Hid (w.heap.size+1<v1.heap.size):=b1_0.out.2;have e1_:Ext w v1:=y1;rw[←hv1];clear hv1;go_ret;exact⟨rfl,e1_⟩
 subst hb
 by_cases ha:A1=A2
 case neg =>
  obtain rfl:c=false:=by rw[←hc];simp [ha]
  have HA:Hid (decide (A1=A2)=false):=decide_eq_false ha;clear ha hc
  go_enter Tryz.func61,Tryz.ntmps61
  go_wp2_with fail
  obtain⟨v1,hv1⟩:∃ W,W=((w.alloc (.cells #[.bool b1,.slice p1 A1.length q1,.slice p1' B1.length q1'] 36)).alloc (.cells #[.bool b1,.slice p2 A2.length q2,.slice p2' B2.length q2'] 36)):=⟨_,rfl⟩
  have y1:Ext w v1:=by rw[hv1];exact ((eR.alloc _).alloc _)
  have b0_0:Hid (At (w.heap.size) 0 (.bool b1) v1):=by rw[hv1];exact At.ext (At.n0 (by rfl)) (eR.alloc _)
  have b0_1:Hid (At (w.heap.size) 1 (.slice p1 A1.length q1) v1):=by rw[hv1];exact At.ext (At.n0 (by rfl)) (eR.alloc _)
  have b0_2:Hid (At (w.heap.size) 2 (.slice p1' B1.length q1') v1):=by rw[hv1];exact At.ext (At.n0 (by rfl)) (eR.alloc _)
  have k0:Hid (Bx 3 (w.heap.size) v1):=by rw[hv1];exact Bx.gr (Bx.n0 3 ⟨rfl,by decide⟩ (by decide) noI_s3) (Ext.gr (eR.alloc _))
  have u0:Hid (w.heap.size<v1.heap.size):=b0_0.out.2
  have b1_0:Hid (At (w.heap.size+1) 0 (.bool b1) v1):=by rw[hv1];exact At.ext (At.n1 (by rfl)) eR
  have b1_1:Hid (At (w.heap.size+1) 1 (.slice p2 A2.length q2) v1):=by rw[hv1];exact At.ext (At.n1 (by rfl)) eR
  have b1_2:Hid (At (w.heap.size+1) 2 (.slice p2' B2.length q2') v1):=by rw[hv1];exact At.ext (At.n1 (by rfl)) eR
  have k1:Hid (Bx 3 (w.heap.size+1) v1):=by rw[hv1];exact Bx.gr (Bx.n1 3 ⟨rfl,by decide⟩ (by decide) noI_s3) (Ext.gr eR)
  have u1:Hid (w.heap.size+1<v1.heap.size):=b1_0.out.2;have e1_:Ext w v1:=y1;rw[←hv1];clear hv1;refine (same_bool (h1.ext y1) (h2.ext y1) false HA.out).mono ?_;rintro e w2 ⟨rfl,x2⟩;have e2_:Ext w w2:=Ext.trans e1_ x2;go_wp2_with fail;go_ret;exact⟨rfl,e2_⟩
 have HA:Hid (decide (A1=A2)=true):=decide_eq_true ha
 by_cases hd:B1=B2
 case neg =>
  obtain rfl:c=false:=by rw[←hc];simp [hd]
  have HB:Hid (decide (B1=B2)=false):=decide_eq_false hd;clear ha hd hc
  go_enter Tryz.func61,Tryz.ntmps61
  go_wp2_with fail
  obtain⟨v1,hv1⟩:∃ W,W=((w.alloc (.cells #[.bool b1,.slice p1 A1.length q1,.slice p1' B1.length q1'] 36)).alloc (.cells #[.bool b1,.slice p2 A2.length q2,.slice p2' B2.length q2'] 36)):=⟨_,rfl⟩
  have y1:Ext w v1:=by rw[hv1];exact ((eR.alloc _).alloc _)
  have b0_0:Hid (At (w.heap.size) 0 (.bool b1) v1):=by rw[hv1];exact At.ext (At.n0 (by rfl)) (eR.alloc _)
  have b0_1:Hid (At (w.heap.size) 1 (.slice p1 A1.length q1) v1):=by rw[hv1];exact At.ext (At.n0 (by rfl)) (eR.alloc _)
  have b0_2:Hid (At (w.heap.size) 2 (.slice p1' B1.length q1') v1):=by rw[hv1];exact At.ext (At.n0 (by rfl)) (eR.alloc _)
  have k0:Hid (Bx 3 (w.heap.size) v1):=by rw[hv1];exact Bx.gr (Bx.n0 3 ⟨rfl,by decide⟩ (by decide) noI_s3) (Ext.gr (eR.alloc _))
  have u0:Hid (w.heap.size<v1.heap.size):=b0_0.out.2
  have b1_0:Hid (At (w.heap.size+1) 0 (.bool b1) v1):=by rw[hv1];exact At.ext (At.n1 (by rfl)) eR
  have b1_1:Hid (At (w.heap.size+1) 1 (.slice p2 A2.length q2) v1):=by rw[hv1];exact At.ext (At.n1 (by rfl)) eR
  have b1_2:Hid (At (w.heap.size+1) 2 (.slice p2' B2.length q2') v1):=by rw[hv1];exact At.ext (At.n1 (by rfl)) eR
  have k1:Hid (Bx 3 (w.heap.size+1) v1):=by rw[hv1];exact Bx.gr (Bx.n1 3 ⟨rfl,by decide⟩ (by decide) noI_s3) (Ext.gr eR)
  have u1:Hid (w.heap.size+1<v1.heap.size):=b1_0.out.2;have e1_:Ext w v1:=y1;rw[←hv1];clear hv1;refine (same_bool (h1.ext y1) (h2.ext y1) true HA.out).mono ?_;rintro e w2 ⟨rfl,x2⟩;have e2_:Ext w w2:=Ext.trans e1_ x2;have g0_2:=(b0_2.out.ext x2).1;have g1_2:=(b1_2.out.ext x2).1;have f0:w.heap.size<w2.heap.size:=(b0_0.out.ext x2).2;have f1:w.heap.size+1<w2.heap.size:=(b1_0.out.ext x2).2;go_wp2_with fail;refine (same_bool (g1.ext (y1.trans x2)) (g2.ext (y1.trans x2)) false HB.out).mono ?_;rintro e w3 ⟨rfl,x3⟩;have e3_:Ext w w3:=Ext.trans e2_ x3;clear g0_2 g1_2 f0 f1;go_wp2_with fail;go_ret;exact⟨rfl,e3_⟩
 case pos =>
  obtain rfl:c=true:=by rw[←hc];simp [ha,hd]
  have HB:Hid (decide (B1=B2)=true):=decide_eq_true hd;clear ha hd hc
  go_enter Tryz.func61,Tryz.ntmps61
  go_wp2_with fail
  obtain⟨v1,hv1⟩:∃ W,W=((w.alloc (.cells #[.bool b1,.slice p1 A1.length q1,.slice p1' B1.length q1'] 36)).alloc (.cells #[.bool b1,.slice p2 A2.length q2,.slice p2' B2.length q2'] 36)):=⟨_,rfl⟩
  have y1:Ext w v1:=by rw[hv1];exact ((eR.alloc _).alloc _)
  have b0_0:Hid (At (w.heap.size) 0 (.bool b1) v1):=by rw[hv1];exact At.ext (At.n0 (by rfl)) (eR.alloc _)
  have b0_1:Hid (At (w.heap.size) 1 (.slice p1 A1.length q1) v1):=by rw[hv1];exact At.ext (At.n0 (by rfl)) (eR.alloc _)
  have b0_2:Hid (At (w.heap.size) 2 (.slice p1' B1.length q1') v1):=by rw[hv1];exact At.ext (At.n0 (by rfl)) (eR.alloc _)
  have k0:Hid (Bx 3 (w.heap.size) v1):=by rw[hv1];exact Bx.gr (Bx.n0 3 ⟨rfl,by decide⟩ (by decide) noI_s3) (Ext.gr (eR.alloc _))
  have u0:Hid (w.heap.size<v1.heap.size):=b0_0.out.2
  have b1_0:Hid (At (w.heap.size+1) 0 (.bool b1) v1):=by rw[hv1];exact At.ext (At.n1 (by rfl)) eR
  have b1_1:Hid (At (w.heap.size+1) 1 (.slice p2 A2.length q2) v1):=by rw[hv1];exact At.ext (At.n1 (by rfl)) eR
  have b1_2:Hid (At (w.heap.size+1) 2 (.slice p2' B2.length q2') v1):=by rw[hv1];exact At.ext (At.n1 (by rfl)) eR
  have k1:Hid (Bx 3 (w.heap.size+1) v1):=by rw[hv1];exact Bx.gr (Bx.n1 3 ⟨rfl,by decide⟩ (by decide) noI_s3) (Ext.gr eR)
  have u1:Hid (w.heap.size+1<v1.heap.size):=b1_0.out.2;have e1_:Ext w v1:=y1;rw[←hv1];clear hv1;refine (same_bool (h1.ext y1) (h2.ext y1) true HA.out).mono ?_;rintro e w2 ⟨rfl,x2⟩;have e2_:Ext w w2:=Ext.trans e1_ x2;have g0_2:=(b0_2.out.ext x2).1;have g1_2:=(b1_2.out.ext x2).1;have f0:w.heap.size<w2.heap.size:=(b0_0.out.ext x2).2;have f1:w.heap.size+1<w2.heap.size:=(b1_0.out.ext x2).2;go_wp2_with fail;refine (same_bool (g1.ext (y1.trans x2)) (g2.ext (y1.trans x2)) true HB.out).mono ?_;rintro e w3 ⟨rfl,x3⟩;have e3_:Ext w w3:=Ext.trans e2_ x3;clear g0_2 g1_2 f0 f1;go_wp2_with fail;go_ret;exact⟨rfl,e3_⟩
set_option maxHeartbeats 4000000 in
set_option maxRecDepth 100000 in
theorem rsame_calls {w:World}{ba bb:Bool}{va ua vb ub:Value}{k l:Nat}{a b:Rat}(ha:InR w ba va ua k a) (hb:InR w bb vb ub l b) (hk:k+l≤30000) (c:Bool) (hc:decide (a=b)=c) :
  Calls Tryz.prog 11 #[.agg #[.bool ba,va,ua],.agg #[.bool bb,vb,ub]] w fun e w'=>e = .returned (.bool c)∧Ext w w':=by
 obtain⟨s,hs⟩:∃ s,cmpR a b=s:=⟨_,rfl⟩
 have HC:Hid ((s == 0)=c):=by
  show _=_
  rw[←hs,←hc,Bool.eq_iff_iff,beq_iff_eq,decide_eq_true_eq,cmpR_eq]
 have HS:=Hd hs;have HK:=Hd hk;obtain⟨pa,qa,ra,pa',qa',ra',rfl,rfl⟩:=ha.slice;obtain⟨pb,qb,rb,pb',qb',rb',rfl,rfl⟩:=hb.slice;clear hs hc hk
 go_enter Tryz.func11,Tryz.ntmps11
 go_wp2_with fail
 obtain⟨v1,hv1⟩:∃ W,W=((w.alloc (.cells #[.bool ba,.slice pa qa ra,.slice pa' qa' ra'] 36)).alloc (.cells #[.bool bb,.slice pb qb rb,.slice pb' qb' rb'] 36)):=⟨_,rfl⟩
 have y1:Ext w v1:=by rw[hv1];exact ((eR.alloc _).alloc _)
 have b0_0:Hid (At (w.heap.size) 0 (.bool ba) v1):=by rw[hv1];exact At.ext (At.n0 (by rfl)) (eR.alloc _)
 have b0_1:Hid (At (w.heap.size) 1 (.slice pa qa ra) v1):=by rw[hv1];exact At.ext (At.n0 (by rfl)) (eR.alloc _)
 have b0_2:Hid (At (w.heap.size) 2 (.slice pa' qa' ra') v1):=by rw[hv1];exact At.ext (At.n0 (by rfl)) (eR.alloc _)
 have k0:Hid (Bx 3 (w.heap.size) v1):=by rw[hv1];exact Bx.gr (Bx.n0 3 ⟨rfl,by decide⟩ (by decide) noI_s3) (Ext.gr (eR.alloc _))
 have u0:Hid (w.heap.size<v1.heap.size):=b0_0.out.2
 have b1_0:Hid (At (w.heap.size+1) 0 (.bool bb) v1):=by rw[hv1];exact At.ext (At.n1 (by rfl)) eR
 have b1_1:Hid (At (w.heap.size+1) 1 (.slice pb qb rb) v1):=by rw[hv1];exact At.ext (At.n1 (by rfl)) eR
 have b1_2:Hid (At (w.heap.size+1) 2 (.slice pb' qb' rb') v1):=by rw[hv1];exact At.ext (At.n1 (by rfl)) eR
 have k1:Hid (Bx 3 (w.heap.size+1) v1):=by rw[hv1];exact Bx.gr (Bx.n1 3 ⟨rfl,by decide⟩ (by decide) noI_s3) (Ext.gr eR)
 have u1:Hid (w.heap.size+1<v1.heap.size):=b1_0.out.2;have e1_:Ext w v1:=y1;rw[←hv1];clear hv1;refine (rcmp_is (ha.ext y1) (hb.ext y1) HK.out HS.out).mono ?_;rintro e w2 ⟨rfl,x2⟩;have e2_:Ext w w2:=Ext.trans e1_ x2;go_wp2_with fail;go_ret;refine⟨?_,e2_⟩;rw[←HC.out];rfl
set_option maxHeartbeats 4000000 in
set_option maxRecDepth 100000 in
theorem rmay_raw {w:World}{b:Bool}{v u:Value}{k:Nat}{q:Rat}{A B:List Nat}(hA:Limbs w v A) (hB:Limbs w u B) (hq:mkRat (iv b A) (val B)=q) (hlA:A.length≤k) (hlB:B.length≤k) (hk1:1≤k) (hk:k≤65535) (c:Bool)
  (hc:decide (val B≠0∧decide (q.num<0)=b∧dig q.num.natAbs=A∧dig q.den=B)=c) :
  Calls Tryz.prog 51 #[.agg #[.bool b,v,u]] w fun e w'=>e = .returned (.bool c)∧Ext w w':=by
 have HLR:=Hd (lenR_raw hA hB hq hlA hlB hk1);have HLM:Hid ((dig q.num.natAbs).length≤65535):=Nat.le_trans (dig_len_le HLR.out.1) hk;have HLD:Hid ((dig q.den).length≤65535):=Nat.le_trans (dig_len_le HLR.out.2) hk;obtain⟨pa,qa,rfl,-,-,-⟩:=hA.open;obtain⟨pb,qb,rfl,-,-,-⟩:=hB.open;have HQ:=Hd hq;have HLA:=Hd hlA;have HLB:=Hd hlB;have HK:=Hd hk;clear hq hlA hlB hk
 by_cases hb0:val B=0
 case pos =>
  obtain rfl:c=false:=by rw[←hc];simp [hb0]
  have HB0:=Hd hb0;clear hb0 hc
  go_enter Tryz.func51,Tryz.ntmps51
  go_wp2_with fail
  obtain⟨v1,hv1⟩:∃ W,W=(w.alloc (.cells #[.bool b,.slice pa A.length qa,.slice pb B.length qb] 36)):=⟨_,rfl⟩
  have y1:Ext w v1:=by rw[hv1];exact (eR.alloc _)
  have b0_0:Hid (At (w.heap.size) 0 (.bool b) v1):=by rw[hv1];exact At.ext (At.n0 (by rfl)) eR
  have b0_1:Hid (At (w.heap.size) 1 (.slice pa A.length qa) v1):=by rw[hv1];exact At.ext (At.n0 (by rfl)) eR
  have b0_2:Hid (At (w.heap.size) 2 (.slice pb B.length qb) v1):=by rw[hv1];exact At.ext (At.n0 (by rfl)) eR
  have k0:Hid (Bx 3 (w.heap.size) v1):=by rw[hv1];exact Bx.gr (Bx.n0 3 ⟨rfl,by decide⟩ (by decide) noI_s3) (Ext.gr eR)
  have u0:Hid (w.heap.size<v1.heap.size):=b0_0.out.2;have e1_:Ext w v1:=y1;rw[←hv1];clear hv1;refine (rmake_zero ⟨_,(hA.ext y1),rfl,HLA.out⟩ ⟨_,(hB.ext y1),rfl,HLB.out⟩ HB0.out (by have h1:=HK.out;have h2:=HLA.out;have h3:=HLB.out;omega) (by have h1:=HK.out;have h2:=HLA.out;have h3:=HLB.out;omega)).mono ?_;rintro e w2 ⟨rfl,x2⟩;have e2_:Ext w w2:=Ext.trans e1_ x2;go_wp2_with fail
  obtain⟨v3,hv3⟩:∃ W,W=(w2.alloc (.cells #[.bool false,.slice none 0 0,.slice none 0 0] 36)):=⟨_,rfl⟩
  have y3:Ext w2 v3:=by rw[hv3];exact (eR.alloc _)
  have b1_0:Hid (At (w2.heap.size) 0 (.bool false) v3):=by rw[hv3];exact At.ext (At.n0 (by rfl)) eR
  have b1_1:Hid (At (w2.heap.size) 1 (.slice none 0 0) v3):=by rw[hv3];exact At.ext (At.n0 (by rfl)) eR
  have b1_2:Hid (At (w2.heap.size) 2 (.slice none 0 0) v3):=by rw[hv3];exact At.ext (At.n0 (by rfl)) eR
  have k1:Hid (Bx 3 (w2.heap.size) v3):=by rw[hv3];exact Bx.gr (Bx.n0 3 ⟨rfl,by decide⟩ (by decide) noI_s3) (Ext.gr eR)
  have u1:Hid (w2.heap.size<v3.heap.size):=b1_0.out.2;have e3_:Ext w v3:=Ext.trans e2_ y3;rw[←hv3];clear hv3;go_ret;exact⟨rfl,e3_⟩
 have HB0:Hid (val B≠0):=hb0
 by_cases hs:decide (q.num<0)=b
 case neg =>
  obtain rfl:c=false:=by rw[←hc,decide_eq_false_iff_not];rintro⟨-,h,-⟩;exact hs h
  have HS:Hid (¬ decide (q.num<0)=b):=hs;clear hb0 hs hc
  go_enter Tryz.func51,Tryz.ntmps51
  go_wp2_with fail
  obtain⟨v1,hv1⟩:∃ W,W=(w.alloc (.cells #[.bool b,.slice pa A.length qa,.slice pb B.length qb] 36)):=⟨_,rfl⟩
  have y1:Ext w v1:=by rw[hv1];exact (eR.alloc _)
  have b0_0:Hid (At (w.heap.size) 0 (.bool b) v1):=by rw[hv1];exact At.ext (At.n0 (by rfl)) eR
  have b0_1:Hid (At (w.heap.size) 1 (.slice pa A.length qa) v1):=by rw[hv1];exact At.ext (At.n0 (by rfl)) eR
  have b0_2:Hid (At (w.heap.size) 2 (.slice pb B.length qb) v1):=by rw[hv1];exact At.ext (At.n0 (by rfl)) eR
  have k0:Hid (Bx 3 (w.heap.size) v1):=by rw[hv1];exact Bx.gr (Bx.n0 3 ⟨rfl,by decide⟩ (by decide) noI_s3) (Ext.gr eR)
  have u0:Hid (w.heap.size<v1.heap.size):=b0_0.out.2;have e1_:Ext w v1:=y1;rw[←hv1];clear hv1;refine (rmake_is ⟨_,(hA.ext y1),rfl,HLA.out⟩ ⟨_,(hB.ext y1),rfl,HLB.out⟩ HB0.out (by have h1:=HK.out;have h2:=HLA.out;have h3:=HLB.out;omega) (by have h1:=HK.out;have h2:=HLA.out;have h3:=HLB.out;omega) HQ.out).mono ?_;rintro e w2 ⟨sb1,sv1,su1,sm1,sd1,rfl,e1,o1,x2⟩;have e2_:Ext w w2:=Ext.trans e1_ x2;obtain⟨sp1,sl1,sc1,tp1,tl1,tc1,rfl,rfl⟩:=e1.slice
  have hsb:(sb1 == b)=false:=by rw[beq_eq_false_iff_ne];intro h;exact HS.out (e1.1.trans h)
  have g0_0:=(b0_0.out.ext x2).1;have f0:w.heap.size<w2.heap.size:=(b0_0.out.ext x2).2;go_wp2_with fail
  obtain⟨v3,hv3⟩:∃ W,W=(w2.alloc (.cells #[.bool sb1,.slice sp1 sl1 sc1,.slice tp1 tl1 tc1] 36)):=⟨_,rfl⟩
  have y3:Ext w2 v3:=by rw[hv3];exact (eR.alloc _)
  have b1_0:Hid (At (w2.heap.size) 0 (.bool sb1) v3):=by rw[hv3];exact At.ext (At.n0 (by rfl)) eR
  have b1_1:Hid (At (w2.heap.size) 1 (.slice sp1 sl1 sc1) v3):=by rw[hv3];exact At.ext (At.n0 (by rfl)) eR
  have b1_2:Hid (At (w2.heap.size) 2 (.slice tp1 tl1 tc1) v3):=by rw[hv3];exact At.ext (At.n0 (by rfl)) eR
  have k1:Hid (Bx 3 (w2.heap.size) v3):=by rw[hv3];exact Bx.gr (Bx.n0 3 ⟨rfl,by decide⟩ (by decide) noI_s3) (Ext.gr eR)
  have u1:Hid (w2.heap.size<v3.heap.size):=b1_0.out.2;have e3_:Ext w v3:=Ext.trans e2_ y3;rw[←hv3];clear hv3;go_ret;exact⟨rfl,e3_⟩
 have HS:Hid (decide (q.num<0)=b):=hs
 by_cases ha:dig q.num.natAbs=A
 case neg =>
  obtain rfl:c=false:=by rw[←hc,decide_eq_false_iff_not];rintro⟨-,-,h,-⟩;exact ha h
  have HA:Hid (decide (dig q.num.natAbs=A)=false):=decide_eq_false ha;clear hb0 hs ha hc
  go_enter Tryz.func51,Tryz.ntmps51
  go_wp2_with fail
  obtain⟨v1,hv1⟩:∃ W,W=(w.alloc (.cells #[.bool b,.slice pa A.length qa,.slice pb B.length qb] 36)):=⟨_,rfl⟩
  have y1:Ext w v1:=by rw[hv1];exact (eR.alloc _)
  have b0_0:Hid (At (w.heap.size) 0 (.bool b) v1):=by rw[hv1];exact At.ext (At.n0 (by rfl)) eR
  have b0_1:Hid (At (w.heap.size) 1 (.slice pa A.length qa) v1):=by rw[hv1];exact At.ext (At.n0 (by rfl)) eR
  have b0_2:Hid (At (w.heap.size) 2 (.slice pb B.length qb) v1):=by rw[hv1];exact At.ext (At.n0 (by rfl)) eR
  have k0:Hid (Bx 3 (w.heap.size) v1):=by rw[hv1];exact Bx.gr (Bx.n0 3 ⟨rfl,by decide⟩ (by decide) noI_s3) (Ext.gr eR)
  have u0:Hid (w.heap.size<v1.heap.size):=b0_0.out.2;have e1_:Ext w v1:=y1;rw[←hv1];clear hv1;refine (rmake_is ⟨_,(hA.ext y1),rfl,HLA.out⟩ ⟨_,(hB.ext y1),rfl,HLB.out⟩ HB0.out (by have h1:=HK.out;have h2:=HLA.out;have h3:=HLB.out;omega) (by have h1:=HK.out;have h2:=HLA.out;have h3:=HLB.out;omega) HQ.out).mono ?_;rintro e w2 ⟨sb1,sv1,su1,sm1,sd1,rfl,e1,o1,x2⟩;have e2_:Ext w w2:=Ext.trans e1_ x2;obtain⟨sp1,sl1,sc1,tp1,tl1,tc1,rfl,rfl⟩:=e1.slice;have hsb:sb1=b:=e1.1.symm.trans HS.out;subst sb1;have g0_0:=(b0_0.out.ext x2).1;have g0_1:=(b0_1.out.ext x2).1;have f0:w.heap.size<w2.heap.size:=(b0_0.out.ext x2).2;go_wp2_with fail
  obtain⟨v3,hv3⟩:∃ W,W=(w2.alloc (.cells #[.bool b,.slice sp1 sl1 sc1,.slice tp1 tl1 tc1] 36)):=⟨_,rfl⟩
  have y3:Ext w2 v3:=by rw[hv3];exact (eR.alloc _)
  have b1_0:Hid (At (w2.heap.size) 0 (.bool b) v3):=by rw[hv3];exact At.ext (At.n0 (by rfl)) eR
  have b1_1:Hid (At (w2.heap.size) 1 (.slice sp1 sl1 sc1) v3):=by rw[hv3];exact At.ext (At.n0 (by rfl)) eR
  have b1_2:Hid (At (w2.heap.size) 2 (.slice tp1 tl1 tc1) v3):=by rw[hv3];exact At.ext (At.n0 (by rfl)) eR
  have k1:Hid (Bx 3 (w2.heap.size) v3):=by rw[hv3];exact Bx.gr (Bx.n0 3 ⟨rfl,by decide⟩ (by decide) noI_s3) (Ext.gr eR)
  have u1:Hid (w2.heap.size<v3.heap.size):=b1_0.out.2;have e3_:Ext w v3:=Ext.trans e2_ y3;rw[←hv3];clear hv3;refine (equal_is (e1.ext y3).2.2.2.1 (hA.ext (y1.trans (x2.trans y3))) (by rw[e1.2.1.symm];exact HLM.out) (by have h1:=HK.out;have h2:=HLA.out;have h3:=HLB.out;omega) false (by rw[e1.2.1.symm];exact HA.out)).mono ?_;rintro e w4 ⟨rfl,x4⟩;have e4_:Ext w w4:=Ext.trans e3_ x4;clear g0_0 g0_1 f0;go_wp2_with fail;go_ret;exact⟨rfl,e4_⟩
 have HA:Hid (decide (dig q.num.natAbs=A)=true):=decide_eq_true ha
 by_cases hd:dig q.den=B
 case neg =>
  obtain rfl:c=false:=by rw[←hc,decide_eq_false_iff_not];rintro⟨-,-,-,h⟩;exact hd h
  have HD:Hid (decide (dig q.den=B)=false):=decide_eq_false hd;clear hb0 hs ha hd hc
  go_enter Tryz.func51,Tryz.ntmps51
  go_wp2_with fail
  obtain⟨v1,hv1⟩:∃ W,W=(w.alloc (.cells #[.bool b,.slice pa A.length qa,.slice pb B.length qb] 36)):=⟨_,rfl⟩
  have y1:Ext w v1:=by rw[hv1];exact (eR.alloc _)
  have b0_0:Hid (At (w.heap.size) 0 (.bool b) v1):=by rw[hv1];exact At.ext (At.n0 (by rfl)) eR
  have b0_1:Hid (At (w.heap.size) 1 (.slice pa A.length qa) v1):=by rw[hv1];exact At.ext (At.n0 (by rfl)) eR
  have b0_2:Hid (At (w.heap.size) 2 (.slice pb B.length qb) v1):=by rw[hv1];exact At.ext (At.n0 (by rfl)) eR
  have k0:Hid (Bx 3 (w.heap.size) v1):=by rw[hv1];exact Bx.gr (Bx.n0 3 ⟨rfl,by decide⟩ (by decide) noI_s3) (Ext.gr eR)
  have u0:Hid (w.heap.size<v1.heap.size):=b0_0.out.2;have e1_:Ext w v1:=y1;rw[←hv1];clear hv1;refine (rmake_is ⟨_,(hA.ext y1),rfl,HLA.out⟩ ⟨_,(hB.ext y1),rfl,HLB.out⟩ HB0.out (by have h1:=HK.out;have h2:=HLA.out;have h3:=HLB.out;omega) (by have h1:=HK.out;have h2:=HLA.out;have h3:=HLB.out;omega) HQ.out).mono ?_;rintro e w2 ⟨sb1,sv1,su1,sm1,sd1,rfl,e1,o1,x2⟩;have e2_:Ext w w2:=Ext.trans e1_ x2;obtain⟨sp1,sl1,sc1,tp1,tl1,tc1,rfl,rfl⟩:=e1.slice;have hsb:sb1=b:=e1.1.symm.trans HS.out;subst sb1;have g0_0:=(b0_0.out.ext x2).1;have g0_1:=(b0_1.out.ext x2).1;have f0:w.heap.size<w2.heap.size:=(b0_0.out.ext x2).2;go_wp2_with fail
  obtain⟨v3,hv3⟩:∃ W,W=(w2.alloc (.cells #[.bool b,.slice sp1 sl1 sc1,.slice tp1 tl1 tc1] 36)):=⟨_,rfl⟩
  have y3:Ext w2 v3:=by rw[hv3];exact (eR.alloc _)
  have b1_0:Hid (At (w2.heap.size) 0 (.bool b) v3):=by rw[hv3];exact At.ext (At.n0 (by rfl)) eR
  have b1_1:Hid (At (w2.heap.size) 1 (.slice sp1 sl1 sc1) v3):=by rw[hv3];exact At.ext (At.n0 (by rfl)) eR
  have b1_2:Hid (At (w2.heap.size) 2 (.slice tp1 tl1 tc1) v3):=by rw[hv3];exact At.ext (At.n0 (by rfl)) eR
  have k1:Hid (Bx 3 (w2.heap.size) v3):=by rw[hv3];exact Bx.gr (Bx.n0 3 ⟨rfl,by decide⟩ (by decide) noI_s3) (Ext.gr eR)
  have u1:Hid (w2.heap.size<v3.heap.size):=b1_0.out.2;have e3_:Ext w v3:=Ext.trans e2_ y3;rw[←hv3];clear hv3;refine (equal_is (e1.ext y3).2.2.2.1 (hA.ext (y1.trans (x2.trans y3))) (by rw[e1.2.1.symm];exact HLM.out) (by have h1:=HK.out;have h2:=HLA.out;have h3:=HLB.out;omega) true (by rw[e1.2.1.symm];exact HA.out)).mono ?_;rintro e w4 ⟨rfl,x4⟩;have e4_:Ext w w4:=Ext.trans e3_ x4;clear g0_0 g0_1 f0;have g1_2:=(b1_2.out.ext x4).1;have g0_2:=(b0_2.out.ext (x2.trans (y3.trans x4))).1;have f1:w2.heap.size<w4.heap.size:=(b1_0.out.ext x4).2;have f0:w.heap.size<w4.heap.size:=(b0_0.out.ext (x2.trans (y3.trans x4))).2;go_wp2_with fail;refine (equal_is (e1.ext (y3.trans x4)).2.2.2.2 (hB.ext (y1.trans (x2.trans (y3.trans x4)))) (by rw[e1.2.2.1.symm];exact HLD.out) (by have h1:=HK.out;have h2:=HLA.out;have h3:=HLB.out;omega) false (by rw[e1.2.2.1.symm];exact HD.out)).mono ?_;rintro e w5 ⟨rfl,x5⟩;have e5_:Ext w w5:=Ext.trans e4_ x5;clear g1_2 g0_2 f1 f0;go_wp2_with fail;go_ret;exact⟨rfl,e5_⟩
 case pos =>
  obtain rfl:c=true:=by rw[←hc,decide_eq_true_eq];exact⟨hb0,hs,ha,hd⟩
  have HD:Hid (decide (dig q.den=B)=true):=decide_eq_true hd;clear hb0 hs ha hd hc
  go_enter Tryz.func51,Tryz.ntmps51
  go_wp2_with fail
  obtain⟨v1,hv1⟩:∃ W,W=(w.alloc (.cells #[.bool b,.slice pa A.length qa,.slice pb B.length qb] 36)):=⟨_,rfl⟩
  have y1:Ext w v1:=by rw[hv1];exact (eR.alloc _)
  have b0_0:Hid (At (w.heap.size) 0 (.bool b) v1):=by rw[hv1];exact At.ext (At.n0 (by rfl)) eR
  have b0_1:Hid (At (w.heap.size) 1 (.slice pa A.length qa) v1):=by rw[hv1];exact At.ext (At.n0 (by rfl)) eR
  have b0_2:Hid (At (w.heap.size) 2 (.slice pb B.length qb) v1):=by rw[hv1];exact At.ext (At.n0 (by rfl)) eR
  have k0:Hid (Bx 3 (w.heap.size) v1):=by rw[hv1];exact Bx.gr (Bx.n0 3 ⟨rfl,by decide⟩ (by decide) noI_s3) (Ext.gr eR)
  have u0:Hid (w.heap.size<v1.heap.size):=b0_0.out.2;have e1_:Ext w v1:=y1;rw[←hv1];clear hv1;refine (rmake_is ⟨_,(hA.ext y1),rfl,HLA.out⟩ ⟨_,(hB.ext y1),rfl,HLB.out⟩ HB0.out (by have h1:=HK.out;have h2:=HLA.out;have h3:=HLB.out;omega) (by have h1:=HK.out;have h2:=HLA.out;have h3:=HLB.out;omega) HQ.out).mono ?_;rintro e w2 ⟨sb1,sv1,su1,sm1,sd1,rfl,e1,o1,x2⟩;have e2_:Ext w w2:=Ext.trans e1_ x2;obtain⟨sp1,sl1,sc1,tp1,tl1,tc1,rfl,rfl⟩:=e1.slice;have hsb:sb1=b:=e1.1.symm.trans HS.out;subst sb1;have g0_0:=(b0_0.out.ext x2).1;have g0_1:=(b0_1.out.ext x2).1;have f0:w.heap.size<w2.heap.size:=(b0_0.out.ext x2).2;go_wp2_with fail
  obtain⟨v3,hv3⟩:∃ W,W=(w2.alloc (.cells #[.bool b,.slice sp1 sl1 sc1,.slice tp1 tl1 tc1] 36)):=⟨_,rfl⟩
  have y3:Ext w2 v3:=by rw[hv3];exact (eR.alloc _)
  have b1_0:Hid (At (w2.heap.size) 0 (.bool b) v3):=by rw[hv3];exact At.ext (At.n0 (by rfl)) eR
  have b1_1:Hid (At (w2.heap.size) 1 (.slice sp1 sl1 sc1) v3):=by rw[hv3];exact At.ext (At.n0 (by rfl)) eR
  have b1_2:Hid (At (w2.heap.size) 2 (.slice tp1 tl1 tc1) v3):=by rw[hv3];exact At.ext (At.n0 (by rfl)) eR
  have k1:Hid (Bx 3 (w2.heap.size) v3):=by rw[hv3];exact Bx.gr (Bx.n0 3 ⟨rfl,by decide⟩ (by decide) noI_s3) (Ext.gr eR)
  have u1:Hid (w2.heap.size<v3.heap.size):=b1_0.out.2;have e3_:Ext w v3:=Ext.trans e2_ y3;rw[←hv3];clear hv3;refine (equal_is (e1.ext y3).2.2.2.1 (hA.ext (y1.trans (x2.trans y3))) (by rw[e1.2.1.symm];exact HLM.out) (by have h1:=HK.out;have h2:=HLA.out;have h3:=HLB.out;omega) true (by rw[e1.2.1.symm];exact HA.out)).mono ?_;rintro e w4 ⟨rfl,x4⟩;have e4_:Ext w w4:=Ext.trans e3_ x4;clear g0_0 g0_1 f0;have g1_2:=(b1_2.out.ext x4).1;have g0_2:=(b0_2.out.ext (x2.trans (y3.trans x4))).1;have f1:w2.heap.size<w4.heap.size:=(b1_0.out.ext x4).2;have f0:w.heap.size<w4.heap.size:=(b0_0.out.ext (x2.trans (y3.trans x4))).2;go_wp2_with fail;refine (equal_is (e1.ext (y3.trans x4)).2.2.2.2 (hB.ext (y1.trans (x2.trans (y3.trans x4)))) (by rw[e1.2.2.1.symm];exact HLD.out) (by have h1:=HK.out;have h2:=HLA.out;have h3:=HLB.out;omega) true (by rw[e1.2.2.1.symm];exact HD.out)).mono ?_;rintro e w5 ⟨rfl,x5⟩;have e5_:Ext w w5:=Ext.trans e4_ x5;clear g1_2 g0_2 f1 f0;go_wp2_with fail;go_ret;exact⟨rfl,e5_⟩
end Go.Proofs.YtfofjalebhajhaaGreatDoor
namespace Go.Proofs.YtfofjalebhajhaaGreatDoor
open Go Go.RowKit
end Go.Proofs.YtfofjalebhajhaaGreatDoor
namespace Go.Proofs.YtfofjalebhajhaaGreatDoor
open Go Go.RowKit
end Go.Proofs.YtfofjalebhajhaaGreatDoor
