/- MassTotals answers true. -/
import Derived.Test.YtfofjalebhajhaaGreatDoorAwake24
import Derived.Test.YtfofjalebhajhaaGreatDoorMass26
namespace Go.Proofs.YtfofjalebhajhaaGreatDoor
open Go Go.RowKit
def Sx.totO (q:Rat):Sx:=⟨fun v w => ∃ (p:Option Addr) (n c:Nat),v = .slice p n c ∧ ∀ X,Ext w X→Calls Tryz.prog 16 #[.slice p n c] X (RetQ X q),fun v w w' ⟨p,n,c,h1,h2⟩ x=>⟨p,n,c,h1,fun X hX=>h2 X (x.trans hX)⟩⟩
def Sx.inK (K:Nat) (q:Rat):Sx:=⟨fun v w => ∃ (s:Bool) (p:Option Addr) (a b:Nat) (r:Option Addr) (c d:Nat),v = .agg #[.bool s,.slice p a b,.slice r c d]∧InR w s (.slice p a b) (.slice r c d) K q,fun v w w' ⟨s,p,a,b,r,c,d,h1,h2⟩ x=>⟨s,p,a,b,r,c,d,h1,h2.ext x⟩⟩
def Sx.isN (M:List Pt):Sx:=⟨fun v w => ∃ u,v=u∧SlM w u M,fun v w w' ⟨s,h1,h2⟩ x=>⟨s,h1,h2.ext x⟩⟩
theorem db_of {w:World}{v v':Value}{Ls Ls':List Ra}(h:SlS w v Ls) (h':SlS w v' Ls') (hs:ShortS Ls) (hs':ShortS Ls') (hl:Ls.length+Ls'.length≤40):∃ D X,DB D X∧(∀ a∈Ls.map ptRa,Dn D X a.2)∧(∀ a∈Ls'.map ptRa,Dn D X a.2):=by
 obtain⟨D,h0,h1,h2⟩:=common_dn (Ls.map ptRa ++ Ls'.map ptRa) (app_of (short_len h hs) (short_len h' hs'));rw[List.length_append,List.length_map,List.length_map]at h1 h2;exact⟨D,_,⟨h0,h1,Nat.pow_le_pow_right Bs_pos (by omega)⟩,fun a ha=>h2 a (List.mem_append_left _ ha),fun a ha=>h2 a (List.mem_append_right _ ha)⟩
theorem mb_of {D X:Nat}(b:DB D X){w:World}{v:Value}{Ls:List Ra}(h:SlS w v Ls) (hs:ShortS Ls) (hl:Ls.length≤40) (hdn:∀ a∈Ls.map ptRa,Dn D X a.2) :
  Calls Tryz.prog 18 #[v] w fun z w' => ∃ p c A,z = .returned (.slice p A.length c)∧MB D X A∧A.length≤Ls.length∧SlM w' (.slice p A.length c) A∧Ext w w':=by
 refine (of_calls24 h (D:=D) (X:=X) (k:=241) (K:=6) (by decide) (by decide) (fun a ha=>(hs a ha).1) (by omega) (fun a ha=>Nat.le_trans (hs a ha).2 (by decide)) hdn b.nz b.lt (b.big (by omega)) (by decide) (by decide)).mono ?_;rintro z w' ⟨v',A,rfl,hg,h2,h3⟩;obtain⟨p,c,rfl⟩:=h2.shape;have hgl:=hg.len;rw[List.length_map]at hgl;refine⟨p,c,A,rfl,⟨hg.mass,fun a ha=>(hg.dn hdn a ha).le (Nat.mul_le_mul_right X (by rw[List.length_map];exact hl)),Nat.le_trans hgl hl,hg.szle fun a ha=>?_⟩,hgl,h2,h3⟩;obtain⟨t,ht,rfl⟩:=List.mem_map.1 ha;exact (hs t ht).2
set_option maxHeartbeats 8000000 in
set_option maxRecDepth 100000 in
theorem massTotals_calls {w:World}{v v':Value}{Ls Ls':List Ra}(h:SlS w v Ls) (h':SlS w v' Ls'){rb:Bool}{rx ry:Value}{RA RB:List Nat}(hx:Limbs w rx RA) (hy:Limbs w ry RB){vk:Nat}{vn:Int}{vp:Option Addr}{vx vy:Nat}{u:VT}(hv:IsV w (.agg #[.int .u8 (vk:Int),.int .i64 vn,.slice vp vx vy]) u) :
  Calls Tryz.prog 6 #[v,v',.agg #[.bool rb,rx,ry],.agg #[.int .u8 (vk:Int),.int .i64 vn,.slice vp vx vy]] w (Yes w):=by
 have SA:=Hd h;have SB:=Hd h';have HX:=Hd hx;have HY:=Hd hy;have HV:=Hd hv;obtain⟨ap,ac,rfl,-⟩:=h;obtain⟨bp,bc,rfl,-⟩:=h';obtain⟨⟨-,xp,xc,rfl,-⟩,-⟩:=hx;obtain⟨⟨-,yp,yc,rfl,-⟩,-⟩:=hy
 obtain⟨n,h_n⟩:∃ m,Ls.length=m:=⟨_,rfl⟩
 obtain⟨n',h_n'⟩:∃ m,Ls'.length=m:=⟨_,rfl⟩
 obtain⟨xn,h_xn⟩:∃ m,RA.length=m:=⟨_,rfl⟩
 obtain⟨yn,h_yn⟩:∃ m,RB.length=m:=⟨_,rfl⟩
 have HN:=Hd h_n;have HN':=Hd h_n';rw[h_n]at SA;rw[h_n']at SB;rw[h_xn]at HX;rw[h_yn]at HY;rw[h_n,h_n',h_xn,h_yn];clear hv h_n h_n' h_xn h_yn
 go_enter Tryz.func6,Tryz.ntmps6
 go_upto_region 1 with fail
 obtain⟨b6,hb6⟩:∃ s,w.heap.size=s:=⟨_,rfl⟩
 obtain⟨b7,hb7⟩:∃ s,b6+1=s:=⟨_,rfl⟩
 obtain⟨W2,hW2⟩:∃ X,X=(w.alloc (.cells #[.bool rb,.slice xp xn xc,.slice yp yn yc] 36)).alloc (.cells #[.int .u8 (vk:Int),.int .i64 vn,.slice vp vx vy] 29):=⟨_,rfl⟩
 have X2:Hid (Ext w W2):=by rw[hW2];exact (eR.alloc _).alloc _
 have R0:Hid (At b6 0 (.bool rb) W2):=by rw[hW2,←hb6];exact (at_new rfl).ext (eR.alloc _)
 have V0:Hid (At b7 0 (.int .u8 (vk:Int)) W2):=by rw[hW2,←hb7,←hb6];exact At.n1 rfl
 have R1:Hid (At b6 1 (.slice xp xn xc) W2):=by rw[hW2,←hb6];exact (at_new rfl).ext (eR.alloc _)
 have V1:Hid (At b7 1 (.int .i64 vn) W2):=by rw[hW2,←hb7,←hb6];exact At.n1 rfl
 have R2:Hid (At b6 2 (.slice yp yn yc) W2):=by rw[hW2,←hb6];exact (at_new rfl).ext (eR.alloc _)
 have V2:Hid (At b7 2 (.slice vp vx vy) W2):=by rw[hW2,←hb7,←hb6];exact At.n1 rfl
 rw[hb6,hb7,←hW2];clear hW2 hb6 hb7;have SA:=Hd (SA.out.ext X2.out);have SB:=Hd (SB.out.ext X2.out);have HX:=Hd (HX.out.ext X2.out);have HY:=Hd (HY.out.ext X2.out);have HV:=Hd (HV.out.ext X2.out)
 have HLL:Hid (SlL (W2.alloc (.cells #[.slice ap n ac,.slice bp n' bc] 25)) (.slice (some ⟨W2.heap.size,0,none⟩) 2 2) [Ls,Ls']):=⟨_,rfl,fun i L hi=>by
  match i,hi with
  | 0,hi=>simp only[List.getElem?_cons_zero,Option.some.injEq]at hi;subst hi;exact⟨_,at_new rfl,SA.out.ext (eR.alloc _)⟩
  | 1,hi=>simp only[List.getElem?_cons_zero,List.getElem?_cons_succ,Option.some.injEq]at hi;subst hi;exact⟨_,at_new rfl,SB.out.ext (eR.alloc _)⟩
  | i+2,hi=>simp at hi⟩
 go_wp2_with fail;refine (long24_calls HLL.out (by simp)).mono ?_;rintro z w3 ⟨lg,rfl,x1,hsh⟩;have x3:Ext W2 w3:=(eR.alloc _).trans x1;have R0:=Hd (R0.out.ext x3);have R1:=Hd (R1.out.ext x3);have R2:=Hd (R2.out.ext x3);have V0:=Hd (V0.out.ext x3);have V1:=Hd (V1.out.ext x3);have V2:=Hd (V2.out.ext x3);have HX:=Hd (HX.out.ext x3);have HY:=Hd (HY.out.ext x3);have HV:=Hd (HV.out.ext x3);have SA:=Hd (SA.out.ext x3);have SB:=Hd (SB.out.ext x3);have X3:=Hd (X2.out.trans x3);have HSH:=Hd hsh;clear x1 x3 hsh HLL X2
 cases lg
 case true =>
  go_wp2_with fail;refine (awake24_calls _).mono ?_;rintro z wz ⟨rfl,xz⟩;have XZ:=Hd (X3.out.trans xz);clear xz;go_wp2_with fail;go_ret;exact⟨rfl,XZ.out⟩
 obtain⟨hl40,hss⟩:=HSH.out rfl
 have HL40:Hid (n+n'≤40):=by show _≤_;rw[←HN.out,←HN'.out];simpa [lenS] using hl40
 have SSA:Hid (ShortS Ls):=hss Ls (by simp);have SSB:Hid (ShortS Ls'):=hss Ls' (by simp);clear hl40 hss HSH;have r0:=R0.out.1;have r1:=R1.out.1;have r2:=R2.out.1;have rl:=R2.out.2;go_wp2_with fail;clear r0 r1 r2 rl
 obtain⟨lb,hlb⟩:∃ c,longR [(rb,RA,RB)]=c:=⟨_,rfl⟩
 have HLB:=Hd hlb;have HL3:Hid (Sl3 RawT (w3.alloc (.cells #[.bool rb,.slice xp xn xc,.slice yp yn yc] 36)) (.slice (some ⟨w3.heap.size,0,none⟩) 1 1) [(rb,RA,RB)]):=sl3_1 (at_new rfl) (at_new rfl) (at_new rfl) ⟨rfl,HX.out.ext (eR.alloc _),HY.out.ext (eR.alloc _)⟩;refine (long_calls HL3.out lb hlb).mono ?_;rintro z w4 ⟨rfl,x1⟩;have x4:Ext w3 w4:=(eR.alloc _).trans x1;have R0:=Hd (R0.out.ext x4);have R1:=Hd (R1.out.ext x4);have R2:=Hd (R2.out.ext x4);have V0:=Hd (V0.out.ext x4);have V1:=Hd (V1.out.ext x4);have V2:=Hd (V2.out.ext x4);have HX:=Hd (HX.out.ext x4);have HY:=Hd (HY.out.ext x4);have HV:=Hd (HV.out.ext x4);have SA:=Hd (SA.out.ext x4);have SB:=Hd (SB.out.ext x4);have X4:=Hd (X3.out.trans x4);clear x1 x4 hlb HL3 X3
 cases lb
 case true =>
  go_wp2_with fail;refine (awake24_calls _).mono ?_;rintro z wz ⟨rfl,xz⟩;have XZ:=Hd (X4.out.trans xz);clear xz;go_wp2_with fail;go_ret;exact⟨rfl,XZ.out⟩
 have HR:Hid (∃ q,InR w4 rb (.slice xp xn xc) (.slice yp yn yc) 6 q):=⟨_,_,_,HX.out,HY.out,rfl,(longR_get HLB.out (List.mem_singleton.2 rfl)).1,(longR_get HLB.out (List.mem_singleton.2 rfl)).2,by decide⟩
 obtain⟨q,hr⟩:=HR.out;have HR:=Hd hr;clear hr HLB HX HY;have r0:=V0.out.1;have r1:=V1.out.1;have r2:=V2.out.1;have rl:=V2.out.2;go_wp2_with fail;clear r0 r1 r2 rl
 obtain⟨lb,hlb⟩:∃ c,decide (6000≤wgs [u] 0 6000)=c:=⟨_,rfl⟩
 have X5:Ext w4 (w4.alloc (.cells #[.int .u8 (vk:Int),.int .i64 vn,.slice vp vx vy] 29)):=eR.alloc _
 have HVL:Hid (SlV (w4.alloc (.cells #[.int .u8 (vk:Int),.int .i64 vn,.slice vp vx vy] 29)) (.slice (some ⟨w4.heap.size,0,none⟩) 1 1) [u]):=slV_lit (w:=w4) (A:=#[.int .u8 (vk:Int),.int .i64 vn,.slice vp vx vy]) (t := 29) (C:=[[.int .u8 (vk:Int),.int .i64 vn,.slice vp vx vy]]) (Ts:=[u]) rfl (fun e he=>by
    simp only[List.mem_cons,List.not_mem_nil,or_false]at he;subst he
    exact⟨rfl,vk,vn,vp,vx,vy,rfl⟩) 1 rfl (by decide) rfl (fun i cs t' h1 h2=>by
    match i,h1,h2 with
    | 0,h1,h2=>simp only[List.getElem?_cons_zero,Option.some.injEq]at h1 h2;subst h1 h2;exact HV.out
    | i+1,h1,h2=>simp at h1)
 refine (long14_calls HVL.out lb hlb).mono ?_;rintro z w5 ⟨rfl,x1⟩;have x5:Ext w4 w5:=X5.trans x1;have R0:=Hd (R0.out.ext x5);have R1:=Hd (R1.out.ext x5);have R2:=Hd (R2.out.ext x5);have V0:=Hd (V0.out.ext x5);have V1:=Hd (V1.out.ext x5);have V2:=Hd (V2.out.ext x5);have HR:=Hd (HR.out.ext x5);have HV:=Hd (HV.out.ext x5);have SA:=Hd (SA.out.ext x5);have SB:=Hd (SB.out.ext x5);have XX:=Hd (X4.out.trans x5);clear x1 x5 hlb HVL X4 X5
 cases lb
 case true =>
  go_wp2_with fail;refine (awake24_calls _).mono ?_;rintro z wz ⟨rfl,xz⟩;have XZ:=Hd (XX.out.trans xz);clear xz;go_wp2_with fail;go_ret;exact⟨rfl,XZ.out⟩
 obtain⟨pr,hpr⟩:∃ m,n*n'=m:=⟨_,rfl⟩
 have hpi:(n:Int)*(n':Int)=(pr:Int):=by rw[←hpr,Int.natCast_mul]
 have hle:pr≤1600:=by rw[←hpr];exact Nat.mul_le_mul (show n≤40 by have:=HL40.out;omega) (show n'≤40 by have:=HL40.out;omega)
 have hwp:IntKind.i64.wrap (pr:Int)=(pr:Int):=IntWalk.i64_in _ (by omega)
 have hwp2:wrap64 (pr:Int)=(pr:Int):=by unfold wrap64;omega
 have hwq:IntKind.i64.wrap ((n:Int)*(n':Int))=(pr:Int):=by rw[hpi];exact hwp
 have hwq2:wrap64 ((n:Int)*(n':Int))=(pr:Int):=by rw[hpi];exact hwp2
 clear hpr hle
 by_cases hbig:(60:Int)<(pr:Int)
 ·skip
  go_wp2_with fail;refine (awake24_calls _).mono ?_;rintro z wz ⟨rfl,xz⟩;have XZ:=Hd (XX.out.trans xz);clear xz;go_wp2_with fail;go_ret;exact⟨rfl,XZ.out⟩
 have hbig2:(pr:Int)≤60:=Int.not_lt.1 hbig;go_wp2_with fail;refine (awake24_calls _).mono ?_;rintro z w6 ⟨rfl,x6⟩;have R0:=Hd (R0.out.ext x6);have R1:=Hd (R1.out.ext x6);have R2:=Hd (R2.out.ext x6);have V0:=Hd (V0.out.ext x6);have V1:=Hd (V1.out.ext x6);have V2:=Hd (V2.out.ext x6);have HR:=Hd (HR.out.ext x6);have HV:=Hd (HV.out.ext x6);have SA:=Hd (SA.out.ext x6);have SB:=Hd (SB.out.ext x6);have XX:=Hd (XX.out.trans x6);clear x6;obtain⟨D,X,hdb,hda,hdb'⟩:=db_of SA.out SB.out SSA.out SSB.out (by rw[HN.out,HN'.out];exact HL40.out);have DBF:=Hd hdb;have HDA:=Hd hda;have HDB:=Hd hdb';clear hdb hda hdb';go_wp2_with fail;clear hpi hwp hwp2 hwq hwq2 hbig hbig2;refine (mb_of DBF.out SA.out SSA.out (by rw[HN.out];have:=HL40.out;omega) HDA.out).mono ?_;rintro z w7 ⟨aq,ad,A,rfl,hm,hml,hs,x7⟩;have R0:=Hd (R0.out.ext x7);have R1:=Hd (R1.out.ext x7);have R2:=Hd (R2.out.ext x7);have V0:=Hd (V0.out.ext x7);have V1:=Hd (V1.out.ext x7);have V2:=Hd (V2.out.ext x7);have HR:=Hd (HR.out.ext x7);have HV:=Hd (HV.out.ext x7);have SB:=Hd (SB.out.ext x7);have SA2:=Hd hs;have GA:=Hd hm;rw[HN.out]at hml;have LA:=Hd hml;have XX:=Hd (XX.out.trans x7);clear x7 hs hm hml SA SSA HDA
 obtain⟨am,ham⟩:∃ m,A.length=m:=⟨_,rfl⟩
 rw[ham]at SA2 LA ⊢;have EA:=Hd ham;clear ham;go_wp2_with fail;refine (mb_of DBF.out SB.out SSB.out (by rw[HN'.out];have:=HL40.out;omega) HDB.out).mono ?_;rintro z w8 ⟨bq,bd,B,rfl,hm,hml,hs,x8⟩;have R0:=Hd (R0.out.ext x8);have R1:=Hd (R1.out.ext x8);have R2:=Hd (R2.out.ext x8);have V0:=Hd (V0.out.ext x8);have V1:=Hd (V1.out.ext x8);have V2:=Hd (V2.out.ext x8);have HR:=Hd (HR.out.ext x8);have HV:=Hd (HV.out.ext x8);have SA2:=Hd (SA2.out.ext x8);have SB2:=Hd hs;have GB:=Hd hm;rw[HN'.out]at hml;have LB:=Hd hml;have XX:=Hd (XX.out.trans x8);clear x8 hs hm hml SB SSB HDB
 obtain⟨bm,hbm⟩:∃ m,B.length=m:=⟨_,rfl⟩
 rw[hbm]at SB2 LB ⊢;have EB:=Hd hbm;clear hbm;go_wp2_with fail
 have HLN:Hid (A.length+B.length≤40):=by show _≤_;rw[EA.out,EB.out];have:=LA.out;have:=LB.out;have:=HL40.out;omega
 clear HL40 LA LB HN HN'
 obtain⟨s,hs⟩:∃ s,totV A=s:=⟨_,rfl⟩
 obtain⟨t,ht⟩:∃ s,totV B=s:=⟨_,rfl⟩
 have TA:=Hd hs;have TB:=Hd ht
 have LS:Hid (LenR 241 s):=by show LenR _ _;rw[←hs];exact GA.out.tlen DBF.out
 have LT:Hid (LenR 241 t):=by show LenR _ _;rw[←ht];exact GB.out.tlen DBF.out
 clear hs ht;refine (mb_total GA.out DBF.out SA2.out).mono ?_;rw[TA.out];rintro z w9 ⟨sb,sp1,sn1,sc1,sp2,sn2,sc2,rfl,hs,x9⟩;have R0:=Hd (R0.out.ext x9);have R1:=Hd (R1.out.ext x9);have R2:=Hd (R2.out.ext x9);have V0:=Hd (V0.out.ext x9);have V1:=Hd (V1.out.ext x9);have V2:=Hd (V2.out.ext x9);have HR:=Hd (HR.out.ext x9);have HV:=Hd (HV.out.ext x9);have SA2:=Hd (SA2.out.ext x9);have SB2:=Hd (SB2.out.ext x9);have IS:=Hd (IsR.inR hs LS.out);have XX:=Hd (XX.out.trans x9);clear x9 hs;go_wp2_with fail;refine (mb_total GB.out DBF.out SB2.out).mono ?_;rw[TB.out];rintro z w10 ⟨tb,tp1,tn1,tc1,tp2,tn2,tc2,rfl,ht,x10⟩;have R0:=Hd (R0.out.ext x10);have R1:=Hd (R1.out.ext x10);have R2:=Hd (R2.out.ext x10);have V0:=Hd (V0.out.ext x10);have V1:=Hd (V1.out.ext x10);have V2:=Hd (V2.out.ext x10);have HR:=Hd (HR.out.ext x10);have HV:=Hd (HV.out.ext x10);have SA2:=Hd (SA2.out.ext x10);have SB2:=Hd (SB2.out.ext x10);have IS:=Hd (IS.out.ext x10);have IT:=Hd (IsR.inR ht LT.out);have XX:=Hd (XX.out.trans x10);clear x10 ht
 go_upto_region 5 with fail
 obtain⟨b9,hb9⟩:∃ s,w10.heap.size=s:=⟨_,rfl⟩
 obtain⟨b10,hb10⟩:∃ s,b9+1=s:=⟨_,rfl⟩
 obtain⟨W5,hW5⟩:∃ X,X=(w10.alloc (.cells #[.bool sb,.slice sp1 sn1 sc1,.slice sp2 sn2 sc2] 36)).alloc (.cells #[.bool tb,.slice tp1 tn1 tc1,.slice tp2 tn2 tc2] 36):=⟨_,rfl⟩
 have x5:Ext w10 W5:=by rw[hW5];exact (eR.alloc _).alloc _
 have S0:Hid (At b9 0 (.bool sb) W5):=by rw[hW5,←hb9];exact (at_new rfl).ext (eR.alloc _)
 have T0:Hid (At b10 0 (.bool tb) W5):=by rw[hW5,←hb10,←hb9];exact At.n1 rfl
 have S1:Hid (At b9 1 (.slice sp1 sn1 sc1) W5):=by rw[hW5,←hb9];exact (at_new rfl).ext (eR.alloc _)
 have T1:Hid (At b10 1 (.slice tp1 tn1 tc1) W5):=by rw[hW5,←hb10,←hb9];exact At.n1 rfl
 have S2:Hid (At b9 2 (.slice sp2 sn2 sc2) W5):=by rw[hW5,←hb9];exact (at_new rfl).ext (eR.alloc _)
 have T2:Hid (At b10 2 (.slice tp2 tn2 tc2) W5):=by rw[hW5,←hb10,←hb9];exact At.n1 rfl
 rw[hb9,hb10,←hW5];clear hW5 hb9 hb10;have R0:=Hd (R0.out.ext x5);have R1:=Hd (R1.out.ext x5);have R2:=Hd (R2.out.ext x5);have V0:=Hd (V0.out.ext x5);have V1:=Hd (V1.out.ext x5);have V2:=Hd (V2.out.ext x5);have HR:=Hd (HR.out.ext x5);have HV:=Hd (HV.out.ext x5);have SA2:=Hd (SA2.out.ext x5);have SB2:=Hd (SB2.out.ext x5);have IS:=Hd (IS.out.ext x5);have IT:=Hd (IT.out.ext x5);have XX:=Hd (XX.out.trans x5);clear x5
 have HADD:Hid (∀ X,Ext W5 X→Calls Tryz.prog 30 #[.slice aq am ad,.slice bq bm bd] X (RetT X (s+t))):=fun X hX=>by rw[←TA.out,←TB.out];exact mb_add GA.out GB.out DBF.out HLN.out (SA2.out.ext hX) (SB2.out.ext hX)
 have HJO:Hid (∀ X,Ext W5 X→Calls Tryz.prog 26 #[.slice aq am ad,.slice bq bm bd,.func (.func 32) #[] #[]] X (RetT X (s*t))):=fun X hX=>by rw[←TA.out,←TB.out];exact mb_join GA.out GB.out DBF.out (SA2.out.ext hX) (SB2.out.ext hX)
 have HMP:Hid (∀ X,Ext W5 X→Calls Tryz.prog 24 #[.slice aq am ad,.func (.func 35) #[] #[]] X (RetT X s)):=fun X hX=>by rw[←TA.out];exact mb_map GA.out DBF.out (SA2.out.ext hX)
 have LST:Hid (LenR 483 (s+t)):=(LS.out.add LT.out).mono (by decide);have LMT:Hid (LenR 482 (s*t)):=(LS.out.mul LT.out).mono (by decide);refine wp_region_tail [49,50,51,52,53,54,55,56,57,58,59,60,61,62,63,64,65,66,67,68,69,70,71,72,73,74,75,76] [] (fun ix__=>([Sx.val (.slice aq am ad),Sx.val (.slice bq bm bd),Sx.totO (s+t),Sx.inK 483 (s+t),Sx.val (.agg #[.bool sb,.slice sp1 sn1 sc1,.slice sp2 sn2 sc2]),Sx.val (.agg #[.bool tb,.slice tp1 tn1 tc1,.slice tp2 tn2 tc2]),Sx.inK 483 (s+t),Sx.val (.bool true),Sx.val (.bool false),Sx.val (.bool false),Sx.val (.slice aq am ad),Sx.val (.slice bq bm bd),Sx.totO (s*t),Sx.inK 482 (s*t),Sx.val (.agg #[.bool sb,.slice sp1 sn1 sc1,.slice sp2 sn2 sc2]),Sx.val (.agg #[.bool tb,.slice tp1 tn1 tc1,.slice tp2 tn2 tc2]),Sx.inK 482 (s*t),Sx.val (.bool true),Sx.val (.bool false),Sx.val (.bool false),Sx.val (.bool false),Sx.val (.slice aq am ad),Sx.totO (s),Sx.inK 241 (s),Sx.val (.agg #[.bool sb,.slice sp1 sn1 sc1,.slice sp2 sn2 sc2]),Sx.val (.bool true),Sx.val (.bool false),Sx.val (.bool false)]:List Sx).getD ix__ (Sx.val undef)) (by kernel_rfl) (by kernel_rfl) ?hs ?ht
 case hs =>
  refine⟨?_,?_,?_,?_,?_,?_,?_,?_,?_,?_,?_,?_,?_,?_,?_,?_,?_,?_,?_,?_,?_,?_,?_,?_,?_,?_,?_,?_,trivial⟩
  ·refine XStep.op rfl fun ac wk hp K hK=>?_;have t0_:ac.tmps[0]?.getD undef = .slice aq am ad:=hp.slot 0 rfl rfl;clear hp;go_simp;exact hK.out _ _ rfl eR
  ·refine XStep.op rfl fun ac wk hp K hK=>?_;have t1_:ac.tmps[1]?.getD undef = .slice bq bm bd:=hp.slot 1 rfl rfl;clear hp;go_simp;exact hK.out _ _ rfl eR
  ·refine XStep.op rfl fun ac wk hp K hK=>?_;have t49_:=hp.v 0;have t50_:=hp.v 1;have xe:=Hd hp.ext;clear hp;go_simp;refine (HADD.out _ xe.out).mono ?_;rintro e wk' ⟨p9,n9,c9,rfl,t9,ix⟩;exact hK.out _ _ ⟨_,_,_,rfl,t9⟩ ix
  ·refine XStep.op rfl fun ac wk hp K hK=>?_;obtain⟨f51p,f51n,f51c,f51e,f51t⟩:=hp.g 2;have t51_:ac.tmps[51]?.getD undef = .slice f51p f51n f51c:=slot_is' f51e;have xe:=Hd hp.ext;clear hp f51e;go_simp;refine (f51t _ eR).mono ?_;rintro e wk' ⟨b9_,p9,n9,c9,r9,m9,d9,rfl,e9,ix⟩;exact hK.out _ _ ⟨_,_,_,_,_,_,_,rfl,IsR.inR e9 LST.out⟩ ix
  ·refine XStep.op rfl fun ac wk hp K hK=>?_;have t9_:ac.tmps[9]?.getD undef = .pointer (some ⟨b9,0,none⟩):=hp.slot 9 rfl rfl;have q0:=((S0.out).ext hp.ext).1;have q1:=((S1.out).ext hp.ext).1;have q2:=((S2.out).ext hp.ext).1;clear hp;go_simp;exact hK.out _ _ rfl eR
  ·refine XStep.op rfl fun ac wk hp K hK=>?_;have t10_:ac.tmps[10]?.getD undef = .pointer (some ⟨b10,0,none⟩):=hp.slot 10 rfl rfl;have q0:=((T0.out).ext hp.ext).1;have q1:=((T1.out).ext hp.ext).1;have q2:=((T2.out).ext hp.ext).1;clear hp;go_simp;exact hK.out _ _ rfl eR
  ·refine XStep.op rfl fun ac wk hp K hK=>?_;have t53_:=hp.v 4;have t54_:=hp.v 5;have xe:=Hd hp.ext;clear hp;go_simp;refine (radd_is (IS.out.ext xe.out) (IT.out.ext xe.out) (by decide)).mono ?_;rintro e wk' ⟨sb9,sv,su,sm,sd,rfl,e1,o1,ix⟩;obtain⟨sp9,sl9,sc9,tp9,tl9,tc9,rfl,rfl⟩:=e1.slice;exact hK.out _ _ ⟨_,_,_,_,_,_,_,rfl,IsR.inR e1 LST.out⟩ ix
  ·refine XStep.op rfl fun ac wk hp K hK=>?_;obtain⟨f52s,f52q,f52a,f52b,f52r,f52c,f52d,f52e,f52i⟩:=hp.g 3;have t52_:ac.tmps[52]?.getD undef = .agg #[.bool f52s,.slice f52q f52a f52b,.slice f52r f52c f52d]:=slot_is' f52e;obtain⟨f55s,f55q,f55a,f55b,f55r,f55c,f55d,f55e,f55i⟩:=hp.g 6;have t55_:ac.tmps[55]?.getD undef = .agg #[.bool f55s,.slice f55q f55a f55b,.slice f55r f55c f55d]:=slot_is' f55e;have xe:=Hd hp.ext;clear hp f52e f55e;go_simp;refine (rsame_calls f52i f55i (by decide) true (by simp)).mono ?_;rintro e wk' ⟨rfl,ix⟩;exact hK.out _ _ rfl ix
  ·refine XStep.op rfl fun ac wk hp K hK=>?_;have t56_:=hp.v 7;clear hp;go_simp;exact hK.out _ _ rfl eR
  ·refine XStep.op rfl fun ac wk hp K hK=>?_;have t57_:=hp.v 8;clear hp;go_simp;exact hK.out _ _ rfl eR
  ·refine XStep.yes 9 false rfl (by decide +kernel) rfl rfl fun ac wk hp K hK=>?_;have t0_:ac.tmps[0]?.getD undef = .slice aq am ad:=hp.slot 0 rfl rfl;clear hp;go_simp;exact hK.out _ _ rfl eR
  ·refine XStep.yes 9 false rfl (by decide +kernel) rfl rfl fun ac wk hp K hK=>?_;have t1_:ac.tmps[1]?.getD undef = .slice bq bm bd:=hp.slot 1 rfl rfl;clear hp;go_simp;exact hK.out _ _ rfl eR
  ·refine XStep.yes 9 false rfl (by decide +kernel) rfl rfl fun ac wk hp K hK=>?_;have t59_:=hp.v 10;have t60_:=hp.v 11;have xe:=Hd hp.ext;clear hp;go_simp;refine (HJO.out _ xe.out).mono ?_;rintro e wk' ⟨p9,n9,c9,rfl,t9,ix⟩;exact hK.out _ _ ⟨_,_,_,rfl,t9⟩ ix
  ·refine XStep.yes 9 false rfl (by decide +kernel) rfl rfl fun ac wk hp K hK=>?_;obtain⟨f61p,f61n,f61c,f61e,f61t⟩:=hp.g 12;have t61_:ac.tmps[61]?.getD undef = .slice f61p f61n f61c:=slot_is' f61e;have xe:=Hd hp.ext;clear hp f61e;go_simp;refine (f61t _ eR).mono ?_;rintro e wk' ⟨b9_,p9,n9,c9,r9,m9,d9,rfl,e9,ix⟩;exact hK.out _ _ ⟨_,_,_,_,_,_,_,rfl,IsR.inR e9 LMT.out⟩ ix
  ·refine XStep.yes 9 false rfl (by decide +kernel) rfl rfl fun ac wk hp K hK=>?_;have t9_:ac.tmps[9]?.getD undef = .pointer (some ⟨b9,0,none⟩):=hp.slot 9 rfl rfl;have q0:=((S0.out).ext hp.ext).1;have q1:=((S1.out).ext hp.ext).1;have q2:=((S2.out).ext hp.ext).1;clear hp;go_simp;exact hK.out _ _ rfl eR
  ·refine XStep.yes 9 false rfl (by decide +kernel) rfl rfl fun ac wk hp K hK=>?_;have t10_:ac.tmps[10]?.getD undef = .pointer (some ⟨b10,0,none⟩):=hp.slot 10 rfl rfl;have q0:=((T0.out).ext hp.ext).1;have q1:=((T1.out).ext hp.ext).1;have q2:=((T2.out).ext hp.ext).1;clear hp;go_simp;exact hK.out _ _ rfl eR
  ·refine XStep.yes 9 false rfl (by decide +kernel) rfl rfl fun ac wk hp K hK=>?_;have t63_:=hp.v 14;have t64_:=hp.v 15;have xe:=Hd hp.ext;clear hp;go_simp;refine (rmul_is (IS.out.ext xe.out) (IT.out.ext xe.out) (by decide)).mono ?_;rintro e wk' ⟨sb9,sv,su,sm,sd,rfl,e1,o1,ix⟩;obtain⟨sp9,sl9,sc9,tp9,tl9,tc9,rfl,rfl⟩:=e1.slice;exact hK.out _ _ ⟨_,_,_,_,_,_,_,rfl,IsR.inR e1 LMT.out⟩ ix
  ·refine XStep.yes 9 false rfl (by decide +kernel) rfl rfl fun ac wk hp K hK=>?_;obtain⟨f62s,f62q,f62a,f62b,f62r,f62c,f62d,f62e,f62i⟩:=hp.g 13;have t62_:ac.tmps[62]?.getD undef = .agg #[.bool f62s,.slice f62q f62a f62b,.slice f62r f62c f62d]:=slot_is' f62e;obtain⟨f65s,f65q,f65a,f65b,f65r,f65c,f65d,f65e,f65i⟩:=hp.g 16;have t65_:ac.tmps[65]?.getD undef = .agg #[.bool f65s,.slice f65q f65a f65b,.slice f65r f65c f65d]:=slot_is' f65e;have xe:=Hd hp.ext;clear hp f62e f65e;go_simp;refine (rsame_calls f62i f65i (by decide) true (by simp)).mono ?_;rintro e wk' ⟨rfl,ix⟩;exact hK.out _ _ rfl ix
  ·refine XStep.yes 9 false rfl (by decide +kernel) rfl rfl fun ac wk hp K hK=>?_;have t66_:=hp.v 17;clear hp;go_simp;exact hK.out _ _ rfl eR
  ·refine XStep.op rfl fun ac wk hp K hK=>?_;have t58_:=hp.v 9;have t67_:=hp.v 18;clear hp;go_simp;exact hK.out _ _ rfl eR
  ·refine XStep.op rfl fun ac wk hp K hK=>?_;have t68_:=hp.v 19;clear hp;go_simp;exact hK.out _ _ rfl eR
  ·refine XStep.yes 20 false rfl (by decide +kernel) rfl rfl fun ac wk hp K hK=>?_;have t0_:ac.tmps[0]?.getD undef = .slice aq am ad:=hp.slot 0 rfl rfl;clear hp;go_simp;exact hK.out _ _ rfl eR
  ·refine XStep.yes 20 false rfl (by decide +kernel) rfl rfl fun ac wk hp K hK=>?_;have t70_:=hp.v 21;have xe:=Hd hp.ext;clear hp;go_simp;refine (HMP.out _ xe.out).mono ?_;rintro e wk' ⟨p9,n9,c9,rfl,t9,ix⟩;exact hK.out _ _ ⟨_,_,_,rfl,t9⟩ ix
  ·refine XStep.yes 20 false rfl (by decide +kernel) rfl rfl fun ac wk hp K hK=>?_;obtain⟨f71p,f71n,f71c,f71e,f71t⟩:=hp.g 22;have t71_:ac.tmps[71]?.getD undef = .slice f71p f71n f71c:=slot_is' f71e;have xe:=Hd hp.ext;clear hp f71e;go_simp;refine (f71t _ eR).mono ?_;rintro e wk' ⟨b9_,p9,n9,c9,r9,m9,d9,rfl,e9,ix⟩;exact hK.out _ _ ⟨_,_,_,_,_,_,_,rfl,IsR.inR e9 LS.out⟩ ix
  ·refine XStep.yes 20 false rfl (by decide +kernel) rfl rfl fun ac wk hp K hK=>?_;have t9_:ac.tmps[9]?.getD undef = .pointer (some ⟨b9,0,none⟩):=hp.slot 9 rfl rfl;have q0:=((S0.out).ext hp.ext).1;have q1:=((S1.out).ext hp.ext).1;have q2:=((S2.out).ext hp.ext).1;clear hp;go_simp;exact hK.out _ _ rfl eR
  ·refine XStep.yes 20 false rfl (by decide +kernel) rfl rfl fun ac wk hp K hK=>?_;obtain⟨f72s,f72q,f72a,f72b,f72r,f72c,f72d,f72e,f72i⟩:=hp.g 23;have t72_:ac.tmps[72]?.getD undef = .agg #[.bool f72s,.slice f72q f72a f72b,.slice f72r f72c f72d]:=slot_is' f72e;have t73_:=hp.v 24;have xe:=Hd hp.ext;clear hp f72e;go_simp;refine (rsame_calls f72i (IS.out.ext xe.out) (by decide) true (by simp)).mono ?_;rintro e wk' ⟨rfl,ix⟩;exact hK.out _ _ rfl ix
  ·refine XStep.yes 20 false rfl (by decide +kernel) rfl rfl fun ac wk hp K hK=>?_;have t74_:=hp.v 25;clear hp;go_simp;exact hK.out _ _ rfl eR
  ·refine XStep.op rfl fun ac wk hp K hK=>?_;have t69_:=hp.v 20;have t75_:=hp.v 26;clear hp;go_simp;exact hK.out _ _ rfl eR
 case ht =>
  intro ac v2 hag hext hpost;have z76_:sl ac 76 = .bool false:=hpost 27 (by decide +kernel) rfl;rw[hag.lay];simp only[lay,List.foldl_cons,List.foldl_nil,List.setIfInBounds_toArray,List.set_cons_zero,List.set_cons_succ,z76_];have HEX:=Hd hext;clear hag hpost hext z76_;have R0:=Hd (R0.out.ext HEX.out);have R1:=Hd (R1.out.ext HEX.out);have R2:=Hd (R2.out.ext HEX.out);have V0:=Hd (V0.out.ext HEX.out);have V1:=Hd (V1.out.ext HEX.out);have V2:=Hd (V2.out.ext HEX.out);have HR:=Hd (HR.out.ext HEX.out);have HV:=Hd (HV.out.ext HEX.out);have SA2:=Hd (SA2.out.ext HEX.out);have SB2:=Hd (SB2.out.ext HEX.out);have IS:=Hd (IS.out.ext HEX.out);have IT:=Hd (IT.out.ext HEX.out);have S0:=Hd (S0.out.ext HEX.out);have S1:=Hd (S1.out.ext HEX.out);have S2:=Hd (S2.out.ext HEX.out);have XX:=Hd (XX.out.trans HEX.out);clear HEX HADD HJO HMP LST LMT T0 T1 T2 IT SB2;unfold seqTail;have r0:=R0.out.1;have r1:=R1.out.1;have r2:=R2.out.1;have rl:=R2.out.2;go_wp2_with fail;clear r0 r1 r2 rl;have LQ:Hid (LenR 6 q):=HR.out.len;have LSQ:Hid (LenR 247 (s*q)):=(LS.out.mul LQ.out).mono (by decide);have LZ:Hid (LenR 1 ((0:Int):Rat)):=lenR_of (by decide +kernel) (by decide);refine (mb_scale0 GA.out DBF.out SA2.out HR.out).mono ?_;rw[TA.out];rintro z w8_ ⟨hpos,hneg⟩
  obtain⟨cs,hcs⟩:∃ c,cmpR q ((0:Int):Rat)=c:=⟨_,rfl⟩
  have HCS:=Hd hcs
  have HGT:Hid (cs=1↔0<q):=by show _↔_;rw[←hcs];exact cmpR_gt
  have HR3:Hid (cs≤1∧(cs=1∨cs≤0)):=by show _∧_;rw[←hcs];rcases cmpR_three q ((0:Int):Rat) with h | h | h <;> rw[h] <;> decide
  clear hcs
  by_cases h0:0<q
  ·obtain⟨p11,n11,c11,rfl,ht11,x8⟩:=hpos h0;have R0:=Hd (R0.out.ext x8);have R1:=Hd (R1.out.ext x8);have R2:=Hd (R2.out.ext x8);have V0:=Hd (V0.out.ext x8);have V1:=Hd (V1.out.ext x8);have V2:=Hd (V2.out.ext x8);have HR:=Hd (HR.out.ext x8);have HV:=Hd (HV.out.ext x8);have SA2:=Hd (SA2.out.ext x8);have IS:=Hd (IS.out.ext x8);have S0:=Hd (S0.out.ext x8);have S1:=Hd (S1.out.ext x8);have S2:=Hd (S2.out.ext x8);have XX:=Hd (XX.out.trans x8);have HT11:=Hd ht11;have hc1:cs=1:=HGT.out.2 h0;subst hc1;have HCS_:Hid (cmpR q ((0:Int):Rat)=1):=HCS;clear ht11;clear x8 hpos hneg HCS HGT HR3 h0
   go_upto_region 8 with fail
   refine wp_region_tail [80,81,82,83,84,85,86,87,88,89,90,91,92,93,94,95,96,97,98,99,100,101,102,103] [] (fun ix__=>([Sx.val (.agg #[.bool rb,.slice xp xn xc,.slice yp yn yc]),Sx.inK 1 ((0:Int):Rat),Sx.val (.int .i64 1),Sx.val (.bool true),Sx.val (.bool true),Sx.val (.slice p11 n11 c11),Sx.inK 247 (s*q),Sx.val (.agg #[.bool sb,.slice sp1 sn1 sc1,.slice sp2 sn2 sc2]),Sx.val (.agg #[.bool rb,.slice xp xn xc,.slice yp yn yc]),Sx.inK 247 (s*q),Sx.val (.bool true),Sx.val (.bool false),Sx.val (.bool false),Sx.val (.bool false),Sx.val (.agg #[.bool rb,.slice xp xn xc,.slice yp yn yc]),Sx.inK 1 ((0:Int):Rat),Sx.val (.int .i64 1),Sx.val (.bool false),Sx.val (.bool false),Sx.val undef,Sx.val undef,Sx.val undef,Sx.val (.bool false),Sx.val (.bool false)]:List Sx).getD ix__ (Sx.val undef)) (by kernel_rfl) (by kernel_rfl) ?hs ?ht
   case hs =>
    refine⟨?_,?_,?_,?_,?_,?_,?_,?_,?_,?_,?_,?_,?_,?_,?_,?_,?_,?_,?_,?_,?_,?_,?_,?_,trivial⟩
    ·refine XStep.op rfl fun ac wk hp K hK=>?_;have t6_:ac.tmps[6]?.getD undef = .pointer (some ⟨b6,0,none⟩):=hp.slot 6 rfl rfl;have q0:=((R0.out).ext hp.ext).1;have q1:=((R1.out).ext hp.ext).1;have q2:=((R2.out).ext hp.ext).1;clear hp;go_simp;exact hK.out _ _ rfl eR
    ·refine XStep.op rfl fun ac wk hp K hK=>?_;have xe:=Hd hp.ext;clear hp;go_simp;refine (rof_is _ 0 (by decide) (by decide)).mono ?_;rintro e wk' ⟨sb9,sv,su,sm,sd,rfl,e1,o1,ix⟩;obtain⟨sp9,sl9,sc9,tp9,tl9,tc9,rfl,rfl⟩:=e1.slice;exact hK.out _ _ ⟨_,_,_,_,_,_,_,rfl,IsR.inR e1 LZ.out⟩ ix
    ·refine XStep.op rfl fun ac wk hp K hK=>?_;have t80_:=hp.v 0;obtain⟨f81s,f81q,f81a,f81b,f81r,f81c,f81d,f81e,f81i⟩:=hp.g 1;have t81_:ac.tmps[81]?.getD undef = .agg #[.bool f81s,.slice f81q f81a f81b,.slice f81r f81c f81d]:=slot_is' f81e;have xe:=Hd hp.ext;clear hp f81e;go_simp;refine (rcmp_is (HR.out.ext xe.out) f81i (by decide) HCS_.out).mono ?_;rintro e wk' ⟨rfl,ix⟩;exact hK.out _ _ rfl ix
    ·refine XStep.op rfl fun ac wk hp K hK=>?_;have t82_:=hp.v 2;clear hp;go_simp;exact hK.out _ _ (by first | rfl | (apply congrArg Value.bool;simp;done) | (apply congrArg Value.bool;simp;omega) | (simp [*];done)) eR
    ·refine XStep.op rfl fun ac wk hp K hK=>?_;have t83_:=hp.v 3;clear hp;go_simp;exact hK.out _ _ rfl eR
    ·refine XStep.yes 4 true rfl (by decide +kernel) rfl rfl fun ac wk hp K hK=>?_;have t11_:ac.tmps[11]?.getD undef = .slice p11 n11 c11:=hp.slot 11 rfl rfl;clear hp;go_simp;exact hK.out _ _ rfl eR
    ·refine XStep.yes 4 true rfl (by decide +kernel) rfl rfl fun ac wk hp K hK=>?_;have t85_:=hp.v 5;have xe:=Hd hp.ext;clear hp;go_simp;refine (HT11.out _ xe.out).mono ?_;rintro e wk' ⟨b9_,p9,n9,c9,r9,m9,d9,rfl,e9,ix⟩;exact hK.out _ _ ⟨_,_,_,_,_,_,_,rfl,IsR.inR e9 LSQ.out⟩ ix
    ·refine XStep.yes 4 true rfl (by decide +kernel) rfl rfl fun ac wk hp K hK=>?_;have t9_:ac.tmps[9]?.getD undef = .pointer (some ⟨b9,0,none⟩):=hp.slot 9 rfl rfl;have q0:=((S0.out).ext hp.ext).1;have q1:=((S1.out).ext hp.ext).1;have q2:=((S2.out).ext hp.ext).1;clear hp;go_simp;exact hK.out _ _ rfl eR
    ·refine XStep.yes 4 true rfl (by decide +kernel) rfl rfl fun ac wk hp K hK=>?_;have t6_:ac.tmps[6]?.getD undef = .pointer (some ⟨b6,0,none⟩):=hp.slot 6 rfl rfl;have q0:=((R0.out).ext hp.ext).1;have q1:=((R1.out).ext hp.ext).1;have q2:=((R2.out).ext hp.ext).1;clear hp;go_simp;exact hK.out _ _ rfl eR
    ·refine XStep.yes 4 true rfl (by decide +kernel) rfl rfl fun ac wk hp K hK=>?_;have t87_:=hp.v 7;have t88_:=hp.v 8;have xe:=Hd hp.ext;clear hp;go_simp;refine (rmul_is (IS.out.ext xe.out) (HR.out.ext xe.out) (by decide)).mono ?_;rintro e wk' ⟨sb9,sv,su,sm,sd,rfl,e1,o1,ix⟩;obtain⟨sp9,sl9,sc9,tp9,tl9,tc9,rfl,rfl⟩:=e1.slice;exact hK.out _ _ ⟨_,_,_,_,_,_,_,rfl,IsR.inR e1 LSQ.out⟩ ix
    ·refine XStep.yes 4 true rfl (by decide +kernel) rfl rfl fun ac wk hp K hK=>?_;obtain⟨f86s,f86q,f86a,f86b,f86r,f86c,f86d,f86e,f86i⟩:=hp.g 6;have t86_:ac.tmps[86]?.getD undef = .agg #[.bool f86s,.slice f86q f86a f86b,.slice f86r f86c f86d]:=slot_is' f86e;obtain⟨f89s,f89q,f89a,f89b,f89r,f89c,f89d,f89e,f89i⟩:=hp.g 9;have t89_:ac.tmps[89]?.getD undef = .agg #[.bool f89s,.slice f89q f89a f89b,.slice f89r f89c f89d]:=slot_is' f89e;have xe:=Hd hp.ext;clear hp f86e f89e;go_simp;refine (rsame_calls f86i f89i (by decide) true (by simp)).mono ?_;rintro e wk' ⟨rfl,ix⟩;exact hK.out _ _ rfl ix
    ·refine XStep.yes 4 true rfl (by decide +kernel) rfl rfl fun ac wk hp K hK=>?_;have t90_:=hp.v 10;clear hp;go_simp;exact hK.out _ _ rfl eR
    ·refine XStep.op rfl fun ac wk hp K hK=>?_;have t84_:=hp.v 4;have t91_:=hp.v 11;clear hp;go_simp;exact hK.out _ _ rfl eR
    ·refine XStep.op rfl fun ac wk hp K hK=>?_;have t92_:=hp.v 12;clear hp;go_simp;exact hK.out _ _ rfl eR
    ·refine XStep.yes 13 false rfl (by decide +kernel) rfl rfl fun ac wk hp K hK=>?_;have t6_:ac.tmps[6]?.getD undef = .pointer (some ⟨b6,0,none⟩):=hp.slot 6 rfl rfl;have q0:=((R0.out).ext hp.ext).1;have q1:=((R1.out).ext hp.ext).1;have q2:=((R2.out).ext hp.ext).1;clear hp;go_simp;exact hK.out _ _ rfl eR
    ·refine XStep.yes 13 false rfl (by decide +kernel) rfl rfl fun ac wk hp K hK=>?_;have xe:=Hd hp.ext;clear hp;go_simp;refine (rof_is _ 0 (by decide) (by decide)).mono ?_;rintro e wk' ⟨sb9,sv,su,sm,sd,rfl,e1,o1,ix⟩;obtain⟨sp9,sl9,sc9,tp9,tl9,tc9,rfl,rfl⟩:=e1.slice;exact hK.out _ _ ⟨_,_,_,_,_,_,_,rfl,IsR.inR e1 LZ.out⟩ ix
    ·refine XStep.yes 13 false rfl (by decide +kernel) rfl rfl fun ac wk hp K hK=>?_;have t94_:=hp.v 14;obtain⟨f95s,f95q,f95a,f95b,f95r,f95c,f95d,f95e,f95i⟩:=hp.g 15;have t95_:ac.tmps[95]?.getD undef = .agg #[.bool f95s,.slice f95q f95a f95b,.slice f95r f95c f95d]:=slot_is' f95e;have xe:=Hd hp.ext;clear hp f95e;go_simp;refine (rcmp_is (HR.out.ext xe.out) f95i (by decide) HCS_.out).mono ?_;rintro e wk' ⟨rfl,ix⟩;exact hK.out _ _ rfl ix
    ·refine XStep.yes 13 false rfl (by decide +kernel) rfl rfl fun ac wk hp K hK=>?_;have t96_:=hp.v 16;clear hp;go_simp;exact hK.out _ _ (by first | rfl | (apply congrArg Value.bool;simp;done) | (apply congrArg Value.bool;simp;omega) | (simp [*];done)) eR
    ·refine XStep.yes 13 false rfl (by decide +kernel) rfl rfl fun ac wk hp K hK=>?_;have t97_:=hp.v 17;clear hp;go_simp;exact hK.out _ _ rfl eR
    ·exact XStep.no 18 true rfl (by decide +kernel) rfl (.inl rfl) rfl
    ·exact XStep.no 18 true rfl (by decide +kernel) rfl (.inl rfl) rfl
    ·exact XStep.no 18 true rfl (by decide +kernel) rfl (.inl rfl) rfl
    ·refine XStep.yes 13 false rfl (by decide +kernel) rfl rfl fun ac wk hp K hK=>?_;have t98_:=hp.v 18;clear hp;go_simp;exact hK.out _ _ rfl eR
    ·refine XStep.op rfl fun ac wk hp K hK=>?_;have t93_:=hp.v 13;have t102_:=hp.v 22;clear hp;go_simp;exact hK.out _ _ rfl eR
   case ht =>
    intro ac v2 hag hext hpost;have z103_:sl ac 103 = .bool false:=hpost 23 (by decide +kernel) rfl;rw[hag.lay];simp only[lay,List.foldl_cons,List.foldl_nil,List.setIfInBounds_toArray,List.set_cons_zero,List.set_cons_succ,z103_];have HEX:=Hd hext;clear hag hpost hext z103_;clear HCS_ LZ LSQ LQ HT11;have XX:=Hd (XX.out.trans HEX.out);have R0:=Hd (R0.out.ext HEX.out);have R1:=Hd (R1.out.ext HEX.out);have R2:=Hd (R2.out.ext HEX.out);have V0:=Hd (V0.out.ext HEX.out);have V1:=Hd (V1.out.ext HEX.out);have V2:=Hd (V2.out.ext HEX.out);have HR:=Hd (HR.out.ext HEX.out);have HV:=Hd (HV.out.ext HEX.out);have SA2:=Hd (SA2.out.ext HEX.out);have IS:=Hd (IS.out.ext HEX.out);have S0:=Hd (S0.out.ext HEX.out);have S1:=Hd (S1.out.ext HEX.out);have S2:=Hd (S2.out.ext HEX.out);clear HEX;unfold seqTail;go_wp2_with fail;refine (mb_keep GA.out DBF.out SA2.out (less1_how HV.out V0.out V1.out V2.out)).mono ?_;rintro z w21 ⟨v21,rfl,hs,xk⟩;have R0:=Hd (R0.out.ext xk);have R1:=Hd (R1.out.ext xk);have R2:=Hd (R2.out.ext xk);have V0:=Hd (V0.out.ext xk);have V1:=Hd (V1.out.ext xk);have V2:=Hd (V2.out.ext xk);have HR:=Hd (HR.out.ext xk);have HV:=Hd (HV.out.ext xk);have SA2:=Hd (SA2.out.ext xk);have IS:=Hd (IS.out.ext xk);have S0:=Hd (S0.out.ext xk);have S1:=Hd (S1.out.ext xk);have S2:=Hd (S2.out.ext xk);obtain⟨p21,c21,hv21⟩:=hs.shape;subst hv21;have K21:Hid (SlM w21 (.slice p21 (A.filter fun a=>decide (cmpV a.1 u<0)).length c21) (A.filter fun a=>decide (cmpV a.1 u<0))):=hs;have XX:=Hd (XX.out.trans xk);clear xk hs
    obtain⟨M21,hM21⟩:∃ M,(A.filter fun a=>decide (cmpV a.1 u<0))=M:=⟨_,rfl⟩
    have B21:Hid (MB D X M21):=by show MB _ _ _;rw[←hM21];exact GA.out.filter _
    rw[hM21]at K21 ⊢
    obtain⟨m21,hm21⟩:∃ m,M21.length=m:=⟨_,rfl⟩
    rw[hm21]at K21 ⊢;have N21:=Hd hM21;clear hM21 hm21;go_wp2_with fail;refine (mb_keep GA.out DBF.out SA2.out (more1_how HV.out V0.out V1.out V2.out)).mono ?_;rintro z w22 ⟨v22,rfl,hs,xk⟩;have R0:=Hd (R0.out.ext xk);have R1:=Hd (R1.out.ext xk);have R2:=Hd (R2.out.ext xk);have V0:=Hd (V0.out.ext xk);have V1:=Hd (V1.out.ext xk);have V2:=Hd (V2.out.ext xk);have HR:=Hd (HR.out.ext xk);have HV:=Hd (HV.out.ext xk);have SA2:=Hd (SA2.out.ext xk);have IS:=Hd (IS.out.ext xk);have S0:=Hd (S0.out.ext xk);have S1:=Hd (S1.out.ext xk);have S2:=Hd (S2.out.ext xk);have K21:=Hd (K21.out.ext xk);obtain⟨p22,c22,hv22⟩:=hs.shape;subst hv22;have K22:Hid (SlM w22 (.slice p22 (A.filter fun a => !decide (cmpV a.1 u<0)).length c22) (A.filter fun a => !decide (cmpV a.1 u<0))):=hs;have XX:=Hd (XX.out.trans xk);clear xk hs
    obtain⟨M22,hM22⟩:∃ M,(A.filter fun a => !decide (cmpV a.1 u<0))=M:=⟨_,rfl⟩
    have B22:Hid (MB D X M22):=by show MB _ _ _;rw[←hM22];exact GA.out.filter _
    rw[hM22]at K22 ⊢
    obtain⟨m22,hm22⟩:∃ m,M22.length=m:=⟨_,rfl⟩
    rw[hm22]at K22 ⊢;have N22:=Hd hM22;clear hM22 hm22
    go_upto_region 12 with fail
    have HPM:Hid ((M21 ++ M22).Perm A):=by show List.Perm _ _;rw[←N21.out,←N22.out];exact filt_perm A fun a=>decide (cmpV a.1 u<0)
    have HLK:Hid (M21.length+M22.length≤40):=by show _≤_;have:=HPM.out.length_eq;rw[List.length_append]at this;have:=GA.out.len;omega
    obtain⟨s1,hs1⟩:∃ s,totV M21=s:=⟨_,rfl⟩
    obtain⟨s2,hs2⟩:∃ s,totV M22=s:=⟨_,rfl⟩
    have LS1:Hid (LenR 241 s1):=by show LenR _ _;rw[←hs1];exact B21.out.tlen DBF.out
    have LS2:Hid (LenR 241 s2):=by show LenR _ _;rw[←hs2];exact B22.out.tlen DBF.out
    have HSUM:Hid (s1+s2=s):=by show _=_;rw[←hs1,←hs2,←TA.out,←totV_app];exact totV_perm HPM.out
    have HW1:Hid (∀ X,Ext w22 X→Calls Tryz.prog 30 #[.slice p21 m21 c21,.slice p22 m22 c22] X fun z w' => ∃ v',z = .returned v'∧SlM w' v' A∧Ext X w'):=fun X hX=>mb_whole B21.out B22.out DBF.out HLK.out HPM.out GA.out.mass (K21.out.ext hX) (K22.out.ext hX)
    have HW2:Hid (∀ X,Ext w22 X→Calls Tryz.prog 30 #[.slice p22 m22 c22,.slice p21 m21 c21] X fun z w' => ∃ v',z = .returned v'∧SlM w' v' A∧Ext X w'):=fun X hX=>mb_whole B22.out B21.out DBF.out (by rw[Nat.add_comm];exact HLK.out) (List.perm_append_comm.trans HPM.out) GA.out.mass (K22.out.ext hX) (K21.out.ext hX)
    have HQ1:Hid (∀ X,Ext w22 X→Calls Tryz.prog 16 #[.slice p21 m21 c21] X (RetQ X s1)):=fun X hX=>by rw[←hs1];exact mb_total B21.out DBF.out (K21.out.ext hX)
    have HQ2:Hid (∀ X,Ext w22 X→Calls Tryz.prog 16 #[.slice p22 m22 c22] X (RetQ X s2)):=fun X hX=>by rw[←hs2];exact mb_total B22.out DBF.out (K22.out.ext hX)
    have LS3:Hid (LenR 483 s):=LS.out.mono (by decide);clear hs1 hs2 HPM HLK B21 B22 N21 N22 K21 K22;refine wp_region_tail [110,111,112,113,114,115,116,117,118,119,120,121,122,123,124,125,126,127,128,129,130] [21] (fun ix__=>([Sx.val (.slice p21 m21 c21),Sx.val (.slice p22 m22 c22),Sx.isN A,Sx.val (.slice aq am ad),Sx.val (.bool true),Sx.val (.bool true),Sx.val (.slice p22 m22 c22),Sx.val (.slice p21 m21 c21),Sx.isN A,Sx.val (.slice aq am ad),Sx.val (.bool true),Sx.val (.bool true),Sx.val (.bool true),Sx.val (.slice p21 m21 c21),Sx.inK 241 (s1),Sx.val (.slice p22 m22 c22),Sx.inK 241 (s2),Sx.inK 483 (s),Sx.val (.agg #[.bool sb,.slice sp1 sn1 sc1,.slice sp2 sn2 sc2]),Sx.val (.bool true),Sx.val (.bool true)]:List Sx).getD ix__ (Sx.val undef)) (by kernel_rfl) (by kernel_rfl) ?hs ?ht
    case hs =>
     refine⟨?_,?_,?_,?_,?_,?_,?_,?_,?_,?_,?_,?_,?_,?_,?_,?_,?_,?_,?_,?_,?_,fun _ => .inl rfl,trivial⟩
     ·refine XStep.op rfl fun ac wk hp K hK=>?_;have t12_:ac.tmps[12]?.getD undef = .slice p21 m21 c21:=hp.slot 12 rfl rfl;clear hp;go_simp;exact hK.out _ _ rfl eR
     ·refine XStep.op rfl fun ac wk hp K hK=>?_;have t13_:ac.tmps[13]?.getD undef = .slice p22 m22 c22:=hp.slot 13 rfl rfl;clear hp;go_simp;exact hK.out _ _ rfl eR
     ·refine XStep.op rfl fun ac wk hp K hK=>?_;have t110_:=hp.v 0;have t111_:=hp.v 1;have xe:=Hd hp.ext;clear hp;go_simp;refine (HW1.out _ xe.out).mono ?_;rintro e wk' ⟨v9,rfl,s9,ix⟩;exact hK.out _ _ ⟨v9,rfl,s9⟩ ix
     ·refine XStep.op rfl fun ac wk hp K hK=>?_;have t0_:ac.tmps[0]?.getD undef = .slice aq am ad:=hp.slot 0 rfl rfl;clear hp;go_simp;exact hK.out _ _ rfl eR
     ·refine XStep.op rfl fun ac wk hp K hK=>?_;obtain⟨f112v,f112e,f112x⟩:=hp.g 2;have t112_:ac.tmps[112]?.getD undef=f112v:=slot_is' f112e;have t113_:=hp.v 3;have xe:=Hd hp.ext;clear hp f112e;go_simp;refine (isM_calls f112x (SA2.out.ext xe.out) rfl).mono ?_;rintro e wk' ⟨rfl,ix⟩;exact hK.out _ _ rfl ix
     ·refine XStep.op rfl fun ac wk hp K hK=>?_;have t114_:=hp.v 4;clear hp;go_simp;exact hK.out _ _ rfl eR
     ·refine XStep.yes 5 true rfl (by decide +kernel) rfl rfl fun ac wk hp K hK=>?_;have t13_:ac.tmps[13]?.getD undef = .slice p22 m22 c22:=hp.slot 13 rfl rfl;clear hp;go_simp;exact hK.out _ _ rfl eR
     ·refine XStep.yes 5 true rfl (by decide +kernel) rfl rfl fun ac wk hp K hK=>?_;have t12_:ac.tmps[12]?.getD undef = .slice p21 m21 c21:=hp.slot 12 rfl rfl;clear hp;go_simp;exact hK.out _ _ rfl eR
     ·refine XStep.yes 5 true rfl (by decide +kernel) rfl rfl fun ac wk hp K hK=>?_;have t116_:=hp.v 6;have t117_:=hp.v 7;have xe:=Hd hp.ext;clear hp;go_simp;refine (HW2.out _ xe.out).mono ?_;rintro e wk' ⟨v9,rfl,s9,ix⟩;exact hK.out _ _ ⟨v9,rfl,s9⟩ ix
     ·refine XStep.yes 5 true rfl (by decide +kernel) rfl rfl fun ac wk hp K hK=>?_;have t0_:ac.tmps[0]?.getD undef = .slice aq am ad:=hp.slot 0 rfl rfl;clear hp;go_simp;exact hK.out _ _ rfl eR
     ·refine XStep.yes 5 true rfl (by decide +kernel) rfl rfl fun ac wk hp K hK=>?_;obtain⟨f118v,f118e,f118x⟩:=hp.g 8;have t118_:ac.tmps[118]?.getD undef=f118v:=slot_is' f118e;have t119_:=hp.v 9;have xe:=Hd hp.ext;clear hp f118e;go_simp;refine (isM_calls f118x (SA2.out.ext xe.out) rfl).mono ?_;rintro e wk' ⟨rfl,ix⟩;exact hK.out _ _ rfl ix
     ·refine XStep.op rfl fun ac wk hp K hK=>?_;have t115_:=hp.v 5;have t120_:=hp.v 10;clear hp;go_simp;exact hK.out _ _ rfl eR
     ·refine XStep.op rfl fun ac wk hp K hK=>?_;have t121_:=hp.v 11;clear hp;go_simp;exact hK.out _ _ rfl eR
     ·refine XStep.yes 12 true rfl (by decide +kernel) rfl rfl fun ac wk hp K hK=>?_;have t12_:ac.tmps[12]?.getD undef = .slice p21 m21 c21:=hp.slot 12 rfl rfl;clear hp;go_simp;exact hK.out _ _ rfl eR
     ·refine XStep.yes 12 true rfl (by decide +kernel) rfl rfl fun ac wk hp K hK=>?_;have t123_:=hp.v 13;have xe:=Hd hp.ext;clear hp;go_simp;refine (HQ1.out _ xe.out).mono ?_;rintro e wk' ⟨b9_,p9,n9,c9,r9,m9,d9,rfl,e9,ix⟩;exact hK.out _ _ ⟨_,_,_,_,_,_,_,rfl,IsR.inR e9 LS1.out⟩ ix
     ·refine XStep.yes 12 true rfl (by decide +kernel) rfl rfl fun ac wk hp K hK=>?_;have t13_:ac.tmps[13]?.getD undef = .slice p22 m22 c22:=hp.slot 13 rfl rfl;clear hp;go_simp;exact hK.out _ _ rfl eR
     ·refine XStep.yes 12 true rfl (by decide +kernel) rfl rfl fun ac wk hp K hK=>?_;have t125_:=hp.v 15;have xe:=Hd hp.ext;clear hp;go_simp;refine (HQ2.out _ xe.out).mono ?_;rintro e wk' ⟨b9_,p9,n9,c9,r9,m9,d9,rfl,e9,ix⟩;exact hK.out _ _ ⟨_,_,_,_,_,_,_,rfl,IsR.inR e9 LS2.out⟩ ix
     ·refine XStep.yes 12 true rfl (by decide +kernel) rfl rfl fun ac wk hp K hK=>?_;obtain⟨f124s,f124q,f124a,f124b,f124r,f124c,f124d,f124e,f124i⟩:=hp.g 14;have t124_:ac.tmps[124]?.getD undef = .agg #[.bool f124s,.slice f124q f124a f124b,.slice f124r f124c f124d]:=slot_is' f124e;obtain⟨f126s,f126q,f126a,f126b,f126r,f126c,f126d,f126e,f126i⟩:=hp.g 16;have t126_:ac.tmps[126]?.getD undef = .agg #[.bool f126s,.slice f126q f126a f126b,.slice f126r f126c f126d]:=slot_is' f126e;have xe:=Hd hp.ext;clear hp f124e f126e;go_simp;refine (radd_is f124i f126i (by decide)).mono ?_;rintro e wk' ⟨sb9,sv,su,sm,sd,rfl,e1,o1,ix⟩;obtain⟨sp9,sl9,sc9,tp9,tl9,tc9,rfl,rfl⟩:=e1.slice;rw[HSUM.out]at e1;exact hK.out _ _ ⟨_,_,_,_,_,_,_,rfl,IsR.inR e1 LS3.out⟩ ix
     ·refine XStep.yes 12 true rfl (by decide +kernel) rfl rfl fun ac wk hp K hK=>?_;have t9_:ac.tmps[9]?.getD undef = .pointer (some ⟨b9,0,none⟩):=hp.slot 9 rfl rfl;have q0:=((S0.out).ext hp.ext).1;have q1:=((S1.out).ext hp.ext).1;have q2:=((S2.out).ext hp.ext).1;clear hp;go_simp;exact hK.out _ _ rfl eR
     ·refine XStep.yes 12 true rfl (by decide +kernel) rfl rfl fun ac wk hp K hK=>?_;obtain⟨f127s,f127q,f127a,f127b,f127r,f127c,f127d,f127e,f127i⟩:=hp.g 17;have t127_:ac.tmps[127]?.getD undef = .agg #[.bool f127s,.slice f127q f127a f127b,.slice f127r f127c f127d]:=slot_is' f127e;have t128_:=hp.v 18;have xe:=Hd hp.ext;clear hp f127e;go_simp;refine (rsame_calls f127i (IS.out.ext xe.out) (by decide) true (by simp)).mono ?_;rintro e wk' ⟨rfl,ix⟩;exact hK.out _ _ rfl ix
     ·refine XStep.op rfl fun ac wk hp K hK=>?_;have t122_:=hp.v 12;have t129_:=hp.v 19;clear hp;go_simp;exact hK.out _ _ rfl eR
    case ht =>
     intro ac v2 hag hext hpost;have z130_:sl ac 130 = .bool true:=hpost 20 (by decide +kernel) rfl;rw[hag.lay];simp only[lay,List.foldl_cons,List.foldl_nil,List.setIfInBounds_toArray,List.set_cons_zero,List.set_cons_succ,z130_];have HEX:=Hd hext;clear hag hpost hext z130_;refine seqTail.op rfl rfl (fun K hK=>?_);have HK3:=Hd hK;clear hK;go_simp;refine HK3.out _ _ ?_;clear HK3
     show seqTail _ _ _ [] _ _
     unfold seqTail;go_wp2_with fail
     try go_ret
     exact⟨rfl,XX.out.trans HEX.out⟩
  ·obtain⟨p11,c11,rfl,x8⟩:=hneg h0;have R0:=Hd (R0.out.ext x8);have R1:=Hd (R1.out.ext x8);have R2:=Hd (R2.out.ext x8);have V0:=Hd (V0.out.ext x8);have V1:=Hd (V1.out.ext x8);have V2:=Hd (V2.out.ext x8);have HR:=Hd (HR.out.ext x8);have HV:=Hd (HV.out.ext x8);have SA2:=Hd (SA2.out.ext x8);have IS:=Hd (IS.out.ext x8);have S0:=Hd (S0.out.ext x8);have S1:=Hd (S1.out.ext x8);have S2:=Hd (S2.out.ext x8);have XX:=Hd (XX.out.trans x8)
   have hc1:cs≤0:=HR3.out.2.resolve_left fun h=>h0 (HGT.out.1 h)
   have hc2:¬ cs > 0:=by omega
   have HCS_:=HCS;clear x8 hpos hneg HCS HGT HR3 h0
   go_upto_region 8 with fail
   refine wp_region_tail [80,81,82,83,84,85,86,87,88,89,90,91,92,93,94,95,96,97,98,99,100,101,102,103] [] (fun ix__=>([Sx.val (.agg #[.bool rb,.slice xp xn xc,.slice yp yn yc]),Sx.inK 1 ((0:Int):Rat),Sx.val (.int .i64 cs),Sx.val (.bool false),Sx.val (.bool false),Sx.val undef,Sx.val undef,Sx.val undef,Sx.val undef,Sx.val undef,Sx.val undef,Sx.val undef,Sx.val (.bool false),Sx.val (.bool false),Sx.val (.agg #[.bool rb,.slice xp xn xc,.slice yp yn yc]),Sx.inK 1 ((0:Int):Rat),Sx.val (.int .i64 cs),Sx.val (.bool true),Sx.val (.bool true),Sx.val (.slice p11 0 c11),Sx.val (.int .i64 0),Sx.val (.bool false),Sx.val (.bool false),Sx.val (.bool false)]:List Sx).getD ix__ (Sx.val undef)) (by kernel_rfl) (by kernel_rfl) ?hs ?ht
   case hs =>
    refine⟨?_,?_,?_,?_,?_,?_,?_,?_,?_,?_,?_,?_,?_,?_,?_,?_,?_,?_,?_,?_,?_,?_,?_,?_,trivial⟩
    ·refine XStep.op rfl fun ac wk hp K hK=>?_;have t6_:ac.tmps[6]?.getD undef = .pointer (some ⟨b6,0,none⟩):=hp.slot 6 rfl rfl;have q0:=((R0.out).ext hp.ext).1;have q1:=((R1.out).ext hp.ext).1;have q2:=((R2.out).ext hp.ext).1;clear hp;go_simp;exact hK.out _ _ rfl eR
    ·refine XStep.op rfl fun ac wk hp K hK=>?_;have xe:=Hd hp.ext;clear hp;go_simp;refine (rof_is _ 0 (by decide) (by decide)).mono ?_;rintro e wk' ⟨sb9,sv,su,sm,sd,rfl,e1,o1,ix⟩;obtain⟨sp9,sl9,sc9,tp9,tl9,tc9,rfl,rfl⟩:=e1.slice;exact hK.out _ _ ⟨_,_,_,_,_,_,_,rfl,IsR.inR e1 LZ.out⟩ ix
    ·refine XStep.op rfl fun ac wk hp K hK=>?_;have t80_:=hp.v 0;obtain⟨f81s,f81q,f81a,f81b,f81r,f81c,f81d,f81e,f81i⟩:=hp.g 1;have t81_:ac.tmps[81]?.getD undef = .agg #[.bool f81s,.slice f81q f81a f81b,.slice f81r f81c f81d]:=slot_is' f81e;have xe:=Hd hp.ext;clear hp f81e;go_simp;refine (rcmp_is (HR.out.ext xe.out) f81i (by decide) HCS_.out).mono ?_;rintro e wk' ⟨rfl,ix⟩;exact hK.out _ _ rfl ix
    ·refine XStep.op rfl fun ac wk hp K hK=>?_;have t82_:=hp.v 2;clear hp;go_simp;exact hK.out _ _ (by first | rfl | (apply congrArg Value.bool;simp;done) | (apply congrArg Value.bool;simp;omega) | (simp [*];done)) eR
    ·refine XStep.op rfl fun ac wk hp K hK=>?_;have t83_:=hp.v 3;clear hp;go_simp;exact hK.out _ _ rfl eR
    ·exact XStep.no 4 true rfl (by decide +kernel) rfl (.inl rfl) rfl
    ·exact XStep.no 4 true rfl (by decide +kernel) rfl (.inl rfl) rfl
    ·exact XStep.no 4 true rfl (by decide +kernel) rfl (.inl rfl) rfl
    ·exact XStep.no 4 true rfl (by decide +kernel) rfl (.inl rfl) rfl
    ·exact XStep.no 4 true rfl (by decide +kernel) rfl (.inl rfl) rfl
    ·exact XStep.no 4 true rfl (by decide +kernel) rfl (.inl rfl) rfl
    ·exact XStep.no 4 true rfl (by decide +kernel) rfl (.inl rfl) rfl
    ·refine XStep.op rfl fun ac wk hp K hK=>?_;have t84_:=hp.v 4;clear hp;go_simp;exact hK.out _ _ rfl eR
    ·refine XStep.op rfl fun ac wk hp K hK=>?_;have t92_:=hp.v 12;clear hp;go_simp;exact hK.out _ _ rfl eR
    ·refine XStep.yes 13 false rfl (by decide +kernel) rfl rfl fun ac wk hp K hK=>?_;have t6_:ac.tmps[6]?.getD undef = .pointer (some ⟨b6,0,none⟩):=hp.slot 6 rfl rfl;have q0:=((R0.out).ext hp.ext).1;have q1:=((R1.out).ext hp.ext).1;have q2:=((R2.out).ext hp.ext).1;clear hp;go_simp;exact hK.out _ _ rfl eR
    ·refine XStep.yes 13 false rfl (by decide +kernel) rfl rfl fun ac wk hp K hK=>?_;have xe:=Hd hp.ext;clear hp;go_simp;refine (rof_is _ 0 (by decide) (by decide)).mono ?_;rintro e wk' ⟨sb9,sv,su,sm,sd,rfl,e1,o1,ix⟩;obtain⟨sp9,sl9,sc9,tp9,tl9,tc9,rfl,rfl⟩:=e1.slice;exact hK.out _ _ ⟨_,_,_,_,_,_,_,rfl,IsR.inR e1 LZ.out⟩ ix
    ·refine XStep.yes 13 false rfl (by decide +kernel) rfl rfl fun ac wk hp K hK=>?_;have t94_:=hp.v 14;obtain⟨f95s,f95q,f95a,f95b,f95r,f95c,f95d,f95e,f95i⟩:=hp.g 15;have t95_:ac.tmps[95]?.getD undef = .agg #[.bool f95s,.slice f95q f95a f95b,.slice f95r f95c f95d]:=slot_is' f95e;have xe:=Hd hp.ext;clear hp f95e;go_simp;refine (rcmp_is (HR.out.ext xe.out) f95i (by decide) HCS_.out).mono ?_;rintro e wk' ⟨rfl,ix⟩;exact hK.out _ _ rfl ix
    ·refine XStep.yes 13 false rfl (by decide +kernel) rfl rfl fun ac wk hp K hK=>?_;have t96_:=hp.v 16;clear hp;go_simp;exact hK.out _ _ (by first | rfl | (apply congrArg Value.bool;simp;done) | (apply congrArg Value.bool;simp;omega) | (simp [*];done)) eR
    ·refine XStep.yes 13 false rfl (by decide +kernel) rfl rfl fun ac wk hp K hK=>?_;have t97_:=hp.v 17;clear hp;go_simp;exact hK.out _ _ rfl eR
    ·refine XStep.yes 18 true rfl (by decide +kernel) rfl rfl fun ac wk hp K hK=>?_;have t11_:ac.tmps[11]?.getD undef = .slice p11 0 c11:=hp.slot 11 rfl rfl;clear hp;go_simp;exact hK.out _ _ rfl eR
    ·refine XStep.yes 18 true rfl (by decide +kernel) rfl rfl fun ac wk hp K hK=>?_;have t99_:=hp.v 19;have xe:=Hd hp.ext;clear hp;go_simp;exact hK.out _ _ rfl eR
    ·refine XStep.yes 18 true rfl (by decide +kernel) rfl rfl fun ac wk hp K hK=>?_;have t100_:=hp.v 20;clear hp;go_simp;exact hK.out _ _ (by first | rfl | (apply congrArg Value.bool;simp;done) | (apply congrArg Value.bool;simp;omega) | (simp [*];done)) eR
    ·refine XStep.yes 13 false rfl (by decide +kernel) rfl rfl fun ac wk hp K hK=>?_;have t98_:=hp.v 18;have t101_:=hp.v 21;clear hp;go_simp;exact hK.out _ _ rfl eR
    ·refine XStep.op rfl fun ac wk hp K hK=>?_;have t93_:=hp.v 13;have t102_:=hp.v 22;clear hp;go_simp;exact hK.out _ _ rfl eR
   case ht =>
    intro ac v2 hag hext hpost;have z103_:sl ac 103 = .bool false:=hpost 23 (by decide +kernel) rfl;rw[hag.lay];simp only[lay,List.foldl_cons,List.foldl_nil,List.setIfInBounds_toArray,List.set_cons_zero,List.set_cons_succ,z103_];have HEX:=Hd hext;clear hag hpost hext z103_;clear HCS_ LZ LSQ LQ hc1 hc2;have XX:=Hd (XX.out.trans HEX.out);have R0:=Hd (R0.out.ext HEX.out);have R1:=Hd (R1.out.ext HEX.out);have R2:=Hd (R2.out.ext HEX.out);have V0:=Hd (V0.out.ext HEX.out);have V1:=Hd (V1.out.ext HEX.out);have V2:=Hd (V2.out.ext HEX.out);have HR:=Hd (HR.out.ext HEX.out);have HV:=Hd (HV.out.ext HEX.out);have SA2:=Hd (SA2.out.ext HEX.out);have IS:=Hd (IS.out.ext HEX.out);have S0:=Hd (S0.out.ext HEX.out);have S1:=Hd (S1.out.ext HEX.out);have S2:=Hd (S2.out.ext HEX.out);clear HEX;unfold seqTail;go_wp2_with fail;refine (mb_keep GA.out DBF.out SA2.out (less1_how HV.out V0.out V1.out V2.out)).mono ?_;rintro z w21 ⟨v21,rfl,hs,xk⟩;have R0:=Hd (R0.out.ext xk);have R1:=Hd (R1.out.ext xk);have R2:=Hd (R2.out.ext xk);have V0:=Hd (V0.out.ext xk);have V1:=Hd (V1.out.ext xk);have V2:=Hd (V2.out.ext xk);have HR:=Hd (HR.out.ext xk);have HV:=Hd (HV.out.ext xk);have SA2:=Hd (SA2.out.ext xk);have IS:=Hd (IS.out.ext xk);have S0:=Hd (S0.out.ext xk);have S1:=Hd (S1.out.ext xk);have S2:=Hd (S2.out.ext xk);obtain⟨p21,c21,hv21⟩:=hs.shape;subst hv21;have K21:Hid (SlM w21 (.slice p21 (A.filter fun a=>decide (cmpV a.1 u<0)).length c21) (A.filter fun a=>decide (cmpV a.1 u<0))):=hs;have XX:=Hd (XX.out.trans xk);clear xk hs
    obtain⟨M21,hM21⟩:∃ M,(A.filter fun a=>decide (cmpV a.1 u<0))=M:=⟨_,rfl⟩
    have B21:Hid (MB D X M21):=by show MB _ _ _;rw[←hM21];exact GA.out.filter _
    rw[hM21]at K21 ⊢
    obtain⟨m21,hm21⟩:∃ m,M21.length=m:=⟨_,rfl⟩
    rw[hm21]at K21 ⊢;have N21:=Hd hM21;clear hM21 hm21;go_wp2_with fail;refine (mb_keep GA.out DBF.out SA2.out (more1_how HV.out V0.out V1.out V2.out)).mono ?_;rintro z w22 ⟨v22,rfl,hs,xk⟩;have R0:=Hd (R0.out.ext xk);have R1:=Hd (R1.out.ext xk);have R2:=Hd (R2.out.ext xk);have V0:=Hd (V0.out.ext xk);have V1:=Hd (V1.out.ext xk);have V2:=Hd (V2.out.ext xk);have HR:=Hd (HR.out.ext xk);have HV:=Hd (HV.out.ext xk);have SA2:=Hd (SA2.out.ext xk);have IS:=Hd (IS.out.ext xk);have S0:=Hd (S0.out.ext xk);have S1:=Hd (S1.out.ext xk);have S2:=Hd (S2.out.ext xk);have K21:=Hd (K21.out.ext xk);obtain⟨p22,c22,hv22⟩:=hs.shape;subst hv22;have K22:Hid (SlM w22 (.slice p22 (A.filter fun a => !decide (cmpV a.1 u<0)).length c22) (A.filter fun a => !decide (cmpV a.1 u<0))):=hs;have XX:=Hd (XX.out.trans xk);clear xk hs
    obtain⟨M22,hM22⟩:∃ M,(A.filter fun a => !decide (cmpV a.1 u<0))=M:=⟨_,rfl⟩
    have B22:Hid (MB D X M22):=by show MB _ _ _;rw[←hM22];exact GA.out.filter _
    rw[hM22]at K22 ⊢
    obtain⟨m22,hm22⟩:∃ m,M22.length=m:=⟨_,rfl⟩
    rw[hm22]at K22 ⊢;have N22:=Hd hM22;clear hM22 hm22
    go_upto_region 12 with fail
    have HPM:Hid ((M21 ++ M22).Perm A):=by show List.Perm _ _;rw[←N21.out,←N22.out];exact filt_perm A fun a=>decide (cmpV a.1 u<0)
    have HLK:Hid (M21.length+M22.length≤40):=by show _≤_;have:=HPM.out.length_eq;rw[List.length_append]at this;have:=GA.out.len;omega
    obtain⟨s1,hs1⟩:∃ s,totV M21=s:=⟨_,rfl⟩
    obtain⟨s2,hs2⟩:∃ s,totV M22=s:=⟨_,rfl⟩
    have LS1:Hid (LenR 241 s1):=by show LenR _ _;rw[←hs1];exact B21.out.tlen DBF.out
    have LS2:Hid (LenR 241 s2):=by show LenR _ _;rw[←hs2];exact B22.out.tlen DBF.out
    have HSUM:Hid (s1+s2=s):=by show _=_;rw[←hs1,←hs2,←TA.out,←totV_app];exact totV_perm HPM.out
    have HW1:Hid (∀ X,Ext w22 X→Calls Tryz.prog 30 #[.slice p21 m21 c21,.slice p22 m22 c22] X fun z w' => ∃ v',z = .returned v'∧SlM w' v' A∧Ext X w'):=fun X hX=>mb_whole B21.out B22.out DBF.out HLK.out HPM.out GA.out.mass (K21.out.ext hX) (K22.out.ext hX)
    have HW2:Hid (∀ X,Ext w22 X→Calls Tryz.prog 30 #[.slice p22 m22 c22,.slice p21 m21 c21] X fun z w' => ∃ v',z = .returned v'∧SlM w' v' A∧Ext X w'):=fun X hX=>mb_whole B22.out B21.out DBF.out (by rw[Nat.add_comm];exact HLK.out) (List.perm_append_comm.trans HPM.out) GA.out.mass (K22.out.ext hX) (K21.out.ext hX)
    have HQ1:Hid (∀ X,Ext w22 X→Calls Tryz.prog 16 #[.slice p21 m21 c21] X (RetQ X s1)):=fun X hX=>by rw[←hs1];exact mb_total B21.out DBF.out (K21.out.ext hX)
    have HQ2:Hid (∀ X,Ext w22 X→Calls Tryz.prog 16 #[.slice p22 m22 c22] X (RetQ X s2)):=fun X hX=>by rw[←hs2];exact mb_total B22.out DBF.out (K22.out.ext hX)
    have LS3:Hid (LenR 483 s):=LS.out.mono (by decide);clear hs1 hs2 HPM HLK B21 B22 N21 N22 K21 K22;refine wp_region_tail [110,111,112,113,114,115,116,117,118,119,120,121,122,123,124,125,126,127,128,129,130] [21] (fun ix__=>([Sx.val (.slice p21 m21 c21),Sx.val (.slice p22 m22 c22),Sx.isN A,Sx.val (.slice aq am ad),Sx.val (.bool true),Sx.val (.bool true),Sx.val (.slice p22 m22 c22),Sx.val (.slice p21 m21 c21),Sx.isN A,Sx.val (.slice aq am ad),Sx.val (.bool true),Sx.val (.bool true),Sx.val (.bool true),Sx.val (.slice p21 m21 c21),Sx.inK 241 (s1),Sx.val (.slice p22 m22 c22),Sx.inK 241 (s2),Sx.inK 483 (s),Sx.val (.agg #[.bool sb,.slice sp1 sn1 sc1,.slice sp2 sn2 sc2]),Sx.val (.bool true),Sx.val (.bool true)]:List Sx).getD ix__ (Sx.val undef)) (by kernel_rfl) (by kernel_rfl) ?hs ?ht
    case hs =>
     refine⟨?_,?_,?_,?_,?_,?_,?_,?_,?_,?_,?_,?_,?_,?_,?_,?_,?_,?_,?_,?_,?_,fun _ => .inl rfl,trivial⟩
     ·refine XStep.op rfl fun ac wk hp K hK=>?_;have t12_:ac.tmps[12]?.getD undef = .slice p21 m21 c21:=hp.slot 12 rfl rfl;clear hp;go_simp;exact hK.out _ _ rfl eR
     ·refine XStep.op rfl fun ac wk hp K hK=>?_;have t13_:ac.tmps[13]?.getD undef = .slice p22 m22 c22:=hp.slot 13 rfl rfl;clear hp;go_simp;exact hK.out _ _ rfl eR
     ·refine XStep.op rfl fun ac wk hp K hK=>?_;have t110_:=hp.v 0;have t111_:=hp.v 1;have xe:=Hd hp.ext;clear hp;go_simp;refine (HW1.out _ xe.out).mono ?_;rintro e wk' ⟨v9,rfl,s9,ix⟩;exact hK.out _ _ ⟨v9,rfl,s9⟩ ix
     ·refine XStep.op rfl fun ac wk hp K hK=>?_;have t0_:ac.tmps[0]?.getD undef = .slice aq am ad:=hp.slot 0 rfl rfl;clear hp;go_simp;exact hK.out _ _ rfl eR
     ·refine XStep.op rfl fun ac wk hp K hK=>?_;obtain⟨f112v,f112e,f112x⟩:=hp.g 2;have t112_:ac.tmps[112]?.getD undef=f112v:=slot_is' f112e;have t113_:=hp.v 3;have xe:=Hd hp.ext;clear hp f112e;go_simp;refine (isM_calls f112x (SA2.out.ext xe.out) rfl).mono ?_;rintro e wk' ⟨rfl,ix⟩;exact hK.out _ _ rfl ix
     ·refine XStep.op rfl fun ac wk hp K hK=>?_;have t114_:=hp.v 4;clear hp;go_simp;exact hK.out _ _ rfl eR
     ·refine XStep.yes 5 true rfl (by decide +kernel) rfl rfl fun ac wk hp K hK=>?_;have t13_:ac.tmps[13]?.getD undef = .slice p22 m22 c22:=hp.slot 13 rfl rfl;clear hp;go_simp;exact hK.out _ _ rfl eR
     ·refine XStep.yes 5 true rfl (by decide +kernel) rfl rfl fun ac wk hp K hK=>?_;have t12_:ac.tmps[12]?.getD undef = .slice p21 m21 c21:=hp.slot 12 rfl rfl;clear hp;go_simp;exact hK.out _ _ rfl eR
     ·refine XStep.yes 5 true rfl (by decide +kernel) rfl rfl fun ac wk hp K hK=>?_;have t116_:=hp.v 6;have t117_:=hp.v 7;have xe:=Hd hp.ext;clear hp;go_simp;refine (HW2.out _ xe.out).mono ?_;rintro e wk' ⟨v9,rfl,s9,ix⟩;exact hK.out _ _ ⟨v9,rfl,s9⟩ ix
     ·refine XStep.yes 5 true rfl (by decide +kernel) rfl rfl fun ac wk hp K hK=>?_;have t0_:ac.tmps[0]?.getD undef = .slice aq am ad:=hp.slot 0 rfl rfl;clear hp;go_simp;exact hK.out _ _ rfl eR
     ·refine XStep.yes 5 true rfl (by decide +kernel) rfl rfl fun ac wk hp K hK=>?_;obtain⟨f118v,f118e,f118x⟩:=hp.g 8;have t118_:ac.tmps[118]?.getD undef=f118v:=slot_is' f118e;have t119_:=hp.v 9;have xe:=Hd hp.ext;clear hp f118e;go_simp;refine (isM_calls f118x (SA2.out.ext xe.out) rfl).mono ?_;rintro e wk' ⟨rfl,ix⟩;exact hK.out _ _ rfl ix
     ·refine XStep.op rfl fun ac wk hp K hK=>?_;have t115_:=hp.v 5;have t120_:=hp.v 10;clear hp;go_simp;exact hK.out _ _ rfl eR
     ·refine XStep.op rfl fun ac wk hp K hK=>?_;have t121_:=hp.v 11;clear hp;go_simp;exact hK.out _ _ rfl eR
     ·refine XStep.yes 12 true rfl (by decide +kernel) rfl rfl fun ac wk hp K hK=>?_;have t12_:ac.tmps[12]?.getD undef = .slice p21 m21 c21:=hp.slot 12 rfl rfl;clear hp;go_simp;exact hK.out _ _ rfl eR
     ·refine XStep.yes 12 true rfl (by decide +kernel) rfl rfl fun ac wk hp K hK=>?_;have t123_:=hp.v 13;have xe:=Hd hp.ext;clear hp;go_simp;refine (HQ1.out _ xe.out).mono ?_;rintro e wk' ⟨b9_,p9,n9,c9,r9,m9,d9,rfl,e9,ix⟩;exact hK.out _ _ ⟨_,_,_,_,_,_,_,rfl,IsR.inR e9 LS1.out⟩ ix
     ·refine XStep.yes 12 true rfl (by decide +kernel) rfl rfl fun ac wk hp K hK=>?_;have t13_:ac.tmps[13]?.getD undef = .slice p22 m22 c22:=hp.slot 13 rfl rfl;clear hp;go_simp;exact hK.out _ _ rfl eR
     ·refine XStep.yes 12 true rfl (by decide +kernel) rfl rfl fun ac wk hp K hK=>?_;have t125_:=hp.v 15;have xe:=Hd hp.ext;clear hp;go_simp;refine (HQ2.out _ xe.out).mono ?_;rintro e wk' ⟨b9_,p9,n9,c9,r9,m9,d9,rfl,e9,ix⟩;exact hK.out _ _ ⟨_,_,_,_,_,_,_,rfl,IsR.inR e9 LS2.out⟩ ix
     ·refine XStep.yes 12 true rfl (by decide +kernel) rfl rfl fun ac wk hp K hK=>?_;obtain⟨f124s,f124q,f124a,f124b,f124r,f124c,f124d,f124e,f124i⟩:=hp.g 14;have t124_:ac.tmps[124]?.getD undef = .agg #[.bool f124s,.slice f124q f124a f124b,.slice f124r f124c f124d]:=slot_is' f124e;obtain⟨f126s,f126q,f126a,f126b,f126r,f126c,f126d,f126e,f126i⟩:=hp.g 16;have t126_:ac.tmps[126]?.getD undef = .agg #[.bool f126s,.slice f126q f126a f126b,.slice f126r f126c f126d]:=slot_is' f126e;have xe:=Hd hp.ext;clear hp f124e f126e;go_simp;refine (radd_is f124i f126i (by decide)).mono ?_;rintro e wk' ⟨sb9,sv,su,sm,sd,rfl,e1,o1,ix⟩;obtain⟨sp9,sl9,sc9,tp9,tl9,tc9,rfl,rfl⟩:=e1.slice;rw[HSUM.out]at e1;exact hK.out _ _ ⟨_,_,_,_,_,_,_,rfl,IsR.inR e1 LS3.out⟩ ix
     ·refine XStep.yes 12 true rfl (by decide +kernel) rfl rfl fun ac wk hp K hK=>?_;have t9_:ac.tmps[9]?.getD undef = .pointer (some ⟨b9,0,none⟩):=hp.slot 9 rfl rfl;have q0:=((S0.out).ext hp.ext).1;have q1:=((S1.out).ext hp.ext).1;have q2:=((S2.out).ext hp.ext).1;clear hp;go_simp;exact hK.out _ _ rfl eR
     ·refine XStep.yes 12 true rfl (by decide +kernel) rfl rfl fun ac wk hp K hK=>?_;obtain⟨f127s,f127q,f127a,f127b,f127r,f127c,f127d,f127e,f127i⟩:=hp.g 17;have t127_:ac.tmps[127]?.getD undef = .agg #[.bool f127s,.slice f127q f127a f127b,.slice f127r f127c f127d]:=slot_is' f127e;have t128_:=hp.v 18;have xe:=Hd hp.ext;clear hp f127e;go_simp;refine (rsame_calls f127i (IS.out.ext xe.out) (by decide) true (by simp)).mono ?_;rintro e wk' ⟨rfl,ix⟩;exact hK.out _ _ rfl ix
     ·refine XStep.op rfl fun ac wk hp K hK=>?_;have t122_:=hp.v 12;have t129_:=hp.v 19;clear hp;go_simp;exact hK.out _ _ rfl eR
    case ht =>
     intro ac v2 hag hext hpost;have z130_:sl ac 130 = .bool true:=hpost 20 (by decide +kernel) rfl;rw[hag.lay];simp only[lay,List.foldl_cons,List.foldl_nil,List.setIfInBounds_toArray,List.set_cons_zero,List.set_cons_succ,z130_];have HEX:=Hd hext;clear hag hpost hext z130_;refine seqTail.op rfl rfl (fun K hK=>?_);have HK3:=Hd hK;clear hK;go_simp;refine HK3.out _ _ ?_;clear HK3
     show seqTail _ _ _ [] _ _
     unfold seqTail;go_wp2_with fail
     try go_ret
     exact⟨rfl,XX.out.trans HEX.out⟩
end Go.Proofs.YtfofjalebhajhaaGreatDoor
