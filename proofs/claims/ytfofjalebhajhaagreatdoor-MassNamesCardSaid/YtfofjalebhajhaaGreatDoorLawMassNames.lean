/- MassNames answers true. -/
import Derived.Test.YtfofjalebhajhaaGreatDoorAwake24
import Derived.Test.YtfofjalebhajhaaGreatDoorMass22
namespace Go.Proofs.YtfofjalebhajhaaGreatDoor
open Go Go.RowKit
def RowT (tb i:Nat) (w:World):Prop:=∃ (p:Option Addr) (n c:Nat) (b:Bool) (Ls:List Ra),At tb (i*2) (.slice p n c) w∧At tb (i*2+1) (.bool b) w∧SlS w (.slice p n c) Ls∧ShortS Ls∧Ls.length≤2∧(b=true↔MayS Ls)
theorem RowT.ext {tb i:Nat}{w w':World}(h:RowT tb i w) (x:Ext w w'):RowT tb i w':=by
 obtain⟨p,n,c,b,Ls,h1,h2,h3,h4,h5,h6⟩:=h;exact⟨p,n,c,b,Ls,h1.ext x,h2.ext x,h3.ext x,h4,h5,h6⟩
theorem short_raPt {M:List Pt}(h:∀ a∈M,LenR 6 a.2∧szV a.1≤6000):ShortS (M.map raPt):=by
 intro a ha;obtain⟨p,hp,rfl⟩:=List.mem_map.1 ha;obtain⟨h1,h2⟩:=h p hp;exact⟨⟨dig_len_le h1.1,dig_len_le h1.2⟩,h2⟩
set_option maxRecDepth 100000 in
theorem names_of {w:World}{p:Option Addr}{n c:Nat}{Ls:List Ra}(h:SlS w (.slice p n c) Ls) (hs:ShortS Ls) (hl:Ls.length≤2) :
  Calls Tryz.prog 18 #[.slice p n c] w fun z w' => ∃ v' out,z = .returned v'∧MassP out∧(∀ a∈out,LenR 241 a.2)∧SlM w' v' out∧Ext w w':=by
 obtain⟨D,hD0,hD1,hD2⟩:=common_dn (Ls.map ptRa) (short_len h hs);rw[List.length_map]at hD1 hD2;have hX:Bs^(6*Ls.length)≤Bs^240:=Nat.pow_le_pow_right Bs_pos (by omega)
 have hBig:∀ q,q≤1600→q*Bs^(6*Ls.length)<Bs^241:=fun q hq=>by
  have e:Bs^241=Bs^240*Bs:=rfl;have hq:q<Bs:=small_Bs (by omega);rw[e,Nat.mul_comm];exact Nat.lt_of_le_of_lt (Nat.mul_le_mul_right q hX) (Nat.mul_lt_mul_of_pos_left hq (Nat.pow_pos Bs_pos))
 have hD:D<Bs^241:=by have:=hBig 1 (by decide);omega
 refine (of_calls24 h (D:=D) (X:=Bs^(6*Ls.length)) (k:=241) (K:=6) (by decide) (by decide) (fun a ha=>(hs a ha).1) (by omega) (fun a ha=>Nat.le_trans (hs a ha).2 (by decide)) hD2 hD0 hD (hBig _ (by omega)) (by decide) (by decide)).mono ?_;rintro z w' ⟨v',out,rfl,hg,hsl,hx⟩;refine⟨v',out,rfl,hg.mass,fun a ha=>?_,hsl,hx⟩;refine (hg.dn hD2 a ha).len hD0 hD ?_ (by decide);rw[List.length_map];exact hBig _ (by omega)
theorem cmp_kind0 (a b:Int):cmpV (.mk 0 a []) (.mk 0 b [])=0:=by unfold cmpV;simp
theorem gO:∀ {o},Gath [((.mk 0 3 []:VT),mkRat 1 3),((.mk 0 4 []:VT),mkRat 1 3)] o→o = [((.mk 0 3 []:VT),mkRat 2 3)]:=by
 intro o h;obtain⟨S,-,-,h3,rfl⟩:=h;rw[h3 (by decide) (srt2 (by rw[cmp_kind0];decide))]
 have e:mergeP [((.mk 0 3 []:VT),mkRat 1 3),((.mk 0 4 []:VT),mkRat 1 3)] = [((.mk 0 3 []:VT),mkRat 2 3)]:=by
  simp only[mergeP,List.foldl_cons,List.foldl_nil];rw[mstep_nil,show mstep [((.mk 0 3 []:VT),mkRat 1 3)] ((.mk 0 4 []:VT),mkRat 1 3) = [((.mk 0 3 []:VT),mkRat 1 3+mkRat 1 3)] from mstep_eq [] _ _ (cmp_kind0 3 4)];rw[show mkRat 1 3+mkRat 1 3=mkRat 2 3 by decide +kernel]
 rw[e]
 have h1:decide (0<mkRat 2 3)=true:=by decide +kernel
 simp only[List.filter_cons,List.filter_nil,h1,if_true]
theorem g1 (v:VT) (q:Rat) (hq:0<q):∀ {o},Gath [(v,q)] o→o = [(v,q)]:=by
 intro o h;refine h.self ⟨List.pairwise_singleton _ _,fun a ha=>?_⟩;simp only[List.mem_cons,List.not_mem_nil,or_false]at ha;subst ha;exact hq
theorem not_mass1 {v:VT}{q:Rat}(h:¬ 0<q):¬ MayS ([(v,q)].map raPt):=fun hm=>by
 have:=(hm.mass).2 (v,q) (by rw[pts_map];simp);exact h this
theorem not_mass2 {a b:Pt}(h:¬ cmpV a.1 b.1<0):¬ MayS ([a,b].map raPt):=fun hm=>by
 have:=hm.mass.1;rw[pts_map]at this;exact h ((List.pairwise_cons.1 this).1 b (by simp))
theorem raw_lit {w:World}{k:Nat}{nn:Int}{p:Option Addr}{x y:Nat}{s:Bool}{p1:Option Addr}{n1 c1:Nat}{p2:Option Addr}{n2 c2:Nat}{t:VT}{A B:List Nat}{g:Nat}(hv:IsV w (.agg #[.int .u8 (k:Int),.int .i64 nn,.slice p x y]) t) (hA:Limbs w (.slice p1 n1 c1) A) (hB:Limbs w (.slice p2 n2 c2) B) (hg:g=w.heap.size) :
  SlS (w.alloc (.cells #[.int .u8 (k:Int),.int .i64 nn,.slice p x y,.bool s,.slice p1 n1 c1,.slice p2 n2 c2] 47)) (.slice (some ⟨g,0,none⟩) 1 1) [(t,s,A,B)]:=by
 subst hg;have X:Ext w (w.alloc (.cells #[.int .u8 (k:Int),.int .i64 nn,.slice p x y,.bool s,.slice p1 n1 c1,.slice p2 n2 c2] 47)):=eR.alloc _;refine⟨_,1,rfl,Nat.le_refl _,by simp [maxLen],fun e=>(by cases e),fun i a hi=>?_⟩
 cases i with
 | succ i=>simp at hi
 | zero =>
  simp only[List.getElem?_cons_zero,Option.some.injEq]at hi;subst hi;refine⟨_,0,[.int .u8 (k:Int),.int .i64 nn,.slice p x y,.bool s,.slice p1 n1 c1,.slice p2 n2 c2],rfl,⟨k,nn,p,x,y,p1,n1,c1,p2,n2,c2,rfl,hv.ext X,hA.ext X,hB.ext X⟩,fun j u hj=>at_new ?_⟩
  simpa using hj
theorem not_may_raw {t:VT}{s:Bool}{A B:List Nat}(h:(mkRat (iv s A) (val B)).den≠val B):¬ MayS [(t,s,A,B)]:=fun hm=>by
 have e:=mayRa_eq (hm 0 (by simp) _ rfl).1;have e2:val (dig (mkRat (iv s A) (val B)).den)=val B:=congrArg (fun a:Ra=>val a.2.2.2) e;rw[val_dig]at e2;exact h e2
def Sx.massO:Sx:=⟨fun v w => ∃ (p:Option Addr) (n c:Nat),v = .slice p n c ∧ ∃ out,MassP out∧(∀ a∈out,LenR 241 a.2)∧SlM w (.slice p n c) out,fun v w w' ⟨p,n,c,h1,o,h2,h3,h4⟩ x=>⟨p,n,c,h1,o,h2,h3,h4.ext x⟩⟩
theorem owV_zero (n:Nat) (w:World) (h:n≤100:=by decide):OwV 0 w (.agg #[.int .u8 0,.int .i64 (n:Int),.slice none 0 0]) (.mk 0 (n:Int) []):=OwV.mk 0 (n:Int) [] none 0 [] (by decide) (by omega) (World.ownsRow_nil ..) fun i x hx=>by simp at hx
def Sx.lit2 (M:List Pt):Sx:=⟨fun v w => ∃ s,v = .slice (some ⟨s,0,none⟩) 2 2∧SlM w v M,fun v w w' ⟨s,h1,h2⟩ x=>⟨s,h1,h2.ext x⟩⟩
def Sx.odd1:Sx:=⟨fun v w => ∃ (p:Option Addr) (c:Nat),v = .slice p 1 c∧SlM w (.slice p 1 c) [((.mk 0 3 []:VT),mkRat 2 3)],fun v w w' ⟨p,c,h1,h2⟩ x=>⟨p,c,h1,h2.ext x⟩⟩
def Sx.lit1 (M:List Pt):Sx:=⟨fun v w => ∃ s,v = .slice (some ⟨s,0,none⟩) 1 1∧SlM w v M,fun v w w' ⟨s,h1,h2⟩ x=>⟨s,h1,h2.ext x⟩⟩
def Sx.isM (M:List Pt):Sx:=⟨fun v w => ∃ u,v=u∧SlM w u M,fun v w w' ⟨s,h1,h2⟩ x=>⟨s,h1,h2.ext x⟩⟩
def Sx.nilM:Sx:=⟨fun v _ => ∃ (p:Option Addr) (c:Nat),v = .slice p 0 c,fun v w w' h _=>h⟩
def Sx.inR (q:Rat):Sx:=⟨fun v w => ∃ (s:Bool) (p:Option Addr) (a b:Nat) (r:Option Addr) (c d:Nat),v = .agg #[.bool s,.slice p a b,.slice r c d]∧InR w s (.slice p a b) (.slice r c d) 1 q,fun v w w' ⟨s,p,a,b,r,c,d,h1,h2⟩ x=>⟨s,p,a,b,r,c,d,h1,h2.ext x⟩⟩
theorem zero_eq:(0:Rat)=mkRat 0 2:=by decide +kernel
set_option maxHeartbeats 8000000 in
set_option maxRecDepth 1000000 in
theorem massNames_calls (w0:World):Calls Tryz.prog 5 #[] w0 (Yes w0):=by
 go_enter Tryz.func5,Tryz.ntmps5
 go_wp2_with fail;refine (awake24_calls _).mono ?_;rintro z w1 ⟨rfl,hx⟩;have X1:=Hd hx;clear hx;go_wp2_with fail;refine (share_calls _ 1 1 2 (by decide) (by decide) (by decide) (by decide) (q:=(mkRat 1 2)) (by decide +kernel)).mono ?_;rintro z w2 ⟨k1,n1,p1,a1,b1,s1,r1,c1,d1,u1,e1,f1,rfl,he,hx⟩;have X2:=Hd hx;clear hx;have HE1:Hid (ElO w2 ([.int .u8 (k1:Int),.int .i64 n1,.slice p1 a1 b1,.bool s1,.slice r1 c1 d1,.slice u1 e1 f1],(nm 1,mkRat 1 2))):=he;clear he;go_wp2_with fail
 have R1:Hid (SlM (w2.alloc (.cells #[.int .u8 (k1:Int),.int .i64 n1,.slice p1 a1 b1,.bool s1,.slice r1 c1 d1,.slice u1 e1 f1] 47)) (.slice (some ⟨w2.heap.size,0,none⟩) 1 1) [(nm 1,mkRat 1 2)]):=slS_lit (R:=[([.int .u8 (k1:Int),.int .i64 n1,.slice p1 a1 b1,.bool s1,.slice r1 c1 d1,.slice u1 e1 f1],(nm 1,mkRat 1 2))]) rfl (fun e he=>by
  simp only[List.mem_cons,List.not_mem_nil,or_false]at he
  rcases he with rfl
  ·exact HE1.out
  ) 1 rfl (by decide)
 refine (share_calls _ 1 0 2 (by decide) (by decide) (by decide) (by decide) (q:=(mkRat 0 2)) (by decide +kernel)).mono ?_;rintro z w3 ⟨k2,n2,p2,a2,b2,s2,r2,c2,d2,u2,e2,f2,rfl,he,hx⟩;have R1:=Hd (R1.out.ext hx);have X3:Hid (Ext w2 w3):=(eR.alloc _).trans hx;clear hx;have HE2:Hid (ElO w3 ([.int .u8 (k2:Int),.int .i64 n2,.slice p2 a2 b2,.bool s2,.slice r2 c2 d2,.slice u2 e2 f2],(nm 1,mkRat 0 2))):=he;clear he;go_wp2_with fail
 have R2:Hid (SlM (w3.alloc (.cells #[.int .u8 (k2:Int),.int .i64 n2,.slice p2 a2 b2,.bool s2,.slice r2 c2 d2,.slice u2 e2 f2] 47)) (.slice (some ⟨w3.heap.size,0,none⟩) 1 1) [(nm 1,mkRat 0 2)]):=slS_lit (R:=[([.int .u8 (k2:Int),.int .i64 n2,.slice p2 a2 b2,.bool s2,.slice r2 c2 d2,.slice u2 e2 f2],(nm 1,mkRat 0 2))]) rfl (fun e he=>by
  simp only[List.mem_cons,List.not_mem_nil,or_false]at he
  rcases he with rfl
  ·exact HE2.out
  ) 1 rfl (by decide)
 refine (share_calls _ 1 (-1) 2 (by decide) (by decide) (by decide) (by decide) (q:=(mkRat (-1) 2)) (by decide +kernel)).mono ?_;rintro z w4 ⟨k3,n3,p3,a3,b3,s3,r3,c3,d3,u3,e3,f3,rfl,he,hx⟩;have R2:=Hd (R2.out.ext hx);have X4:Hid (Ext w3 w4):=(eR.alloc _).trans hx;clear hx;have HE3:Hid (ElO w4 ([.int .u8 (k3:Int),.int .i64 n3,.slice p3 a3 b3,.bool s3,.slice r3 c3 d3,.slice u3 e3 f3],(nm 1,mkRat (-1) 2))):=he;clear he;go_wp2_with fail
 have R3:Hid (SlM (w4.alloc (.cells #[.int .u8 (k3:Int),.int .i64 n3,.slice p3 a3 b3,.bool s3,.slice r3 c3 d3,.slice u3 e3 f3] 47)) (.slice (some ⟨w4.heap.size,0,none⟩) 1 1) [(nm 1,mkRat (-1) 2)]):=slS_lit (R:=[([.int .u8 (k3:Int),.int .i64 n3,.slice p3 a3 b3,.bool s3,.slice r3 c3 d3,.slice u3 e3 f3],(nm 1,mkRat (-1) 2))]) rfl (fun e he=>by
  simp only[List.mem_cons,List.not_mem_nil,or_false]at he
  rcases he with rfl
  ·exact HE3.out
  ) 1 rfl (by decide)
 refine (share_calls _ 1 1 2 (by decide) (by decide) (by decide) (by decide) (q:=(mkRat 1 2)) (by decide +kernel)).mono ?_;rintro z w5 ⟨k4,n4,p4,a4,b4,s4,r4,c4,d4,u4,e4,f4,rfl,he,hx⟩;have R3:=Hd (R3.out.ext hx);have X5:Hid (Ext w4 w5):=(eR.alloc _).trans hx;clear hx;have HE4:Hid (ElO w5 ([.int .u8 (k4:Int),.int .i64 n4,.slice p4 a4 b4,.bool s4,.slice r4 c4 d4,.slice u4 e4 f4],(nm 1,mkRat 1 2))):=he;clear he;go_wp2_with fail;refine (share_calls _ 1 1 2 (by decide) (by decide) (by decide) (by decide) (q:=(mkRat 1 2)) (by decide +kernel)).mono ?_;rintro z w6 ⟨k5,n5,p5,a5,b5,s5,r5,c5,d5,u5,e5,f5,rfl,he,hx⟩;have X6:=Hd hx;clear hx;have HE5:Hid (ElO w6 ([.int .u8 (k5:Int),.int .i64 n5,.slice p5 a5 b5,.bool s5,.slice r5 c5 d5,.slice u5 e5 f5],(nm 1,mkRat 1 2))):=he;clear he;go_wp2_with fail
 have R4:Hid (SlM (w6.alloc (.cells #[.int .u8 (k4:Int),.int .i64 n4,.slice p4 a4 b4,.bool s4,.slice r4 c4 d4,.slice u4 e4 f4,.int .u8 (k5:Int),.int .i64 n5,.slice p5 a5 b5,.bool s5,.slice r5 c5 d5,.slice u5 e5 f5] 47)) (.slice (some ⟨w6.heap.size,0,none⟩) 2 2) [(nm 1,mkRat 1 2),(nm 1,mkRat 1 2)]):=slS_lit (R:=[([.int .u8 (k4:Int),.int .i64 n4,.slice p4 a4 b4,.bool s4,.slice r4 c4 d4,.slice u4 e4 f4],(nm 1,mkRat 1 2)),([.int .u8 (k5:Int),.int .i64 n5,.slice p5 a5 b5,.bool s5,.slice r5 c5 d5,.slice u5 e5 f5],(nm 1,mkRat 1 2))]) rfl (fun e he=>by
  simp only[List.mem_cons,List.not_mem_nil,or_false]at he
  rcases he with rfl | rfl
  ·exact (HE4.out.ext X6.out)
  ·exact HE5.out
  ) 2 rfl (by decide)
 refine (share_calls _ 2 1 2 (by decide) (by decide) (by decide) (by decide) (q:=(mkRat 1 2)) (by decide +kernel)).mono ?_;rintro z w7 ⟨k6,n6,p6,a6,b6,s6,r6,c6,d6,u6,e6,f6,rfl,he,hx⟩;have R4:=Hd (R4.out.ext hx);have X7:Hid (Ext w6 w7):=(eR.alloc _).trans hx;clear hx;have HE6:Hid (ElO w7 ([.int .u8 (k6:Int),.int .i64 n6,.slice p6 a6 b6,.bool s6,.slice r6 c6 d6,.slice u6 e6 f6],(nm 2,mkRat 1 2))):=he;clear he;go_wp2_with fail;refine (share_calls _ 1 1 2 (by decide) (by decide) (by decide) (by decide) (q:=(mkRat 1 2)) (by decide +kernel)).mono ?_;rintro z w8 ⟨k7,n7,p7,a7,b7,s7,r7,c7,d7,u7,e7,f7,rfl,he,hx⟩;have X8:=Hd hx;clear hx;have HE7:Hid (ElO w8 ([.int .u8 (k7:Int),.int .i64 n7,.slice p7 a7 b7,.bool s7,.slice r7 c7 d7,.slice u7 e7 f7],(nm 1,mkRat 1 2))):=he;clear he;go_wp2_with fail
 have R5:Hid (SlM (w8.alloc (.cells #[.int .u8 (k6:Int),.int .i64 n6,.slice p6 a6 b6,.bool s6,.slice r6 c6 d6,.slice u6 e6 f6,.int .u8 (k7:Int),.int .i64 n7,.slice p7 a7 b7,.bool s7,.slice r7 c7 d7,.slice u7 e7 f7] 47)) (.slice (some ⟨w8.heap.size,0,none⟩) 2 2) [(nm 2,mkRat 1 2),(nm 1,mkRat 1 2)]):=slS_lit (R:=[([.int .u8 (k6:Int),.int .i64 n6,.slice p6 a6 b6,.bool s6,.slice r6 c6 d6,.slice u6 e6 f6],(nm 2,mkRat 1 2)),([.int .u8 (k7:Int),.int .i64 n7,.slice p7 a7 b7,.bool s7,.slice r7 c7 d7,.slice u7 e7 f7],(nm 1,mkRat 1 2))]) rfl (fun e he=>by
  simp only[List.mem_cons,List.not_mem_nil,or_false]at he
  rcases he with rfl | rfl
  ·exact (HE6.out.ext X8.out)
  ·exact HE7.out
  ) 2 rfl (by decide)
 refine (num_calls _ 1).mono ?_;rintro z w9 ⟨rfl,hx⟩;have R5:=Hd (R5.out.ext hx);have X9:Hid (Ext w8 w9):=(eR.alloc _).trans hx;clear hx;go_wp2_with fail
 have R6:Hid (SlS (((w9.alloc (.cells #[.int .u64 2] 53)).alloc (.cells #[.int .u64 4] 53)).alloc (.cells #[.int .u8 1,.int .i64 1,.slice none 0 0,.bool false,.slice (some ⟨w9.heap.size,0,none⟩) 1 1,.slice (some ⟨w9.heap.size+1,0,none⟩) 1 1] 47)) (.slice (some ⟨w9.heap.size+1+1,0,none⟩) 1 1) [((nm 1,false,[2],[4]):Ra)]) :=
  raw_lit (k:=1) (nn:=1) (p:=none) (x:=0) (y:=0) (isV_nm _ 1 (by decide)) ((lit_n0 [2] (by simp) rfl 1 rfl (by decide)).ext (eR.alloc _)) (lit_n1 [4] (by simp) rfl 1 rfl (by decide)) (by rw[size_alloc,size_alloc])
 refine (share_calls _ 1 7 2 (by decide) (by decide) (by decide) (by decide) (q:=(mkRat 7 2)) (by decide +kernel)).mono ?_;rintro z w10 ⟨k8,n8,p8,a8,b8,s8,r8,c8,d8,u8,e8,f8,rfl,he,hx⟩;have R6:=Hd (R6.out.ext hx);have X10:Hid (Ext w9 w10):=(((eR.alloc _).alloc _).alloc _).trans hx;clear hx;have HE8:Hid (ElO w10 ([.int .u8 (k8:Int),.int .i64 n8,.slice p8 a8 b8,.bool s8,.slice r8 c8 d8,.slice u8 e8 f8],(nm 1,mkRat 7 2))):=he;clear he;go_wp2_with fail;refine (share_calls _ 2 1 9 (by decide) (by decide) (by decide) (by decide) (q:=(mkRat 1 9)) (by decide +kernel)).mono ?_;rintro z w11 ⟨k9,n9,p9,a9,b9,s9,r9,c9,d9,u9,e9,f9,rfl,he,hx⟩;have X11:=Hd hx;clear hx;have HE9:Hid (ElO w11 ([.int .u8 (k9:Int),.int .i64 n9,.slice p9 a9 b9,.bool s9,.slice r9 c9 d9,.slice u9 e9 f9],(nm 2,mkRat 1 9))):=he;clear he;go_wp2_with fail
 have R7:Hid (SlM (w11.alloc (.cells #[.int .u8 (k8:Int),.int .i64 n8,.slice p8 a8 b8,.bool s8,.slice r8 c8 d8,.slice u8 e8 f8,.int .u8 (k9:Int),.int .i64 n9,.slice p9 a9 b9,.bool s9,.slice r9 c9 d9,.slice u9 e9 f9] 47)) (.slice (some ⟨w11.heap.size,0,none⟩) 2 2) [(nm 1,mkRat 7 2),(nm 2,mkRat 1 9)]):=slS_lit (R:=[([.int .u8 (k8:Int),.int .i64 n8,.slice p8 a8 b8,.bool s8,.slice r8 c8 d8,.slice u8 e8 f8],(nm 1,mkRat 7 2)),([.int .u8 (k9:Int),.int .i64 n9,.slice p9 a9 b9,.bool s9,.slice r9 c9 d9,.slice u9 e9 f9],(nm 2,mkRat 1 9))]) rfl (fun e he=>by
  simp only[List.mem_cons,List.not_mem_nil,or_false]at he
  rcases he with rfl | rfl
  ·exact (HE8.out.ext X11.out)
  ·exact HE9.out
  ) 2 rfl (by decide)
 refine (num_calls _ 1).mono ?_;rintro z w12 ⟨rfl,hx⟩;have R7:=Hd (R7.out.ext hx);have X12:Hid (Ext w11 w12):=(eR.alloc _).trans hx;clear hx
 have R8:Hid (SlS (w12.alloc (.cells #[.int .u8 1,.int .i64 1,.slice none 0 0,.bool false,.slice none 0 0,.slice none 0 0] 47)) (.slice (some ⟨w12.heap.size,0,none⟩) 1 1) [((nm 1,false,[],[]):Ra)]) :=
  raw_lit (k:=1) (nn:=1) (p:=none) (x:=0) (y:=0) (isV_nm _ 1 (by decide)) (Limbs.nil _) (Limbs.nil _) rfl
 go_wp2_with fail
 obtain⟨tb,htb⟩:∃ s,w12.heap.size+1=s:=⟨_,rfl⟩
 obtain⟨WT,hWT⟩:∃ X,X=((w12.alloc (.cells #[.int .u8 1,.int .i64 1,.slice none 0 0,.bool false,.slice none 0 0,.slice none 0 0] 47)).alloc (.cells #[.slice none 0 0,.bool true,.slice (some ⟨w2.heap.size,0,none⟩) 1 1,.bool true,.slice (some ⟨w3.heap.size,0,none⟩) 1 1,.bool false,.slice (some ⟨w4.heap.size,0,none⟩) 1 1,.bool false,.slice (some ⟨w6.heap.size,0,none⟩) 2 2,.bool false,.slice (some ⟨w8.heap.size,0,none⟩) 2 2,.bool false,.slice (some ⟨w9.heap.size+1+1,0,none⟩) 1 1,.bool false,.slice (some ⟨w11.heap.size,0,none⟩) 2 2,.bool true,.slice (some ⟨w12.heap.size,0,none⟩) 1 1,.bool false] 50)):=⟨_,rfl⟩
 have XT:Hid (Ext w12 WT):=by rw[hWT];exact (eR.alloc _).alloc _
 have XT8:Hid (Ext (w12.alloc (.cells #[.int .u8 1,.int .i64 1,.slice none 0 0,.bool false,.slice none 0 0,.slice none 0 0] 47)) WT):=by rw[hWT];exact eR.alloc _
 have TC0:Hid (At tb 0 (.slice none 0 0) WT):=by rw[hWT,←htb];exact At.n1 rfl
 have TC1:Hid (At tb 1 (.bool true) WT):=by rw[hWT,←htb];exact At.n1 rfl
 have TC2:Hid (At tb 2 (.slice (some ⟨w2.heap.size,0,none⟩) 1 1) WT):=by rw[hWT,←htb];exact At.n1 rfl
 have TC3:Hid (At tb 3 (.bool true) WT):=by rw[hWT,←htb];exact At.n1 rfl
 have TC4:Hid (At tb 4 (.slice (some ⟨w3.heap.size,0,none⟩) 1 1) WT):=by rw[hWT,←htb];exact At.n1 rfl
 have TC5:Hid (At tb 5 (.bool false) WT):=by rw[hWT,←htb];exact At.n1 rfl
 have TC6:Hid (At tb 6 (.slice (some ⟨w4.heap.size,0,none⟩) 1 1) WT):=by rw[hWT,←htb];exact At.n1 rfl
 have TC7:Hid (At tb 7 (.bool false) WT):=by rw[hWT,←htb];exact At.n1 rfl
 have TC8:Hid (At tb 8 (.slice (some ⟨w6.heap.size,0,none⟩) 2 2) WT):=by rw[hWT,←htb];exact At.n1 rfl
 have TC9:Hid (At tb 9 (.bool false) WT):=by rw[hWT,←htb];exact At.n1 rfl
 have TC10:Hid (At tb 10 (.slice (some ⟨w8.heap.size,0,none⟩) 2 2) WT):=by rw[hWT,←htb];exact At.n1 rfl
 have TC11:Hid (At tb 11 (.bool false) WT):=by rw[hWT,←htb];exact At.n1 rfl
 have TC12:Hid (At tb 12 (.slice (some ⟨w9.heap.size+1+1,0,none⟩) 1 1) WT):=by rw[hWT,←htb];exact At.n1 rfl
 have TC13:Hid (At tb 13 (.bool false) WT):=by rw[hWT,←htb];exact At.n1 rfl
 have TC14:Hid (At tb 14 (.slice (some ⟨w11.heap.size,0,none⟩) 2 2) WT):=by rw[hWT,←htb];exact At.n1 rfl
 have TC15:Hid (At tb 15 (.bool true) WT):=by rw[hWT,←htb];exact At.n1 rfl
 have TC16:Hid (At tb 16 (.slice (some ⟨w12.heap.size,0,none⟩) 1 1) WT):=by rw[hWT,←htb];exact At.n1 rfl
 have TC17:Hid (At tb 17 (.bool false) WT):=by rw[hWT,←htb];exact At.n1 rfl
 have HRT:Hid (∀ i,i<9→RowT tb i WT):=fun i hi=>by
  match i,hi with
  | 0,_=>exact⟨none,0,0,true,[],TC0.out,TC1.out,SlS.nil _,fun a h=>(by cases h),by decide,⟨fun _ i hi=>absurd hi (by simp),fun _=>rfl⟩⟩
  | 1,_=>exact⟨some ⟨w2.heap.size,0,none⟩,1,1,true,([(nm 1,mkRat 1 2)].map raPt),TC2.out,TC3.out,((R1.out.ext (X4.out.trans (X5.out.trans (X6.out.trans (X7.out.trans (X8.out.trans (X9.out.trans (X10.out.trans (X11.out.trans X12.out))))))))).ext XT.out),(short_raPt (fun a ha=>by simp only[List.mem_cons,List.not_mem_nil,or_false]at ha;rcases ha with rfl <;> exact⟨lenR_of (by decide +kernel) (by decide),by rw[szV_nm];decide⟩)),by simp,⟨fun _=>MassP.may ⟨List.pairwise_singleton _ _,(fun a ha=>by simp only[List.mem_cons,List.not_mem_nil,or_false]at ha;rcases ha with rfl <;> decide +kernel)⟩,fun _=>rfl⟩⟩
  | 2,_=>exact⟨some ⟨w3.heap.size,0,none⟩,1,1,false,([(nm 1,mkRat 0 2)].map raPt),TC4.out,TC5.out,((R2.out.ext (X5.out.trans (X6.out.trans (X7.out.trans (X8.out.trans (X9.out.trans (X10.out.trans (X11.out.trans X12.out)))))))).ext XT.out),(short_raPt (fun a ha=>by simp only[List.mem_cons,List.not_mem_nil,or_false]at ha;rcases ha with rfl <;> exact⟨lenR_of (by decide +kernel) (by decide),by rw[szV_nm];decide⟩)),by simp,⟨fun h=>(by cases h),fun h=>absurd h (not_mass1 (by decide +kernel))⟩⟩
  | 3,_=>exact⟨some ⟨w4.heap.size,0,none⟩,1,1,false,([(nm 1,mkRat (-1) 2)].map raPt),TC6.out,TC7.out,((R3.out.ext (X6.out.trans (X7.out.trans (X8.out.trans (X9.out.trans (X10.out.trans (X11.out.trans X12.out))))))).ext XT.out),(short_raPt (fun a ha=>by simp only[List.mem_cons,List.not_mem_nil,or_false]at ha;rcases ha with rfl <;> exact⟨lenR_of (by decide +kernel) (by decide),by rw[szV_nm];decide⟩)),by simp,⟨fun h=>(by cases h),fun h=>absurd h (not_mass1 (by decide +kernel))⟩⟩
  | 4,_=>exact⟨some ⟨w6.heap.size,0,none⟩,2,2,false,([(nm 1,mkRat 1 2),(nm 1,mkRat 1 2)].map raPt),TC8.out,TC9.out,((R4.out.ext (X8.out.trans (X9.out.trans (X10.out.trans (X11.out.trans X12.out))))).ext XT.out),(short_raPt (fun a ha=>by simp only[List.mem_cons,List.not_mem_nil,or_false]at ha;rcases ha with rfl | rfl <;> exact⟨lenR_of (by decide +kernel) (by decide),by rw[szV_nm];decide⟩)),by simp,⟨fun h=>(by cases h),fun h=>absurd h (not_mass2 (by rw[cmpV_nm];decide))⟩⟩
  | 5,_=>exact⟨some ⟨w8.heap.size,0,none⟩,2,2,false,([(nm 2,mkRat 1 2),(nm 1,mkRat 1 2)].map raPt),TC10.out,TC11.out,((R5.out.ext (X10.out.trans (X11.out.trans X12.out))).ext XT.out),(short_raPt (fun a ha=>by simp only[List.mem_cons,List.not_mem_nil,or_false]at ha;rcases ha with rfl | rfl <;> exact⟨lenR_of (by decide +kernel) (by decide),by rw[szV_nm];decide⟩)),by simp,⟨fun h=>(by cases h),fun h=>absurd h (not_mass2 (by rw[cmpV_nm];decide))⟩⟩
  | 6,_=>exact⟨some ⟨w9.heap.size+1+1,0,none⟩,1,1,false,[((nm 1,false,[2],[4]):Ra)],TC12.out,TC13.out,((R6.out.ext (X11.out.trans X12.out)).ext XT.out),(fun a h=>by simp only[List.mem_cons,List.not_mem_nil,or_false]at h;subst h;exact⟨by simp,by rw[szV_nm];decide⟩),by simp,⟨fun h=>(by cases h),fun h=>absurd h (not_may_raw (by simp only[iv,val];decide +kernel))⟩⟩
  | 7,_=>exact⟨some ⟨w11.heap.size,0,none⟩,2,2,true,([(nm 1,mkRat 7 2),(nm 2,mkRat 1 9)].map raPt),TC14.out,TC15.out,(R7.out.ext XT.out),(short_raPt (fun a ha=>by simp only[List.mem_cons,List.not_mem_nil,or_false]at ha;rcases ha with rfl | rfl <;> exact⟨lenR_of (by decide +kernel) (by decide),by rw[szV_nm];decide⟩)),by simp,⟨fun _=>MassP.may ⟨List.pairwise_pair.2 (by rw[cmpV_nm];decide),(fun a ha=>by simp only[List.mem_cons,List.not_mem_nil,or_false]at ha;rcases ha with rfl | rfl <;> decide +kernel)⟩,fun _=>rfl⟩⟩
  | 8,_=>exact⟨some ⟨w12.heap.size,0,none⟩,1,1,false,[((nm 1,false,[],[]):Ra)],TC16.out,TC17.out,(R8.out.ext XT8.out),(fun a h=>by simp only[List.mem_cons,List.not_mem_nil,or_false]at h;subst h;exact⟨by simp,by rw[szV_nm];decide⟩),by simp,⟨fun h=>(by cases h),fun h=>absurd h (not_may_raw (by simp only[iv,val];decide +kernel))⟩⟩
 rw[htb,←hWT]
 generalize (Value.agg #[.int .u8 (k1:Int),.int .i64 n1,.slice p1 a1 b1,.bool s1,.slice r1 c1 d1,.slice u1 e1 f1]:Value)=gv1
 generalize (Value.agg #[.int .u8 (k2:Int),.int .i64 n2,.slice p2 a2 b2,.bool s2,.slice r2 c2 d2,.slice u2 e2 f2]:Value)=gv2
 generalize (Value.agg #[.int .u8 (k3:Int),.int .i64 n3,.slice p3 a3 b3,.bool s3,.slice r3 c3 d3,.slice u3 e3 f3]:Value)=gv3
 generalize (Value.agg #[.int .u8 (k4:Int),.int .i64 n4,.slice p4 a4 b4,.bool s4,.slice r4 c4 d4,.slice u4 e4 f4]:Value)=gv4
 generalize (Value.agg #[.int .u8 (k5:Int),.int .i64 n5,.slice p5 a5 b5,.bool s5,.slice r5 c5 d5,.slice u5 e5 f5]:Value)=gv5
 generalize (Value.agg #[.int .u8 (k6:Int),.int .i64 n6,.slice p6 a6 b6,.bool s6,.slice r6 c6 d6,.slice u6 e6 f6]:Value)=gv6
 generalize (Value.agg #[.int .u8 (k7:Int),.int .i64 n7,.slice p7 a7 b7,.bool s7,.slice r7 c7 d7,.slice u7 e7 f7]:Value)=gv7
 generalize (Value.agg #[.int .u8 (k8:Int),.int .i64 n8,.slice p8 a8 b8,.bool s8,.slice r8 c8 d8,.slice u8 e8 f8]:Value)=gv8
 generalize (Value.agg #[.int .u8 (k9:Int),.int .i64 n9,.slice p9 a9 b9,.bool s9,.slice r9 c9 d9,.slice u9 e9 f9]:Value)=gv9
 generalize (Value.agg #[.slice (some ⟨w2.heap.size,0,none⟩) 1 1,.bool true]:Value)=gw0
 generalize (Value.agg #[.slice (some ⟨w3.heap.size,0,none⟩) 1 1,.bool false]:Value)=gw1
 generalize (Value.agg #[.slice (some ⟨w4.heap.size,0,none⟩) 1 1,.bool false]:Value)=gw2
 generalize (Value.agg #[.slice (some ⟨w6.heap.size,0,none⟩) 2 2,.bool false]:Value)=gw3
 generalize (Value.agg #[.slice (some ⟨w8.heap.size,0,none⟩) 2 2,.bool false]:Value)=gw4
 generalize (Value.agg #[.slice (some ⟨w9.heap.size+1+1,0,none⟩) 1 1,.bool false]:Value)=gw5
 generalize (Value.agg #[.slice (some ⟨w11.heap.size,0,none⟩) 2 2,.bool true]:Value)=gw6
 generalize (Value.agg #[.slice (some ⟨w12.heap.size,0,none⟩) 1 1,.bool false]:Value)=gw7
 clear hWT htb TC0 TC1 TC2 TC3 TC4 TC5 TC6 TC7 TC8 TC9 TC10 TC11 TC12 TC13 TC14 TC15 TC16 TC17 R1 R2 R3 R4 R5 R6 R7 R8
 go_loopw [46] (fun v46 wr => ∃ i:Nat,v46 = .int .i64 (i:Int)∧i≤9∧Ext WT wr) (fun v46 _=>9 - (intOf v46).toNat)
 case atStart=>exact⟨0,rfl,Nat.zero_le _,Ext.refl _⟩
 case round =>
  rename World=>wr
  obtain⟨i,rfl,hi,hx⟩:=hrel;have XR:=Hd hx;clear hx
  by_cases hlt:i<9
  ·have hli:(i:Int)<9:=by omega
   have hl1:(i:Int)+1≤9:=by omega
   have hwi:IntKind.i64.wrap ((i:Int)+1)=((i+1:Nat):Int):=by rw[IntWalk.i64_in _ (by omega)];omega
   have LT:=Hd hlt;obtain⟨rp,rn,rc,rb,Ls,r1,r2,r3,r4,r5,r6⟩:=(HRT.out i hlt).ext XR.out;have h0:=r1.1;have h1:=r2.1;have fb:=r2.2;have HSL:=Hd r3;have HSS:=Hd r4;have HL2:=Hd r5;have HIF:=Hd r6;clear hi hlt r1 r2 r3 r4 r5 r6
   go_upto_region 6 with fail
   obtain⟨b2,hb2⟩:∃ s,wr.heap.size=s:=⟨_,rfl⟩
   obtain⟨W2,hW2⟩:∃ X,X=wr.alloc (.cells #[.slice rp rn rc,.bool rb] 50):=⟨_,rfl⟩
   have X2:Hid (Ext wr W2):=by rw[hW2];exact eR.alloc _
   have PB0:Hid (At b2 0 (.slice rp rn rc) W2):=by rw[hW2,←hb2];exact at_new rfl
   have PB1:Hid (At b2 1 (.bool rb) W2):=by rw[hW2,←hb2];exact at_new rfl
   have HMAY:Hid (∀ X,Ext W2 X→Calls Tryz.prog 14 #[.slice rp rn rc] X fun e w'=>e = .returned (.bool rb)∧Ext X w'):=fun X hX=>mmay_calls (HSL.out.ext (X2.out.trans hX)) (K:=6) (by decide) (by decide) (fun a ha=>(HSS.out a ha).1) rb HIF.out
   have HOF:Hid (∀ X,Ext W2 X→Calls Tryz.prog 18 #[.slice rp rn rc] X fun z w' => ∃ v' out,z = .returned v'∧MassP out∧(∀ a∈out,LenR 241 a.2)∧SlM w' v' out∧Ext X w'):=fun X hX=>names_of (HSL.out.ext (X2.out.trans hX)) HSS.out HL2.out
   rw[hb2,←hW2];clear hW2 hb2 h0 h1 fb
   cases rb
   case false =>
    refine wp_region_tail [50,51,52,53,54,55,56,57,58,59,60,61,62] [] (fun ix__=>([Sx.val (.pointer (some ⟨b2,0,none⟩)),Sx.val (.slice rp rn rc),Sx.val (.bool false),Sx.val (.pointer (some ⟨b2,1,none⟩)),Sx.val (.bool false),Sx.val (.bool false),Sx.val (.bool false),Sx.val (.pointer (some ⟨b2,0,none⟩)),Sx.val (.slice rp rn rc),Sx.massO,Sx.val (.bool true),Sx.val (.bool false),Sx.val (.bool false)]:List Sx).getD ix__ (Sx.val undef)) (by kernel_rfl) (by kernel_rfl) ?hs ?ht
    case hs =>
     refine⟨?_,?_,?_,?_,?_,?_,?_,?_,?_,?_,?_,?_,?_,trivial⟩
     ·refine XStep.op rfl fun ac wk hp K hK=>?_;have t2_:ac.tmps[2]?.getD undef = .pointer (some ⟨b2,0,none⟩):=hp.slot 2 rfl rfl;clear hp;go_simp;exact hK.out _ _ rfl eR
     ·refine XStep.op rfl fun ac wk hp K hK=>?_;have t50_:=hp.v 0;have q0:=((PB0.out).ext hp.ext).1;clear hp;go_simp;exact hK.out _ _ rfl eR
     ·refine XStep.op rfl fun ac wk hp K hK=>?_;have t51_:=hp.v 1;have xe:=Hd hp.ext;clear hp;go_simp;refine (HMAY.out _ xe.out).mono ?_;rintro e wk' ⟨rfl,ix⟩;exact hK.out _ _ rfl ix
     ·refine XStep.op rfl fun ac wk hp K hK=>?_;have t2_:ac.tmps[2]?.getD undef = .pointer (some ⟨b2,0,none⟩):=hp.slot 2 rfl rfl;clear hp;go_simp;exact hK.out _ _ rfl eR
     ·refine XStep.op rfl fun ac wk hp K hK=>?_;have t53_:=hp.v 3;have q0:=((PB1.out).ext hp.ext).1;clear hp;go_simp;exact hK.out _ _ rfl eR
     ·refine XStep.op rfl fun ac wk hp K hK=>?_;have t52_:=hp.v 2;have t54_:=hp.v 4;clear hp;go_simp;exact hK.out _ _ (by first | rfl | (apply congrArg Value.bool;simp;done) | (apply congrArg Value.bool;simp;omega) | (simp [*];done)) eR
     ·refine XStep.op rfl fun ac wk hp K hK=>?_;have t55_:=hp.v 5;clear hp;go_simp;exact hK.out _ _ rfl eR
     ·refine XStep.yes 6 false rfl (by decide +kernel) rfl rfl fun ac wk hp K hK=>?_;have t2_:ac.tmps[2]?.getD undef = .pointer (some ⟨b2,0,none⟩):=hp.slot 2 rfl rfl;clear hp;go_simp;exact hK.out _ _ rfl eR
     ·refine XStep.yes 6 false rfl (by decide +kernel) rfl rfl fun ac wk hp K hK=>?_;have t57_:=hp.v 7;have q0:=((PB0.out).ext hp.ext).1;clear hp;go_simp;exact hK.out _ _ rfl eR
     ·refine XStep.yes 6 false rfl (by decide +kernel) rfl rfl fun ac wk hp K hK=>?_;have t58_:=hp.v 8;have xe:=Hd hp.ext;clear hp;go_simp;refine (HOF.out _ xe.out).mono ?_;rintro e wk' ⟨v9,o9,rfl,q1,q2,q3,ix⟩;obtain⟨p9,c9,rfl⟩:=q3.shape;exact hK.out _ _ ⟨p9,_,c9,rfl,o9,q1,q2,q3⟩ ix
     ·refine XStep.yes 6 false rfl (by decide +kernel) rfl rfl fun ac wk hp K hK=>?_;obtain⟨f59p,f59n,f59c,f59e,f59x⟩:=hp.g 9;obtain⟨f59o,f59m,f59l,f59s⟩:=f59x;have t59_:ac.tmps[59]?.getD undef = .slice f59p f59n f59c:=slot_is' f59e;have xe:=Hd hp.ext;clear hp f59e;go_simp;refine (mayM_calls f59s f59m (K:=241) (by decide) (by decide) f59l).mono ?_;rintro e wk' ⟨rfl,ix⟩;exact hK.out _ _ rfl ix
     ·refine XStep.yes 6 false rfl (by decide +kernel) rfl rfl fun ac wk hp K hK=>?_;have t60_:=hp.v 10;clear hp;go_simp;exact hK.out _ _ rfl eR
     ·refine XStep.op rfl fun ac wk hp K hK=>?_;have t56_:=hp.v 6;have t61_:=hp.v 11;clear hp;go_simp;exact hK.out _ _ rfl eR
    case ht =>
     intro ac v2 hag hext hpost;have z62_:sl ac 62 = .bool false:=hpost 12 (by decide +kernel) rfl;rw[hag.lay];simp only[lay,List.foldl_cons,List.foldl_nil,List.setIfInBounds_toArray,List.set_cons_zero,List.set_cons_succ,z62_];have HEX:=Hd hext;clear hag hpost hext z62_;unfold seqTail;go_wp2_with fail;exact⟨⟨i+1,by first | rfl | simp | rw[hwi],LT.out,XR.out.trans (X2.out.trans HEX.out)⟩,by simp only[intOf];have:=LT.out;omega⟩
   case true =>
    refine wp_region_tail [50,51,52,53,54,55,56,57,58,59,60,61,62] [] (fun ix__=>([Sx.val (.pointer (some ⟨b2,0,none⟩)),Sx.val (.slice rp rn rc),Sx.val (.bool true),Sx.val (.pointer (some ⟨b2,1,none⟩)),Sx.val (.bool true),Sx.val (.bool false),Sx.val (.bool false),Sx.val (.pointer (some ⟨b2,0,none⟩)),Sx.val (.slice rp rn rc),Sx.massO,Sx.val (.bool true),Sx.val (.bool false),Sx.val (.bool false)]:List Sx).getD ix__ (Sx.val undef)) (by kernel_rfl) (by kernel_rfl) ?hs ?ht
    case hs =>
     refine⟨?_,?_,?_,?_,?_,?_,?_,?_,?_,?_,?_,?_,?_,trivial⟩
     ·refine XStep.op rfl fun ac wk hp K hK=>?_;have t2_:ac.tmps[2]?.getD undef = .pointer (some ⟨b2,0,none⟩):=hp.slot 2 rfl rfl;clear hp;go_simp;exact hK.out _ _ rfl eR
     ·refine XStep.op rfl fun ac wk hp K hK=>?_;have t50_:=hp.v 0;have q0:=((PB0.out).ext hp.ext).1;clear hp;go_simp;exact hK.out _ _ rfl eR
     ·refine XStep.op rfl fun ac wk hp K hK=>?_;have t51_:=hp.v 1;have xe:=Hd hp.ext;clear hp;go_simp;refine (HMAY.out _ xe.out).mono ?_;rintro e wk' ⟨rfl,ix⟩;exact hK.out _ _ rfl ix
     ·refine XStep.op rfl fun ac wk hp K hK=>?_;have t2_:ac.tmps[2]?.getD undef = .pointer (some ⟨b2,0,none⟩):=hp.slot 2 rfl rfl;clear hp;go_simp;exact hK.out _ _ rfl eR
     ·refine XStep.op rfl fun ac wk hp K hK=>?_;have t53_:=hp.v 3;have q0:=((PB1.out).ext hp.ext).1;clear hp;go_simp;exact hK.out _ _ rfl eR
     ·refine XStep.op rfl fun ac wk hp K hK=>?_;have t52_:=hp.v 2;have t54_:=hp.v 4;clear hp;go_simp;exact hK.out _ _ (by first | rfl | (apply congrArg Value.bool;simp;done) | (apply congrArg Value.bool;simp;omega) | (simp [*];done)) eR
     ·refine XStep.op rfl fun ac wk hp K hK=>?_;have t55_:=hp.v 5;clear hp;go_simp;exact hK.out _ _ rfl eR
     ·refine XStep.yes 6 false rfl (by decide +kernel) rfl rfl fun ac wk hp K hK=>?_;have t2_:ac.tmps[2]?.getD undef = .pointer (some ⟨b2,0,none⟩):=hp.slot 2 rfl rfl;clear hp;go_simp;exact hK.out _ _ rfl eR
     ·refine XStep.yes 6 false rfl (by decide +kernel) rfl rfl fun ac wk hp K hK=>?_;have t57_:=hp.v 7;have q0:=((PB0.out).ext hp.ext).1;clear hp;go_simp;exact hK.out _ _ rfl eR
     ·refine XStep.yes 6 false rfl (by decide +kernel) rfl rfl fun ac wk hp K hK=>?_;have t58_:=hp.v 8;have xe:=Hd hp.ext;clear hp;go_simp;refine (HOF.out _ xe.out).mono ?_;rintro e wk' ⟨v9,o9,rfl,q1,q2,q3,ix⟩;obtain⟨p9,c9,rfl⟩:=q3.shape;exact hK.out _ _ ⟨p9,_,c9,rfl,o9,q1,q2,q3⟩ ix
     ·refine XStep.yes 6 false rfl (by decide +kernel) rfl rfl fun ac wk hp K hK=>?_;obtain⟨f59p,f59n,f59c,f59e,f59x⟩:=hp.g 9;obtain⟨f59o,f59m,f59l,f59s⟩:=f59x;have t59_:ac.tmps[59]?.getD undef = .slice f59p f59n f59c:=slot_is' f59e;have xe:=Hd hp.ext;clear hp f59e;go_simp;refine (mayM_calls f59s f59m (K:=241) (by decide) (by decide) f59l).mono ?_;rintro e wk' ⟨rfl,ix⟩;exact hK.out _ _ rfl ix
     ·refine XStep.yes 6 false rfl (by decide +kernel) rfl rfl fun ac wk hp K hK=>?_;have t60_:=hp.v 10;clear hp;go_simp;exact hK.out _ _ rfl eR
     ·refine XStep.op rfl fun ac wk hp K hK=>?_;have t56_:=hp.v 6;have t61_:=hp.v 11;clear hp;go_simp;exact hK.out _ _ rfl eR
    case ht =>
     intro ac v2 hag hext hpost;have z62_:sl ac 62 = .bool false:=hpost 12 (by decide +kernel) rfl;rw[hag.lay];simp only[lay,List.foldl_cons,List.foldl_nil,List.setIfInBounds_toArray,List.set_cons_zero,List.set_cons_succ,z62_];have HEX:=Hd hext;clear hag hpost hext z62_;unfold seqTail;go_wp2_with fail;exact⟨⟨i+1,by first | rfl | simp | rw[hwi],LT.out,XR.out.trans (X2.out.trans HEX.out)⟩,by simp only[intOf];have:=LT.out;omega⟩
  ·have hli:¬ (i:Int)<9:=by omega
   clear hi hlt;go_wp2_with fail
   obtain⟨b3,hb3⟩:∃ s,wr.heap.size=s:=⟨_,rfl⟩
   obtain⟨b4,hb4⟩:∃ s,b3+1=s:=⟨_,rfl⟩
   obtain⟨W9,hW9⟩:∃ X,X=((wr.alloc (.cells #[.int .u8 0,.int .i64 3,.slice none 0 0] 29)).alloc (.cells #[.int .u8 0,.int .i64 4,.slice none 0 0] 29)):=⟨_,rfl⟩
   have X9:Hid (Ext wr W9):=by rw[hW9];exact (eR.alloc _).alloc _
   have PO0:Hid (At b3 0 (.int .u8 0) W9):=by rw[hW9,←hb3];exact (at_new rfl).ext (eR.alloc _)
   have PO1:Hid (At b3 1 (.int .i64 3) W9):=by rw[hW9,←hb3];exact (at_new rfl).ext (eR.alloc _)
   have PO2:Hid (At b3 2 (.slice none 0 0) W9):=by rw[hW9,←hb3];exact (at_new rfl).ext (eR.alloc _)
   have PE0:Hid (At b4 0 (.int .u8 0) W9):=by rw[hW9,←hb4,←hb3];exact At.n1 rfl
   have PE1:Hid (At b4 1 (.int .i64 4) W9):=by rw[hW9,←hb4,←hb3];exact At.n1 rfl
   have PE2:Hid (At b4 2 (.slice none 0 0) W9):=by rw[hW9,←hb4,←hb3];exact At.n1 rfl
   rw[hb3,hb4,←hW9];clear hW9 hb3 hb4;refine wp_region_tail [66,67,68,69,70,71,72,73] [8] (fun ix__=>([Sx.val (.agg #[.int .u8 0,.int .i64 3,.slice none 0 0]),Sx.ownR (mkRat 1 3),Sx.shO (.mk 0 3 []) (mkRat 1 3),Sx.val (.agg #[.int .u8 0,.int .i64 4,.slice none 0 0]),Sx.ownR (mkRat 1 3),Sx.shO (.mk 0 4 []) (mkRat 1 3),Sx.lit2 [((.mk 0 3 []:VT),mkRat 1 3),((.mk 0 4 []:VT),mkRat 1 3)],Sx.odd1]:List Sx).getD ix__ (Sx.val undef)) (by kernel_rfl) (by kernel_rfl) ?hs ?ht
   case hs =>
    refine⟨?_,?_,?_,?_,?_,?_,?_,?_,fun _ => .inl rfl,trivial⟩
    ·refine XStep.op rfl fun ac wk hp K hK=>?_;have t3_:ac.tmps[3]?.getD undef = .pointer (some ⟨b3,0,none⟩):=hp.slot 3 rfl rfl;have q0:=((PO0.out).ext hp.ext).1;have q1:=((PO1.out).ext hp.ext).1;have q2:=((PO2.out).ext hp.ext).1;clear hp;go_simp;exact hK.out _ _ rfl eR
    ·refine XStep.op rfl fun ac wk hp K hK=>?_;have xe:=Hd hp.ext;clear hp;go_simp;refine (over_calls _ 1 3 (by decide) (by decide) (by decide) (q:=mkRat 1 3) (by decide +kernel)).mono ?_;rintro e wk' ⟨sb,sv,su,sm,sd,rfl,e1,o1,ix⟩;obtain⟨sp1,sl1,sc1,tp1,tl1,tc1,rfl,rfl⟩:=e1.slice;obtain⟨y1,y2,y3,y4,y5⟩:=e1;exact hK.out _ _ ⟨_,_,_,_,_,_,_,rfl,y1,by rw[y2];exact o1.1.mono (Nat.zero_le _),by rw[y3];exact o1.2.mono (Nat.zero_le _)⟩ ix
    ·refine XStep.op rfl fun ac wk hp K hK=>?_;have t66_:=hp.v 0;obtain⟨f67s,f67q,f67a,f67b,f67r,f67c,f67d,f67e,f67h,f67m,f67l⟩:=hp.g 1;have t67_:ac.tmps[67]?.getD undef = .agg #[.bool f67s,.slice f67q f67a f67b,.slice f67r f67c f67d]:=slot_is' f67e;have xe:=Hd hp.ext;clear hp f67e;go_simp;exact hK.out _ _ ⟨0,_,_,_,_,_,_,_,_,_,_,_,rfl,0,_,_,_,_,_,_,_,_,_,_,_,rfl,owV_zero 3 wk,f67h,f67m,f67l⟩ eR
    ·refine XStep.op rfl fun ac wk hp K hK=>?_;have t4_:ac.tmps[4]?.getD undef = .pointer (some ⟨b4,0,none⟩):=hp.slot 4 rfl rfl;have q0:=((PE0.out).ext hp.ext).1;have q1:=((PE1.out).ext hp.ext).1;have q2:=((PE2.out).ext hp.ext).1;clear hp;go_simp;exact hK.out _ _ rfl eR
    ·refine XStep.op rfl fun ac wk hp K hK=>?_;have xe:=Hd hp.ext;clear hp;go_simp;refine (over_calls _ 1 3 (by decide) (by decide) (by decide) (q:=mkRat 1 3) (by decide +kernel)).mono ?_;rintro e wk' ⟨sb,sv,su,sm,sd,rfl,e1,o1,ix⟩;obtain⟨sp1,sl1,sc1,tp1,tl1,tc1,rfl,rfl⟩:=e1.slice;obtain⟨y1,y2,y3,y4,y5⟩:=e1;exact hK.out _ _ ⟨_,_,_,_,_,_,_,rfl,y1,by rw[y2];exact o1.1.mono (Nat.zero_le _),by rw[y3];exact o1.2.mono (Nat.zero_le _)⟩ ix
    ·refine XStep.op rfl fun ac wk hp K hK=>?_;have t69_:=hp.v 3;obtain⟨f70s,f70q,f70a,f70b,f70r,f70c,f70d,f70e,f70h,f70m,f70l⟩:=hp.g 4;have t70_:ac.tmps[70]?.getD undef = .agg #[.bool f70s,.slice f70q f70a f70b,.slice f70r f70c f70d]:=slot_is' f70e;have xe:=Hd hp.ext;clear hp f70e;go_simp;exact hK.out _ _ ⟨0,_,_,_,_,_,_,_,_,_,_,_,rfl,0,_,_,_,_,_,_,_,_,_,_,_,rfl,owV_zero 4 wk,f70h,f70m,f70l⟩ eR
    ·refine XStep.op rfl fun ac wk hp K hK=>?_;obtain⟨f68k,f68n,f68q,f68a,f68b,f68s,f68r,f68c,f68d,f68u,f68g,f68h,f68e,f68o⟩:=hp.g 2;have t68_:ac.tmps[68]?.getD undef = .agg #[.int .u8 (f68k:Int),.int .i64 f68n,.slice f68q f68a f68b,.bool f68s,.slice f68r f68c f68d,.slice f68u f68g f68h]:=slot_is' f68e;obtain⟨f71k,f71n,f71q,f71a,f71b,f71s,f71r,f71c,f71d,f71u,f71g,f71h,f71e,f71o⟩:=hp.g 5;have t71_:ac.tmps[71]?.getD undef = .agg #[.int .u8 (f71k:Int),.int .i64 f71n,.slice f71q f71a f71b,.bool f71s,.slice f71r f71c f71d,.slice f71u f71g f71h]:=slot_is' f71e;have xe:=Hd hp.ext;clear hp f68e f71e;go_simp;exact hK.out _ _ ⟨_,rfl,slS_lit (R:=[([.int .u8 (f68k:Int),.int .i64 f68n,.slice f68q f68a f68b,.bool f68s,.slice f68r f68c f68d,.slice f68u f68g f68h],_),([.int .u8 (f71k:Int),.int .i64 f71n,.slice f71q f71a f71b,.bool f71s,.slice f71r f71c f71d,.slice f71u f71g f71h],_)]) rfl (fun e he=>by simp only[List.mem_cons,List.not_mem_nil,or_false]at he;rcases he with rfl | rfl;exact f68o;exact f71o) 2 rfl (by decide)⟩ (eR.alloc _)
    ·refine XStep.op rfl fun ac wk hp K hK=>?_;obtain⟨f72s,f72e,f72x⟩:=hp.g 6;rw[f72e]at f72x;have t72_:ac.tmps[72]?.getD undef = .slice (some ⟨f72s,0,none⟩) 2 2:=slot_is' f72e;have xe:=Hd hp.ext;clear hp f72e;go_simp;refine (ofM_calls f72x (D:=3) (X:=1) (k:=1) (K:=1) (by decide) (by decide) (fun a ha=>by simp only[List.mem_cons,List.not_mem_nil,or_false]at ha;rcases ha with rfl | rfl <;> exact lenR_of (by decide +kernel) (by decide)) (by decide) (fun a ha=>by simp only[List.mem_cons,List.not_mem_nil,or_false]at ha;rcases ha with rfl | rfl <;> simp [szV,szVs]) (fun a ha=>by simp only[List.mem_cons,List.not_mem_nil,or_false]at ha;rcases ha with rfl | rfl <;> exact⟨1,by decide +kernel,by decide⟩) (by decide) (by rw[Nat.pow_one];exact small_Bs (by decide)) (by rw[Nat.pow_one];exact small_Bs (by decide)) (by decide) (by decide)).mono ?_;rintro e wk' ⟨v9,o9,rfl,hg,hs,ix⟩;obtain rfl:=gO hg;obtain⟨p9,c9,rfl⟩:=hs.shape;exact hK.out _ _ ⟨p9,c9,rfl,hs⟩ ix
   case ht =>
    intro ac v2 hag hext hpost;obtain⟨f73p,f73c,f73e,f73s⟩:=hpost 7 (by decide +kernel) rfl;have z73_:sl ac 73 = .slice f73p 1 f73c:=f73e;rw[hag.lay];simp only[lay,List.foldl_cons,List.foldl_nil,List.setIfInBounds_toArray,List.set_cons_zero,List.set_cons_succ,z73_];have HEX:=Hd hext;clear hag hpost hext z73_ f73e;refine seqTail.op rfl rfl (fun K hK=>?_);have HK3:=Hd hK;clear hK;go_simp;refine HK3.out _ _ ?_;clear HK3
    show seqTail _ _ _ [] _ _
    unfold seqTail;obtain⟨p5,c5,hs5,h5l,h5c,h5n,hel5⟩:=f73s
    injection hs5 with hp5 hl5_ hc5
    clear hl5_;subst hp5 hc5;obtain⟨bl5,off5,cs5,hp5,hra5,hat5⟩:=hel5 0 _ rfl;subst hp5;obtain⟨vk5,vn5,vp5,vx5,vy5,q5,m5,d5,r5,e5,g5,rfl,hv5,hla5,hld5⟩:=hra5;have HV5:=Hd hv5;have HA5:=Hd hla5;have HD5:=Hd hld5
    obtain⟨sg5,hsg5⟩:∃ b,(raPt ((.mk 0 3 []:VT),mkRat 2 3)).2.1=b:=⟨_,rfl⟩
    rw[hsg5]at hat5;have HSG5:=Hd hsg5;have Q50:=Hd (hat5 0 _ rfl);have Q51:=Hd (hat5 1 _ rfl);have Q52:=Hd (hat5 2 _ rfl);have Q53:=Hd (hat5 3 _ rfl);have Q54:=Hd (hat5 4 _ rfl);have Q55:=Hd (hat5 5 _ rfl);rw[Nat.add_zero]at Q50;have XA:=Hd (X9.out.trans HEX.out);clear hat5 hsg5 hv5 hla5 hld5 hel5 h5n h5l h5c X9;have PA0:=Hd (PO0.out.ext HEX.out);have PA1:=Hd (PO1.out.ext HEX.out);have PA2:=Hd (PO2.out.ext HEX.out);clear PO0 PO1 PO2 PE0 PE1 PE2 HEX;clear HRT XT8
    generalize sl ac 66=y66
    generalize sl ac 67=y67
    generalize sl ac 68=y68
    generalize sl ac 69=y69
    generalize sl ac 70=y70
    generalize sl ac 71=y71
    generalize sl ac 72=y72
    go_wp2_with fail;refine (num_calls _ 5).mono ?_;rintro z wz1 ⟨rfl,hx⟩;have Y1:Hid (Ext v2 wz1):=hx;clear hx;go_wp2_with fail
    have R9:Hid (SlS (((wz1.alloc (.cells #[.int .u64 2,.int .u64 0] 53)).alloc (.cells #[.int .u64 4] 53)).alloc (.cells #[.int .u8 1,.int .i64 5,.slice none 0 0,.bool false,.slice (some ⟨wz1.heap.size,0,none⟩) 2 2,.slice (some ⟨wz1.heap.size+1,0,none⟩) 1 1] 47)) (.slice (some ⟨wz1.heap.size+1+1,0,none⟩) 1 1) [((nm 5,false,[2,0],[4]):Ra)]) :=
     raw_lit (k:=1) (nn:=5) (p:=none) (x:=0) (y:=0) (isV_nm _ 5 (by decide)) ((lit_n0 [2,0] (by simp) rfl 2 rfl (by decide)).ext (eR.alloc _)) (lit_n1 [4] (by simp) rfl 1 rfl (by decide)) (by rw[size_alloc,size_alloc])
    have hq9:qRa (nm 5,false,[2,0],[4])=mkRat 1 2:=by unfold qRa;simp only[iv,val];decide +kernel
    refine (of_calls24 R9.out (D:=2) (X:=1) (k:=1) (K:=6) (by decide) (by decide) (fun a ha=>by simp only[List.mem_cons,List.not_mem_nil,or_false]at ha;subst ha;exact⟨by simp,by simp⟩) (by simp) (fun a ha=>by simp only[List.mem_cons,List.not_mem_nil,or_false]at ha;subst ha;rw[szV_nm];decide) (fun a ha=>by simp only[List.map_cons,List.map_nil,List.mem_cons,List.not_mem_nil,or_false]at ha;subst ha;show Dn 2 1 (qRa (nm 5,false,[2,0],[4]));rw[hq9];exact⟨1,by decide +kernel,by decide⟩) (by decide) (by rw[Nat.pow_one];exact small_Bs (by decide)) (by rw[Nat.pow_one];exact small_Bs (by decide)) (by decide) (by decide)).mono ?_;rintro z wz2 ⟨v6,out6_,rfl,hg,hs,hx⟩;have Y2:Hid (Ext wz1 wz2):=(((eR.alloc _).alloc _).alloc _).trans hx;clear hx
    have hg:Gath [(nm 5,mkRat 1 2)] out6_:=by
     have h:=hg;simp only[List.map_cons,List.map_nil,ptRa,hq9]at h;exact h
    obtain rfl:=g1 _ _ (by decide +kernel) hg;have H6:Hid (SlM wz2 v6 [(nm 5,mkRat 1 2)]):=hs;clear hg hs hq9 R9;go_wp2_with fail;refine (share_calls _ 1 1 2 (by decide) (by decide) (by decide) (by decide) (q:=mkRat 1 2) (by decide +kernel)).mono ?_;rintro z wz3 ⟨k10,n10,p10,a10,b10,s10,r10,c10,d10,u10,e10,f10,rfl,he,hx⟩;have Y3:Hid (Ext wz2 wz3):=hx;clear hx he;go_wp2_with fail
    obtain⟨b7,hb7⟩:∃ s,wz3.heap.size=s:=⟨_,rfl⟩
    obtain⟨WD,hWD⟩:∃ X,X=wz3.alloc (.cells #[.int .u8 (k10:Int),.int .i64 n10,.slice p10 a10 b10,.bool s10,.slice r10 c10 d10,.slice u10 e10 f10] 47):=⟨_,rfl⟩
    have YD:Hid (Ext wz3 WD):=by rw[hWD];exact eR.alloc _
    rw[hb7,←hWD];clear hWD hb7;have YA:Hid (Ext v2 WD):=Hd ((Y1.out.trans (Y2.out.trans Y3.out)).trans YD.out);have D50:=Hd (Q50.out.ext YA.out);have D51:=Hd (Q51.out.ext YA.out);have D52:=Hd (Q52.out.ext YA.out);have D53:=Hd (Q53.out.ext YA.out);have D54:=Hd (Q54.out.ext YA.out);have D55:=Hd (Q55.out.ext YA.out);have DA0:=Hd (PA0.out.ext YA.out);have DA1:=Hd (PA1.out.ext YA.out);have DA2:=Hd (PA2.out.ext YA.out);clear Q50 Q51 Q52 Q53 Q54 Q55 PA0 PA1 PA2
    have HSV:Hid (∀ X,Ext WD X→Calls Tryz.prog 23 #[.agg #[.int .u8 (vk5:Int),.int .i64 vn5,.slice vp5 vx5 vy5],.agg #[.int .u8 0,.int .i64 3,.slice none 0 0]] X fun e w'=>e = .returned (.bool true)∧Ext X w'):=fun X hX=>by
     have h:=rvsame_calls _ X _ _ _ (HV5.out.ext (YA.out.trans hX)) ((owV_zero 3 X).isV);rw[show sameV (raPt ((.mk 0 3 []:VT),mkRat 2 3)).1 (.mk 0 (3:Nat) [])=true from sameV_refl _]at h;exact h
    have HRS:Hid (∀ X,Ext WD X→Calls Tryz.prog 15 #[.agg #[.bool sg5,.slice q5 m5 d5,.slice r5 e5 g5]] X fun e w'=>e = .returned (.string ⟨#[50,47,51]⟩)∧Ext X w'):=fun X hX=>by
     have HI5:InR X sg5 (.slice q5 m5 d5) (.slice r5 e5 g5) 1 (mkRat 2 3):=⟨_,_,HA5.out.ext (YA.out.trans hX),HD5.out.ext (YA.out.trans hX),by rw[←HSG5.out];exact qRa_pt _,dig_len_le (lenR_of (q:=mkRat 2 3) (k:=1) (by decide +kernel) (by decide)).1,dig_len_le (lenR_of (q:=mkRat 2 3) (k:=1) (by decide +kernel) (by decide)).2,by decide⟩
     exact rshow_is HI5 (by decide) ⟨#[50,47,51]⟩ (showR_of (by decide +kernel) (by decide +kernel))
    have H6D:Hid (SlM WD v6 [(nm 5,mkRat 1 2)]):=Hd (H6.out.ext (Y3.out.trans YD.out))
    refine wp_region_tail [84,85,86,87,88,89,90,91,92,93,94,95,96,97,98,99,100,101,102,103,104,105,106,107,108,109,110,111,112,113,114,115,116,117,118,119,120,121,122,123,124,125,126,127,128,129,130,131,132,133,134,135,136,137,138,139,140,141,142,143,144,145,146,147,148,149,150,151,152,153,154,155,156,157,158] [75] (fun ix__=>([Sx.val (.slice (some ⟨bl5,off5,none⟩) 1 f73c),Sx.val (.int .i64 1),Sx.val (.bool true),Sx.val (.bool true),Sx.val (.slice (some ⟨bl5,off5,none⟩) 1 f73c),Sx.val (.pointer (some ⟨bl5,off5,none⟩)),Sx.val (.pointer (some ⟨bl5,off5,none⟩)),Sx.val (.agg #[.int .u8 (vk5:Int),.int .i64 vn5,.slice vp5 vx5 vy5]),Sx.val (.agg #[.int .u8 0,.int .i64 3,.slice none 0 0]),Sx.val (.bool true),Sx.val (.bool true),Sx.val (.bool true),Sx.val (.slice (some ⟨bl5,off5,none⟩) 1 f73c),Sx.val (.pointer (some ⟨bl5,off5,none⟩)),Sx.val (.pointer (some ⟨bl5,off5+3,none⟩)),Sx.val (.agg #[.bool sg5,.slice q5 m5 d5,.slice r5 e5 g5]),Sx.val (.string ⟨#[50,47,51]⟩),Sx.val (.bool true),Sx.val (.bool true),Sx.val (.bool true),Sx.val (v6),Sx.shO (nm 5) (mkRat 1 2),Sx.lit1 [(nm 5,mkRat 1 2)],Sx.val (.bool true),Sx.val (.bool true),Sx.val (.bool true),Sx.val (.slice (some ⟨b7,0,none⟩) 1 1),Sx.val (.slice none 0 0),Sx.val (.int .i64 0),Sx.val (.bool true),Sx.val (.bool true),Sx.val (.bool true),Sx.val (.slice (some ⟨b7,0,none⟩) 1 1),Sx.val (.slice none 0 0),Sx.val (.int .i64 0),Sx.val (.bool true),Sx.val (.bool true),Sx.val (.bool true),Sx.val (.slice (some ⟨b7,0,none⟩) 1 1),Sx.val (.slice (some ⟨b7,0,none⟩) 1 1),Sx.val (.slice none 0 0),Sx.val (.int .i64 0),Sx.val (.bool true),Sx.val (.bool true),Sx.val (.bool true),Sx.nilM,Sx.val (.int .i64 0),Sx.val (.bool true),Sx.val (.bool true),Sx.val (.bool true),Sx.nilM,Sx.val (.int .i64 0),Sx.val (.bool true),Sx.val (.bool true),Sx.val (.bool true),Sx.inR 0,Sx.val (.string ⟨#[48]⟩),Sx.val (.bool true),Sx.val (.bool true),Sx.val (.bool true),Sx.val (.agg #[.int .u8 1,.int .i64 7,.slice none 0 0]),Sx.isM [(nm 7,mkRat 1 1)],Sx.shO (nm 7) (mkRat 1 1),Sx.lit1 [(nm 7,mkRat 1 1)],Sx.val (.bool true),Sx.val (.bool true),Sx.val (.bool true),Sx.val (.slice (some ⟨b7,0,none⟩) 1 1),Sx.val (.bool false),Sx.val (.bool true),Sx.val (.bool true),Sx.val (.bool true),Sx.nilM,Sx.val (.bool true),Sx.val (.bool true)]:List Sx).getD ix__ (Sx.val undef)) (by kernel_rfl) (by kernel_rfl) ?hs ?ht
    case hs =>
     refine⟨?_,?_,?_,?_,?_,?_,?_,?_,?_,?_,?_,?_,?_,?_,?_,?_,?_,?_,?_,?_,?_,?_,?_,?_,?_,?_,?_,?_,?_,?_,?_,?_,?_,?_,?_,?_,?_,?_,?_,?_,?_,?_,?_,?_,?_,?_,?_,?_,?_,?_,?_,?_,?_,?_,?_,?_,?_,?_,?_,?_,?_,?_,?_,?_,?_,?_,?_,?_,?_,?_,?_,?_,?_,?_,?_,fun _ => .inl rfl,trivial⟩
     ·refine XStep.op rfl fun ac wk hp K hK=>?_;have t5_:ac.tmps[5]?.getD undef = .slice (some ⟨bl5,off5,none⟩) 1 f73c:=hp.slot 5 rfl rfl;clear hp;go_simp;exact hK.out _ _ rfl eR
     ·refine XStep.op rfl fun ac wk hp K hK=>?_;have t84_:=hp.v 0;have xe:=Hd hp.ext;clear hp;go_simp;exact hK.out _ _ rfl eR
     ·refine XStep.op rfl fun ac wk hp K hK=>?_;have t85_:=hp.v 1;clear hp;go_simp;exact hK.out _ _ (by first | rfl | (apply congrArg Value.bool;simp;done) | (apply congrArg Value.bool;simp;omega) | (simp [*];done)) eR
     ·refine XStep.op rfl fun ac wk hp K hK=>?_;have t86_:=hp.v 2;clear hp;go_simp;exact hK.out _ _ rfl eR
     ·refine XStep.yes 3 true rfl (by decide +kernel) rfl rfl fun ac wk hp K hK=>?_;have t5_:ac.tmps[5]?.getD undef = .slice (some ⟨bl5,off5,none⟩) 1 f73c:=hp.slot 5 rfl rfl;clear hp;go_simp;exact hK.out _ _ rfl eR
     ·refine XStep.yes 3 true rfl (by decide +kernel) rfl rfl fun ac wk hp K hK=>?_;have t88_:=hp.v 4;clear hp;go_simp;exact hK.out _ _ (by first | rfl | (apply congrArg Value.bool;simp;done) | (apply congrArg Value.bool;simp;omega) | (simp [*];done)) eR
     ·refine XStep.yes 3 true rfl (by decide +kernel) rfl rfl fun ac wk hp K hK=>?_;have t89_:=hp.v 5;clear hp;go_simp;exact hK.out _ _ rfl eR
     ·refine XStep.yes 3 true rfl (by decide +kernel) rfl rfl fun ac wk hp K hK=>?_;have t90_:=hp.v 6;have q0:=((D50.out).ext hp.ext).1;have q1:=((D51.out).ext hp.ext).1;have q2:=((D52.out).ext hp.ext).1;clear hp;go_simp;exact hK.out _ _ rfl eR
     ·refine XStep.yes 3 true rfl (by decide +kernel) rfl rfl fun ac wk hp K hK=>?_;have t3_:ac.tmps[3]?.getD undef = .pointer (some ⟨b3,0,none⟩):=hp.slot 3 rfl rfl;have q0:=((DA0.out).ext hp.ext).1;have q1:=((DA1.out).ext hp.ext).1;have q2:=((DA2.out).ext hp.ext).1;clear hp;go_simp;exact hK.out _ _ rfl eR
     ·refine XStep.yes 3 true rfl (by decide +kernel) rfl rfl fun ac wk hp K hK=>?_;have t91_:=hp.v 7;have t92_:=hp.v 8;have xe:=Hd hp.ext;clear hp;go_simp;refine (HSV.out _ xe.out).mono ?_;rintro e wk' ⟨rfl,ix⟩;exact hK.out _ _ rfl ix
     ·refine XStep.op rfl fun ac wk hp K hK=>?_;have t87_:=hp.v 3;have t93_:=hp.v 9;clear hp;go_simp;exact hK.out _ _ rfl eR
     ·refine XStep.op rfl fun ac wk hp K hK=>?_;have t94_:=hp.v 10;clear hp;go_simp;exact hK.out _ _ rfl eR
     ·refine XStep.yes 11 true rfl (by decide +kernel) rfl rfl fun ac wk hp K hK=>?_;have t5_:ac.tmps[5]?.getD undef = .slice (some ⟨bl5,off5,none⟩) 1 f73c:=hp.slot 5 rfl rfl;clear hp;go_simp;exact hK.out _ _ rfl eR
     ·refine XStep.yes 11 true rfl (by decide +kernel) rfl rfl fun ac wk hp K hK=>?_;have t96_:=hp.v 12;clear hp;go_simp;exact hK.out _ _ (by first | rfl | (apply congrArg Value.bool;simp;done) | (apply congrArg Value.bool;simp;omega) | (simp [*];done)) eR
     ·refine XStep.yes 11 true rfl (by decide +kernel) rfl rfl fun ac wk hp K hK=>?_;have t97_:=hp.v 13;clear hp;go_simp;exact hK.out _ _ rfl eR
     ·refine XStep.yes 11 true rfl (by decide +kernel) rfl rfl fun ac wk hp K hK=>?_;have t98_:=hp.v 14;have q0:=((D53.out).ext hp.ext).1;have q1:=((D54.out).ext hp.ext).1;have q2:=((D55.out).ext hp.ext).1;clear hp;go_simp;exact hK.out _ _ rfl eR
     ·refine XStep.yes 11 true rfl (by decide +kernel) rfl rfl fun ac wk hp K hK=>?_;have t99_:=hp.v 15;have xe:=Hd hp.ext;clear hp;go_simp;refine (HRS.out _ xe.out).mono ?_;rintro e wk' ⟨rfl,ix⟩;exact hK.out _ _ rfl ix
     ·refine XStep.yes 11 true rfl (by decide +kernel) rfl rfl fun ac wk hp K hK=>?_;have t100_:=hp.v 16;clear hp;go_simp;exact hK.out _ _ (by first | rfl | (apply congrArg Value.bool;simp;done) | (apply congrArg Value.bool;simp;omega) | (simp [*];done)) eR
     ·refine XStep.op rfl fun ac wk hp K hK=>?_;have t95_:=hp.v 11;have t101_:=hp.v 17;clear hp;go_simp;exact hK.out _ _ rfl eR
     ·refine XStep.op rfl fun ac wk hp K hK=>?_;have t102_:=hp.v 18;clear hp;go_simp;exact hK.out _ _ rfl eR
     ·refine XStep.yes 19 true rfl (by decide +kernel) rfl rfl fun ac wk hp K hK=>?_;have t6_:ac.tmps[6]?.getD undef=v6:=hp.slot 6 rfl rfl;clear hp;go_simp;exact hK.out _ _ rfl eR
     ·refine XStep.yes 19 true rfl (by decide +kernel) rfl rfl fun ac wk hp K hK=>?_;have xe:=Hd hp.ext;clear hp;go_simp;refine (share_calls _ 5 1 2 (by decide) (by decide) (by decide) (by decide) (q:=mkRat 1 2) (by decide +kernel)).mono ?_;rintro e wk' ⟨_,_,_,_,_,_,_,_,_,_,_,_,rfl,he,ix⟩;exact hK.out _ _ ⟨_,_,_,_,_,_,_,_,_,_,_,_,rfl,he⟩ ix
     ·refine XStep.yes 19 true rfl (by decide +kernel) rfl rfl fun ac wk hp K hK=>?_;obtain⟨f105k,f105n,f105q,f105a,f105b,f105s,f105r,f105c,f105d,f105u,f105g,f105h,f105e,f105o⟩:=hp.g 21;have t105_:ac.tmps[105]?.getD undef = .agg #[.int .u8 (f105k:Int),.int .i64 f105n,.slice f105q f105a f105b,.bool f105s,.slice f105r f105c f105d,.slice f105u f105g f105h]:=slot_is' f105e;have xe:=Hd hp.ext;clear hp f105e;go_simp;exact hK.out _ _ ⟨_,rfl,slS_lit (R:=[([.int .u8 (f105k:Int),.int .i64 f105n,.slice f105q f105a f105b,.bool f105s,.slice f105r f105c f105d,.slice f105u f105g f105h],_)]) rfl (fun e he=>by simp only[List.mem_cons,List.not_mem_nil,or_false]at he;subst he;exact f105o) 1 rfl (by decide)⟩ (eR.alloc _)
     ·refine XStep.yes 19 true rfl (by decide +kernel) rfl rfl fun ac wk hp K hK=>?_;have t104_:=hp.v 20;obtain⟨f106s,f106e,f106x⟩:=hp.g 22;rw[f106e]at f106x;have t106_:ac.tmps[106]?.getD undef = .slice (some ⟨f106s,0,none⟩) 1 1:=slot_is' f106e;have xe:=Hd hp.ext;clear hp f106e;go_simp;refine (isM_calls (H6D.out.ext xe.out) f106x rfl).mono ?_;rintro e wk' ⟨rfl,ix⟩;exact hK.out _ _ rfl ix
     ·refine XStep.op rfl fun ac wk hp K hK=>?_;have t103_:=hp.v 19;have t107_:=hp.v 23;clear hp;go_simp;exact hK.out _ _ rfl eR
     ·refine XStep.op rfl fun ac wk hp K hK=>?_;have t108_:=hp.v 24;clear hp;go_simp;exact hK.out _ _ rfl eR
     ·refine XStep.yes 25 true rfl (by decide +kernel) rfl rfl fun ac wk hp K hK=>?_;have t7_:ac.tmps[7]?.getD undef = .slice (some ⟨b7,0,none⟩) 1 1:=hp.slot 7 rfl rfl;clear hp;go_simp;exact hK.out _ _ rfl eR
     ·refine XStep.yes 25 true rfl (by decide +kernel) rfl rfl fun ac wk hp K hK=>?_;have t110_:=hp.v 26;have xe:=Hd hp.ext;clear hp;go_simp;refine (map_nil_calls _ _ _ _).mono ?_;rintro e wk' ⟨rfl,ix⟩;exact hK.out _ _ rfl ix
     ·refine XStep.yes 25 true rfl (by decide +kernel) rfl rfl fun ac wk hp K hK=>?_;have t111_:=hp.v 27;have xe:=Hd hp.ext;clear hp;go_simp;exact hK.out _ _ rfl eR
     ·refine XStep.yes 25 true rfl (by decide +kernel) rfl rfl fun ac wk hp K hK=>?_;have t112_:=hp.v 28;clear hp;go_simp;exact hK.out _ _ (by first | rfl | (apply congrArg Value.bool;simp;done) | (apply congrArg Value.bool;simp;omega) | (simp [*];done)) eR
     ·refine XStep.op rfl fun ac wk hp K hK=>?_;have t109_:=hp.v 25;have t113_:=hp.v 29;clear hp;go_simp;exact hK.out _ _ rfl eR
     ·refine XStep.op rfl fun ac wk hp K hK=>?_;have t114_:=hp.v 30;clear hp;go_simp;exact hK.out _ _ rfl eR
     ·refine XStep.yes 31 true rfl (by decide +kernel) rfl rfl fun ac wk hp K hK=>?_;have t7_:ac.tmps[7]?.getD undef = .slice (some ⟨b7,0,none⟩) 1 1:=hp.slot 7 rfl rfl;clear hp;go_simp;exact hK.out _ _ rfl eR
     ·refine XStep.yes 31 true rfl (by decide +kernel) rfl rfl fun ac wk hp K hK=>?_;have t116_:=hp.v 32;have xe:=Hd hp.ext;clear hp;go_simp;refine (keep_nil_calls _ _ _ _).mono ?_;rintro e wk' ⟨rfl,ix⟩;exact hK.out _ _ rfl ix
     ·refine XStep.yes 31 true rfl (by decide +kernel) rfl rfl fun ac wk hp K hK=>?_;have t117_:=hp.v 33;have xe:=Hd hp.ext;clear hp;go_simp;exact hK.out _ _ rfl eR
     ·refine XStep.yes 31 true rfl (by decide +kernel) rfl rfl fun ac wk hp K hK=>?_;have t118_:=hp.v 34;clear hp;go_simp;exact hK.out _ _ (by first | rfl | (apply congrArg Value.bool;simp;done) | (apply congrArg Value.bool;simp;omega) | (simp [*];done)) eR
     ·refine XStep.op rfl fun ac wk hp K hK=>?_;have t115_:=hp.v 31;have t119_:=hp.v 35;clear hp;go_simp;exact hK.out _ _ rfl eR
     ·refine XStep.op rfl fun ac wk hp K hK=>?_;have t120_:=hp.v 36;clear hp;go_simp;exact hK.out _ _ rfl eR
     ·refine XStep.yes 37 true rfl (by decide +kernel) rfl rfl fun ac wk hp K hK=>?_;have t7_:ac.tmps[7]?.getD undef = .slice (some ⟨b7,0,none⟩) 1 1:=hp.slot 7 rfl rfl;clear hp;go_simp;exact hK.out _ _ rfl eR
     ·refine XStep.yes 37 true rfl (by decide +kernel) rfl rfl fun ac wk hp K hK=>?_;have t7_:ac.tmps[7]?.getD undef = .slice (some ⟨b7,0,none⟩) 1 1:=hp.slot 7 rfl rfl;clear hp;go_simp;exact hK.out _ _ rfl eR
     ·refine XStep.yes 37 true rfl (by decide +kernel) rfl rfl fun ac wk hp K hK=>?_;have t122_:=hp.v 38;have t123_:=hp.v 39;have xe:=Hd hp.ext;clear hp;go_simp;refine (join_nil_calls _ _ _ _ _ _ _).mono ?_;rintro e wk' ⟨rfl,ix⟩;exact hK.out _ _ rfl ix
     ·refine XStep.yes 37 true rfl (by decide +kernel) rfl rfl fun ac wk hp K hK=>?_;have t124_:=hp.v 40;have xe:=Hd hp.ext;clear hp;go_simp;exact hK.out _ _ rfl eR
     ·refine XStep.yes 37 true rfl (by decide +kernel) rfl rfl fun ac wk hp K hK=>?_;have t125_:=hp.v 41;clear hp;go_simp;exact hK.out _ _ (by first | rfl | (apply congrArg Value.bool;simp;done) | (apply congrArg Value.bool;simp;omega) | (simp [*];done)) eR
     ·refine XStep.op rfl fun ac wk hp K hK=>?_;have t121_:=hp.v 37;have t126_:=hp.v 42;clear hp;go_simp;exact hK.out _ _ rfl eR
     ·refine XStep.op rfl fun ac wk hp K hK=>?_;have t127_:=hp.v 43;clear hp;go_simp;exact hK.out _ _ rfl eR
     ·refine XStep.yes 44 true rfl (by decide +kernel) rfl rfl fun ac wk hp K hK=>?_;have xe:=Hd hp.ext;clear hp;go_simp;refine (even_calls (Ts:=[]) ⟨[],⟨none,0,rfl,Nat.le_refl _,Nat.zero_le _,fun _=>rfl,fun i cs h=>by simp at h⟩,rfl,fun i cs t h=>by simp at h⟩ (by decide) (fun t ht=>by cases ht)).mono ?_;rintro e wk' ⟨v8,out8,rfl,hg,hs,ix⟩;obtain⟨p8,c8,rfl⟩:=hs.shape
      have h8:out8.length=0:=by have:=hg.len;simpa using this
      rw[h8];exact hK.out _ _ ⟨p8,c8,rfl⟩ ix
     ·refine XStep.yes 44 true rfl (by decide +kernel) rfl rfl fun ac wk hp K hK=>?_;obtain⟨f129p,f129c,f129e⟩:=hp.g 45;have t129_:ac.tmps[129]?.getD undef = .slice f129p 0 f129c:=slot_is' f129e;have xe:=Hd hp.ext;clear hp f129e;go_simp;exact hK.out _ _ rfl eR
     ·refine XStep.yes 44 true rfl (by decide +kernel) rfl rfl fun ac wk hp K hK=>?_;have t130_:=hp.v 46;clear hp;go_simp;exact hK.out _ _ (by first | rfl | (apply congrArg Value.bool;simp;done) | (apply congrArg Value.bool;simp;omega) | (simp [*];done)) eR
     ·refine XStep.op rfl fun ac wk hp K hK=>?_;have t128_:=hp.v 44;have t131_:=hp.v 47;clear hp;go_simp;exact hK.out _ _ rfl eR
     ·refine XStep.op rfl fun ac wk hp K hK=>?_;have t132_:=hp.v 48;clear hp;go_simp;exact hK.out _ _ rfl eR
     ·refine XStep.yes 49 true rfl (by decide +kernel) rfl rfl fun ac wk hp K hK=>?_;have xe:=Hd hp.ext;clear hp;go_simp;refine (of_calls24 (Ls:=[]) (SlS.nil _) (D:=1) (X:=0) (k:=1) (K:=1) (by decide) (by decide) (fun a ha=>by cases ha) (by decide) (fun a ha=>by cases ha) (fun a ha=>by cases ha) (by decide) (one_lt_pow (by decide)) (by simp;exact Bs_pos) (by decide) (by decide)).mono ?_;rintro e wk' ⟨v8,out8,rfl,hg,hs,ix⟩;obtain⟨p8,c8,rfl⟩:=hs.shape
      have h8:out8.length=0:=by have:=hg.len;simpa using this
      rw[h8];exact hK.out _ _ ⟨p8,c8,rfl⟩ ix
     ·refine XStep.yes 49 true rfl (by decide +kernel) rfl rfl fun ac wk hp K hK=>?_;obtain⟨f134p,f134c,f134e⟩:=hp.g 50;have t134_:ac.tmps[134]?.getD undef = .slice f134p 0 f134c:=slot_is' f134e;have xe:=Hd hp.ext;clear hp f134e;go_simp;exact hK.out _ _ rfl eR
     ·refine XStep.yes 49 true rfl (by decide +kernel) rfl rfl fun ac wk hp K hK=>?_;have t135_:=hp.v 51;clear hp;go_simp;exact hK.out _ _ (by first | rfl | (apply congrArg Value.bool;simp;done) | (apply congrArg Value.bool;simp;omega) | (simp [*];done)) eR
     ·refine XStep.op rfl fun ac wk hp K hK=>?_;have t133_:=hp.v 49;have t136_:=hp.v 52;clear hp;go_simp;exact hK.out _ _ rfl eR
     ·refine XStep.op rfl fun ac wk hp K hK=>?_;have t137_:=hp.v 53;clear hp;go_simp;exact hK.out _ _ rfl eR
     ·refine XStep.yes 54 true rfl (by decide +kernel) rfl rfl fun ac wk hp K hK=>?_;have xe:=Hd hp.ext;clear hp;go_simp;refine (totalM_calls (M:=[]) (SlS.nil _) (D:=1) (X:=0) (k:=1) (K:=1) (by decide) (one_lt_pow (by decide)) (by simp;exact Bs_pos) (by decide) (by decide) (fun a ha=>by cases ha) (by decide) (by decide) (fun a ha=>by cases ha)).mono ?_;rintro e wk' ⟨s9,p9,n9,c9,q9,m9,d9,rfl,e9,ix⟩;have e9:IsR _ s9 (.slice p9 n9 c9) (.slice q9 m9 d9) (0:Rat).num.natAbs (0:Rat).den 0:=e9;exact hK.out _ _ ⟨s9,p9,n9,c9,q9,m9,d9,rfl,e9.inR (k:=1) (lenR_of (by decide +kernel) (by decide))⟩ ix
     ·refine XStep.yes 54 true rfl (by decide +kernel) rfl rfl fun ac wk hp K hK=>?_;obtain⟨f139s,f139q,f139a,f139b,f139r,f139c,f139d,f139e,f139h⟩:=hp.g 55;have t139_:ac.tmps[139]?.getD undef = .agg #[.bool f139s,.slice f139q f139a f139b,.slice f139r f139c f139d]:=slot_is' f139e;have xe:=Hd hp.ext;clear hp f139e;go_simp;refine (rshow_is f139h (by decide) ⟨#[48]⟩ (showR_of (by decide +kernel) (by decide +kernel))).mono ?_;rintro e wk' ⟨rfl,ix⟩;exact hK.out _ _ rfl ix
     ·refine XStep.yes 54 true rfl (by decide +kernel) rfl rfl fun ac wk hp K hK=>?_;have t140_:=hp.v 56;clear hp;go_simp;exact hK.out _ _ (by first | rfl | (apply congrArg Value.bool;simp;done) | (apply congrArg Value.bool;simp;omega) | (simp [*];done)) eR
     ·refine XStep.op rfl fun ac wk hp K hK=>?_;have t138_:=hp.v 54;have t141_:=hp.v 57;clear hp;go_simp;exact hK.out _ _ rfl eR
     ·refine XStep.op rfl fun ac wk hp K hK=>?_;have t142_:=hp.v 58;clear hp;go_simp;exact hK.out _ _ rfl eR
     ·refine XStep.yes 59 true rfl (by decide +kernel) rfl rfl fun ac wk hp K hK=>?_;have xe:=Hd hp.ext;clear hp;go_simp;refine (num_calls _ 7).mono ?_;rintro e wk' ⟨rfl,ix⟩;exact hK.out _ _ rfl ix
     ·refine XStep.yes 59 true rfl (by decide +kernel) rfl rfl fun ac wk hp K hK=>?_;have t144_:=hp.v 60;have xe:=Hd hp.ext;clear hp;go_simp;refine (mone_calls (isV_nm _ 7 (by decide)) (by rw[szV_nm];decide)).mono ?_;rintro e wk' ⟨v8,out8,rfl,hg,hs,ix⟩
      have hg:Gath [(nm 7,mkRat 1 1)] out8:=by rw[show Rat.divInt 1 1=mkRat 1 1 by decide +kernel]at hg;exact hg
      obtain rfl:=g1 _ _ (by decide +kernel) hg;exact hK.out _ _ ⟨v8,rfl,hs⟩ ix
     ·refine XStep.yes 59 true rfl (by decide +kernel) rfl rfl fun ac wk hp K hK=>?_;have xe:=Hd hp.ext;clear hp;go_simp;refine (share_calls _ 7 1 1 (by decide) (by decide) (by decide) (by decide) (q:=mkRat 1 1) (by decide +kernel)).mono ?_;rintro e wk' ⟨_,_,_,_,_,_,_,_,_,_,_,_,rfl,he,ix⟩;exact hK.out _ _ ⟨_,_,_,_,_,_,_,_,_,_,_,_,rfl,he⟩ ix
     ·refine XStep.yes 59 true rfl (by decide +kernel) rfl rfl fun ac wk hp K hK=>?_;obtain⟨f146k,f146n,f146q,f146a,f146b,f146s,f146r,f146c,f146d,f146u,f146g,f146h,f146e,f146o⟩:=hp.g 62;have t146_:ac.tmps[146]?.getD undef = .agg #[.int .u8 (f146k:Int),.int .i64 f146n,.slice f146q f146a f146b,.bool f146s,.slice f146r f146c f146d,.slice f146u f146g f146h]:=slot_is' f146e;have xe:=Hd hp.ext;clear hp f146e;go_simp;exact hK.out _ _ ⟨_,rfl,slS_lit (R:=[([.int .u8 (f146k:Int),.int .i64 f146n,.slice f146q f146a f146b,.bool f146s,.slice f146r f146c f146d,.slice f146u f146g f146h],_)]) rfl (fun e he=>by simp only[List.mem_cons,List.not_mem_nil,or_false]at he;subst he;exact f146o) 1 rfl (by decide)⟩ (eR.alloc _)
     ·refine XStep.yes 59 true rfl (by decide +kernel) rfl rfl fun ac wk hp K hK=>?_;obtain⟨f145v,f145e,f145x⟩:=hp.g 61;have t145_:ac.tmps[145]?.getD undef=f145v:=slot_is' f145e;obtain⟨f147s,f147e,f147x⟩:=hp.g 63;rw[f147e]at f147x;have t147_:ac.tmps[147]?.getD undef = .slice (some ⟨f147s,0,none⟩) 1 1:=slot_is' f147e;have xe:=Hd hp.ext;clear hp f145e f147e;go_simp;refine (isM_calls f145x f147x rfl).mono ?_;rintro e wk' ⟨rfl,ix⟩;exact hK.out _ _ rfl ix
     ·refine XStep.op rfl fun ac wk hp K hK=>?_;have t143_:=hp.v 59;have t148_:=hp.v 64;clear hp;go_simp;exact hK.out _ _ rfl eR
     ·refine XStep.op rfl fun ac wk hp K hK=>?_;have t149_:=hp.v 65;clear hp;go_simp;exact hK.out _ _ rfl eR
     ·refine XStep.yes 66 true rfl (by decide +kernel) rfl rfl fun ac wk hp K hK=>?_;have t7_:ac.tmps[7]?.getD undef = .slice (some ⟨b7,0,none⟩) 1 1:=hp.slot 7 rfl rfl;clear hp;go_simp;exact hK.out _ _ rfl eR
     ·refine XStep.yes 66 true rfl (by decide +kernel) rfl rfl fun ac wk hp K hK=>?_;have t151_:=hp.v 67;have xe:=Hd hp.ext;clear hp;go_simp;refine (same_len_calls _ _ _ _ _ _ _ (by decide)).mono ?_;rintro e wk' ⟨rfl,ix⟩;exact hK.out _ _ rfl ix
     ·refine XStep.yes 66 true rfl (by decide +kernel) rfl rfl fun ac wk hp K hK=>?_;have t152_:=hp.v 68;clear hp;go_simp;exact hK.out _ _ rfl eR
     ·refine XStep.op rfl fun ac wk hp K hK=>?_;have t150_:=hp.v 66;have t153_:=hp.v 69;clear hp;go_simp;exact hK.out _ _ rfl eR
     ·refine XStep.op rfl fun ac wk hp K hK=>?_;have t154_:=hp.v 70;clear hp;go_simp;exact hK.out _ _ rfl eR
     ·refine XStep.yes 71 true rfl (by decide +kernel) rfl rfl fun ac wk hp K hK=>?_;have xe:=Hd hp.ext;clear hp;go_simp;exact hK.out _ _ ⟨_,_,rfl⟩ (eR.alloc _)
     ·refine XStep.yes 71 true rfl (by decide +kernel) rfl rfl fun ac wk hp K hK=>?_;obtain⟨f156p,f156c,f156e⟩:=hp.g 72;have t156_:ac.tmps[156]?.getD undef = .slice f156p 0 f156c:=slot_is' f156e;have xe:=Hd hp.ext;clear hp f156e;go_simp;refine (same_none_calls _ _ _ _ _).mono ?_;rintro e wk' ⟨rfl,ix⟩;exact hK.out _ _ rfl ix
     ·refine XStep.op rfl fun ac wk hp K hK=>?_;have t155_:=hp.v 71;have t157_:=hp.v 73;clear hp;go_simp;exact hK.out _ _ rfl eR
    case ht =>
     intro ac v2 hag hext hpost;have z158_:sl ac 158 = .bool true:=hpost 74 (by decide +kernel) rfl;rw[hag.lay];simp only[lay,List.foldl_cons,List.foldl_nil,List.setIfInBounds_toArray,List.set_cons_zero,List.set_cons_succ,z158_];have HEX:=Hd hext;clear hag hpost hext z158_;refine seqTail.op rfl rfl (fun K hK=>?_);have HK3:=Hd hK;clear hK;go_simp;refine HK3.out _ _ ?_;clear HK3
     show seqTail _ _ _ [] _ _
     unfold seqTail;go_wp2_with fail
     try go_ret
     exact⟨rfl,(X1.out.trans (X2.out.trans (X3.out.trans (X4.out.trans (X5.out.trans (X6.out.trans (X7.out.trans (X8.out.trans (X9.out.trans (X10.out.trans (X11.out.trans X12.out))))))))))).trans (XT.out.trans (XR.out.trans (XA.out.trans (YA.out.trans HEX.out))))⟩
end Go.Proofs.YtfofjalebhajhaaGreatDoor
