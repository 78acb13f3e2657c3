/- Facts and contracts, joined: RatTxt, RatSum, Rat6. -/
import Derived.Test.YtfofjalebhajhaaGreatDoorPartE
namespace Go.Proofs.YtfofjalebhajhaaGreatDoor
open Go Go.RowKit
noncomputable def showR (q:Rat):List UInt8:=showI q.num ++ (if q.den=1 then [] else 47 :: showL q.den)
theorem showL_lenB {n k:Nat}(h:n<Bs^k) (hk:1≤k):(showL n).length≤20*k:=by
 have:=LenI.show (z:=(n:Int)) (k:=k) (by unfold LenI;simpa using h) hk
 simpa using this
theorem dig_inj {a b:Nat}:dig a=dig b↔a=b:=⟨fun h=>by rw[←val_dig a,h,val_dig],fun h=>by rw[h]⟩
set_option maxHeartbeats 4000000 in
set_option maxRecDepth 100000 in
theorem rshow_is {w:World}{ba:Bool}{va ua:Value}{k:Nat}{q:Rat}(ha:InR w ba va ua k q) (hk:k≤1000) (t:ByteArray) (ht:t.data.toList=showR q) :
  Calls Tryz.prog 15 #[.agg #[.bool ba,va,ua]] w fun e w'=>e = .returned (.string t)∧Ext w w':=by
 obtain⟨pa,qa,ra,pa',qa',ra',rfl,rfl⟩:=ha.slice;have LQ:=Hd ha.len;have hk1:=LQ.out.pos;obtain⟨s,hs⟩:=str_of (showI q.num);have HS:=Hd hs
 have HSZ:Hid ((showL q.num.natAbs).length≤4294967296):=by show _≤_;have:=showL_lenB LQ.out.1 hk1;omega
 have HLD:Hid ((dig q.den).length≤1000):=Nat.le_trans (dig_len_le LQ.out.2) hk
 have HL1:Hid ((dig 1).length≤65535):=by show _≤_;rw[dig_one one_lt_Bs (by decide)];decide
 have HK:=Hd hk
 have hsz:(s.size:Int)≤20001:=by
  have h1:=showI_len (k:=k) (z:=q.num) LQ.out.1 hk1
  have h2:s.size=(showI q.num).length:=by rw[Lib.size_eq s,hs]
  omega
 by_cases hd:q.den=1
 ·have HD:Hid (decide (dig q.den=dig 1)=true):=by show _=_;rw[hd];simp
  have HT:Hid (s=t):=by
   show _=_
   rw[←mk_of ht,←mk_of hs];unfold showR;rw[if_pos hd,List.append_nil]
  clear ht hs hd hk hk1
  go_enter Tryz.func15,Tryz.ntmps15
  go_wp2_with fail
  obtain⟨v1,hv1⟩:∃ W,W=(w.alloc (.cells #[.bool ba,.slice pa qa ra,.slice pa' qa' ra'] 36)):=⟨_,rfl⟩
  have y1:Ext w v1:=by rw[hv1];exact (eR.alloc _)
  have b0_0:Hid (At (w.heap.size) 0 (.bool ba) v1):=by rw[hv1];exact At.ext (At.n0 (by rfl)) eR
  have b0_1:Hid (At (w.heap.size) 1 (.slice pa qa ra) v1):=by rw[hv1];exact At.ext (At.n0 (by rfl)) eR
  have b0_2:Hid (At (w.heap.size) 2 (.slice pa' qa' ra') v1):=by rw[hv1];exact At.ext (At.n0 (by rfl)) eR
  have k0:Hid (Bx 3 (w.heap.size) v1):=by rw[hv1];exact Bx.gr (Bx.n0 3 ⟨rfl,by decide⟩ (by decide) noI_s3) (Ext.gr eR)
  have u0:Hid (w.heap.size<v1.heap.size):=b0_0.out.2;have e1_:Ext w v1:=y1;rw[←hv1];clear hv1;refine (rcount_is (ha.ext y1) (by have h1:=HK.out;omega)).mono ?_;rintro e w2 ⟨sb1,sv1,su1,sm1,sd1,rfl,e1,o1,x2⟩;have e2_:Ext w w2:=Ext.trans e1_ x2;obtain⟨sp1,sl1,sc1,tp1,tl1,tc1,rfl,rfl⟩:=e1.slice;have g0_0:=(b0_0.out.ext x2).1;have g0_1:=(b0_1.out.ext x2).1;have g0_2:=(b0_2.out.ext x2).1;have z0_0:=(k0.out.gr x2.gr).free 0;have z0_1:=(k0.out.gr x2.gr).free 1;have z0_2:=(k0.out.gr x2.gr).free 2;have f0:w.heap.size<w2.heap.size:=(b0_0.out.ext x2).2;go_wp2_with fail
  obtain⟨v3,hv3⟩:∃ W,W=(((w2.setCell ⟨w.heap.size,0,none⟩ (.bool sb1)).setCell ⟨w.heap.size,1,none⟩ (.slice sp1 sl1 sc1)).setCell ⟨w.heap.size,2,none⟩ (.slice tp1 tl1 tc1)):=⟨_,rfl⟩
  have sv3:v3=setRow (w.heap.size) 0 [.bool sb1,.slice sp1 sl1 sc1,.slice tp1 tl1 tc1] w2:=hv3;have uv3:=setRow_bx' (o:=0) (cs:=[.bool sb1,.slice sp1 sl1 sc1,.slice tp1 tl1 tc1]) (k0.out.gr x2.gr) (by simp) noI_s3
  have y3:Gr w2 v3:=by rw[sv3];exact setRow_gr' (o:=0) (cs:=[.bool sb1,.slice sp1 sl1 sc1,.slice tp1 tl1 tc1]) (k0.out.gr x2.gr) (by simp) noI_s3
  have t3:Hid (∀ t o u,t≠(w.heap.size)→At t o u w2→At t o u v3):=fun t o u h k=>by rw[sv3];exact k.setRow h _ _
  have e3_:Ext w v3:=by rw[sv3];exact setRow_below _ _ (by omega) _ _ e2_
  have b0_0:Hid (At (w.heap.size) 0 (.bool sb1) v3):=by rw[sv3];exact uv3.2.1 0 _ rfl
  have b0_1:Hid (At (w.heap.size) 1 (.slice sp1 sl1 sc1) v3):=by rw[sv3];exact uv3.2.1 1 _ rfl
  have b0_2:Hid (At (w.heap.size) 2 (.slice tp1 tl1 tc1) v3):=by rw[sv3];exact uv3.2.1 2 _ rfl
  have k0:Hid (Bx 3 (w.heap.size) v3):=by rw[sv3];exact uv3.1
  rw[←hv3];clear hv3 sv3 uv3;refine (show_is ((e1.gr y3).num.inI (k:=k) LQ.out.1) (by have h1:=HK.out;omega) s HS.out HSZ.out).mono ?_;rintro e w4 ⟨rfl,x4⟩;have e4_:Ext w w4:=Ext.trans e3_ x4;clear g0_0 g0_1 g0_2 z0_0 z0_1 z0_2 f0;go_wp2_with fail;have hkeep1:AllAt' ([(w.heap.size,0,.bool sb1),(w.heap.size,1,.slice sp1 sl1 sc1),(w.heap.size,2,.slice tp1 tl1 tc1)]:List (Nat × Nat × Value)) w4:=AllAt'.cons (b0_0.out.ext x4) (AllAt'.cons (b0_1.out.ext x4) (AllAt'.cons (b0_2.out.ext x4) (AllAt'.nil _)));have hob1:ObOk w.heap.size w4 (([(w.heap.size,0,.bool sb1),(w.heap.size,1,.slice sp1 sl1 sc1),(w.heap.size,2,.slice tp1 tl1 tc1)]:List (Nat × Nat × Value)).map (·.1)) ([]:List (Nat × List (Nat × Value))):=trivial;have hne1:AllNe (([]:List (Nat × List (Nat × Value))).map (·.1)):=trivial
  (try simp only[List.append_eq,List.cons_append,List.nil_append])
  refine wp_region_gen ⟨[9,10,11,12,13],fun i=>false,fun i=>([none,none,none,none,none]:List (Option (BoxRef × Nat))).getD i none,fun i=>([Sg.val (.pointer (some ⟨w.heap.size,2,none⟩)),Sg.val (.slice tp1 tl1 tc1),Sg.natO w.heap.size 1,Sg.val (.bool true),Sg.val (.bool false)]:List Sg).getD i Sg.any,[(w.heap.size,0,.bool sb1),(w.heap.size,1,.slice sp1 sl1 sc1),(w.heap.size,2,.slice tp1 tl1 tc1)],[]⟩ w.heap.size (by kernel_rfl) (by kernel_rfl) e4_.size ?hfr hkeep1 hob1 hne1 ?hs ?he
  case hfr =>
   intro i v wk hi hst hv;exact absurd hi (by simp)
  case hs =>
   refine⟨?_,?_,?_,?_,?_,trivial⟩
   ·refine RStep.op rfl rfl fun ac wk hp K hK=>?_;have t1_:ac.tmps[1]?.getD undef = .pointer (some ⟨w.heap.size,0,none⟩):=hp.slot 1 rfl rfl;have HP:=Hd hp;clear hp;go_simp;refine hK.out _ _ ?_ eR (fun h=>absurd h (by simp));exact rfl
   ·refine RStep.op rfl rfl fun ac wk hp K hK=>?_;have u0e:=hp.g 0;have t9_:ac.tmps[9]?.getD undef = .pointer (some ⟨w.heap.size,2,none⟩):=slot_is' u0e;have c0_:=hp.cell 2 rfl;have HP:=Hd hp;clear hp;go_simp;refine hK.out _ _ ?_ eR (fun h=>absurd h (by simp));exact rfl
   ·refine RStep.op rfl rfl fun ac wk hp K hK=>?_;have HP:=Hd hp;clear hp;go_simp;refine (rone_is).mono ?_;rintro e wk' ⟨sv3,rfl,o3,ix⟩;obtain⟨sp3,sl3,sc3,rfl⟩:=o3.slice';refine hK.out _ _ ?_ ix (fun h=>absurd h (by simp));exact⟨_,_,_,rfl,(o3.mono (Nat.le_trans e4_.size HP.out.gr.size))⟩
   ·refine RStep.op rfl rfl fun ac wk hp K hK=>?_;have u1e:=hp.g 1;have t10_:ac.tmps[10]?.getD undef = .slice tp1 tl1 tc1:=slot_is' u1e;obtain⟨u2p,u2n,u2c,u2e,u2o⟩:=hp.g 2;have t11_:ac.tmps[11]?.getD undef = .slice u2p u2n u2c:=slot_is' u2e;have HP:=Hd hp;clear hp;go_simp;refine (equal_is (e1.gr ((y3.trans x4.gr).trans HP.out.gr)).2.2.2.2 u2o.limbs (by rw[e1.2.2.1.symm];exact Nat.le_trans HLD.out (by decide)) HL1.out true (by rw[e1.2.2.1.symm];exact HD.out)).mono ?_;rintro e wk' ⟨rfl,ix⟩;refine hK.out _ _ ?_ ix (fun h=>absurd h (by simp));exact rfl
   ·refine RStep.op rfl rfl fun ac wk hp K hK=>?_;have u3e:=hp.g 3;have t12_:ac.tmps[12]?.getD undef = .bool true:=slot_is' u3e;have HP:=Hd hp;clear hp;go_simp;refine hK.out _ _ ?_ eR (fun h=>absurd h (by simp));exact rfl
  case he =>
   intro ac v5 hM;have y1_0e:=hM.post 0 rfl rfl;have y1_1e:=hM.post 1 rfl rfl;obtain⟨y1_2p,y1_2n,y1_2c,y1_2e,y1_2o⟩:=hM.post 2 rfl rfl;have y1_3e:=hM.post 3 rfl rfl;have y1_4e:=hM.post 4 rfl rfl;have b0_0:Hid (At (w.heap.size) 0 (.bool sb1) v5):=Hd (hM.keep.at 0 rfl);have b0_1:Hid (At (w.heap.size) 1 (.slice sp1 sl1 sc1) v5):=Hd (hM.keep.at 1 rfl);have b0_2:Hid (At (w.heap.size) 2 (.slice tp1 tl1 tc1) v5):=Hd (hM.keep.at 2 rfl);have gv5:Gr w4 v5:=hM.gr;have e5_:Ext w v5:=Ext.below e4_ hM.blw;have z0_:sl ac 9 = .pointer (some ⟨w.heap.size,2,none⟩):=y1_0e;have z1_:sl ac 10 = .slice tp1 tl1 tc1:=y1_1e;have z2_:sl ac 11 = .slice y1_2p y1_2n y1_2c:=y1_2e;have z3_:sl ac 12 = .bool true:=y1_3e;have z4_:sl ac 13 = .bool false:=y1_4e;rw[hM.ag.lay];simp only[lay,List.foldl_cons,List.foldl_nil,List.setIfInBounds_toArray,List.set_cons_zero,List.set_cons_succ,z0_,z1_,z2_,z3_,z4_];clear hM hkeep1 hob1 hne1 z0_ z1_ z2_ z3_ z4_ y1_0e y1_1e y1_2e y1_3e y1_4e;go_wp2_with fail;go_ret;exact⟨by rw[HT.out];rfl,e5_⟩
 ·obtain⟨u,hu⟩:=str_of (showL q.den);have HU:=Hd hu
  have HD:Hid (decide (dig q.den=dig 1)=false):=by show _=_;rw[decide_eq_false_iff_not,dig_inj];exact hd
  have husz:(u.size:Int)≤20000:=by
   have h1:=showL_lenB LQ.out.2 hk1
   have h2:u.size=(showL q.den).length:=by rw[Lib.size_eq u,hu]
   omega
  have HT:Hid (s ++ ((⟨#[47]⟩:ByteArray) ++ u)=t):=by
   show _=_
   refine append_of ?_;rw[ht];unfold showR;rw[if_neg hd,hs];simp [ByteArray.data_append,hu]
  clear ht hs hd hk hk1 hu
  go_enter Tryz.func15,Tryz.ntmps15
  go_wp2_with fail
  obtain⟨v1,hv1⟩:∃ W,W=(w.alloc (.cells #[.bool ba,.slice pa qa ra,.slice pa' qa' ra'] 36)):=⟨_,rfl⟩
  have y1:Ext w v1:=by rw[hv1];exact (eR.alloc _)
  have b0_0:Hid (At (w.heap.size) 0 (.bool ba) v1):=by rw[hv1];exact At.ext (At.n0 (by rfl)) eR
  have b0_1:Hid (At (w.heap.size) 1 (.slice pa qa ra) v1):=by rw[hv1];exact At.ext (At.n0 (by rfl)) eR
  have b0_2:Hid (At (w.heap.size) 2 (.slice pa' qa' ra') v1):=by rw[hv1];exact At.ext (At.n0 (by rfl)) eR
  have k0:Hid (Bx 3 (w.heap.size) v1):=by rw[hv1];exact Bx.gr (Bx.n0 3 ⟨rfl,by decide⟩ (by decide) noI_s3) (Ext.gr eR)
  have u0:Hid (w.heap.size<v1.heap.size):=b0_0.out.2;have e1_:Ext w v1:=y1;rw[←hv1];clear hv1;refine (rcount_is (ha.ext y1) (by have h1:=HK.out;omega)).mono ?_;rintro e w2 ⟨sb1,sv1,su1,sm1,sd1,rfl,e1,o1,x2⟩;have e2_:Ext w w2:=Ext.trans e1_ x2;obtain⟨sp1,sl1,sc1,tp1,tl1,tc1,rfl,rfl⟩:=e1.slice;have g0_0:=(b0_0.out.ext x2).1;have g0_1:=(b0_1.out.ext x2).1;have g0_2:=(b0_2.out.ext x2).1;have z0_0:=(k0.out.gr x2.gr).free 0;have z0_1:=(k0.out.gr x2.gr).free 1;have z0_2:=(k0.out.gr x2.gr).free 2;have f0:w.heap.size<w2.heap.size:=(b0_0.out.ext x2).2;go_wp2_with fail
  obtain⟨v3,hv3⟩:∃ W,W=(((w2.setCell ⟨w.heap.size,0,none⟩ (.bool sb1)).setCell ⟨w.heap.size,1,none⟩ (.slice sp1 sl1 sc1)).setCell ⟨w.heap.size,2,none⟩ (.slice tp1 tl1 tc1)):=⟨_,rfl⟩
  have sv3:v3=setRow (w.heap.size) 0 [.bool sb1,.slice sp1 sl1 sc1,.slice tp1 tl1 tc1] w2:=hv3;have uv3:=setRow_bx' (o:=0) (cs:=[.bool sb1,.slice sp1 sl1 sc1,.slice tp1 tl1 tc1]) (k0.out.gr x2.gr) (by simp) noI_s3
  have y3:Gr w2 v3:=by rw[sv3];exact setRow_gr' (o:=0) (cs:=[.bool sb1,.slice sp1 sl1 sc1,.slice tp1 tl1 tc1]) (k0.out.gr x2.gr) (by simp) noI_s3
  have t3:Hid (∀ t o u,t≠(w.heap.size)→At t o u w2→At t o u v3):=fun t o u h k=>by rw[sv3];exact k.setRow h _ _
  have e3_:Ext w v3:=by rw[sv3];exact setRow_below _ _ (by omega) _ _ e2_
  have b0_0:Hid (At (w.heap.size) 0 (.bool sb1) v3):=by rw[sv3];exact uv3.2.1 0 _ rfl
  have b0_1:Hid (At (w.heap.size) 1 (.slice sp1 sl1 sc1) v3):=by rw[sv3];exact uv3.2.1 1 _ rfl
  have b0_2:Hid (At (w.heap.size) 2 (.slice tp1 tl1 tc1) v3):=by rw[sv3];exact uv3.2.1 2 _ rfl
  have k0:Hid (Bx 3 (w.heap.size) v3):=by rw[sv3];exact uv3.1
  rw[←hv3];clear hv3 sv3 uv3;refine (show_is ((e1.gr y3).num.inI (k:=k) LQ.out.1) (by have h1:=HK.out;omega) s HS.out HSZ.out).mono ?_;rintro e w4 ⟨rfl,x4⟩;have e4_:Ext w w4:=Ext.trans e3_ x4;clear g0_0 g0_1 g0_2 z0_0 z0_1 z0_2 f0;go_wp2_with fail;have hkeep1:AllAt' ([(w.heap.size,0,.bool sb1),(w.heap.size,1,.slice sp1 sl1 sc1),(w.heap.size,2,.slice tp1 tl1 tc1)]:List (Nat × Nat × Value)) w4:=AllAt'.cons (b0_0.out.ext x4) (AllAt'.cons (b0_1.out.ext x4) (AllAt'.cons (b0_2.out.ext x4) (AllAt'.nil _)));have hob1:ObOk w.heap.size w4 (([(w.heap.size,0,.bool sb1),(w.heap.size,1,.slice sp1 sl1 sc1),(w.heap.size,2,.slice tp1 tl1 tc1)]:List (Nat × Nat × Value)).map (·.1)) ([]:List (Nat × List (Nat × Value))):=trivial;have hne1:AllNe (([]:List (Nat × List (Nat × Value))).map (·.1)):=trivial
  (try simp only[List.append_eq,List.cons_append,List.nil_append])
  refine wp_region_gen ⟨[9,10,11,12,13],fun i=>false,fun i=>([none,none,none,none,none]:List (Option (BoxRef × Nat))).getD i none,fun i=>([Sg.val (.pointer (some ⟨w.heap.size,2,none⟩)),Sg.val (.slice tp1 tl1 tc1),Sg.natO w.heap.size 1,Sg.val (.bool false),Sg.val (.bool true)]:List Sg).getD i Sg.any,[(w.heap.size,0,.bool sb1),(w.heap.size,1,.slice sp1 sl1 sc1),(w.heap.size,2,.slice tp1 tl1 tc1)],[]⟩ w.heap.size (by kernel_rfl) (by kernel_rfl) e4_.size ?hfr hkeep1 hob1 hne1 ?hs ?he
  case hfr =>
   intro i v wk hi hst hv;exact absurd hi (by simp)
  case hs =>
   refine⟨?_,?_,?_,?_,?_,trivial⟩
   ·refine RStep.op rfl rfl fun ac wk hp K hK=>?_;have t1_:ac.tmps[1]?.getD undef = .pointer (some ⟨w.heap.size,0,none⟩):=hp.slot 1 rfl rfl;have HP:=Hd hp;clear hp;go_simp;refine hK.out _ _ ?_ eR (fun h=>absurd h (by simp));exact rfl
   ·refine RStep.op rfl rfl fun ac wk hp K hK=>?_;have u0e:=hp.g 0;have t9_:ac.tmps[9]?.getD undef = .pointer (some ⟨w.heap.size,2,none⟩):=slot_is' u0e;have c0_:=hp.cell 2 rfl;have HP:=Hd hp;clear hp;go_simp;refine hK.out _ _ ?_ eR (fun h=>absurd h (by simp));exact rfl
   ·refine RStep.op rfl rfl fun ac wk hp K hK=>?_;have HP:=Hd hp;clear hp;go_simp;refine (rone_is).mono ?_;rintro e wk' ⟨sv3,rfl,o3,ix⟩;obtain⟨sp3,sl3,sc3,rfl⟩:=o3.slice';refine hK.out _ _ ?_ ix (fun h=>absurd h (by simp));exact⟨_,_,_,rfl,(o3.mono (Nat.le_trans e4_.size HP.out.gr.size))⟩
   ·refine RStep.op rfl rfl fun ac wk hp K hK=>?_;have u1e:=hp.g 1;have t10_:ac.tmps[10]?.getD undef = .slice tp1 tl1 tc1:=slot_is' u1e;obtain⟨u2p,u2n,u2c,u2e,u2o⟩:=hp.g 2;have t11_:ac.tmps[11]?.getD undef = .slice u2p u2n u2c:=slot_is' u2e;have HP:=Hd hp;clear hp;go_simp;refine (equal_is (e1.gr ((y3.trans x4.gr).trans HP.out.gr)).2.2.2.2 u2o.limbs (by rw[e1.2.2.1.symm];exact Nat.le_trans HLD.out (by decide)) HL1.out false (by rw[e1.2.2.1.symm];exact HD.out)).mono ?_;rintro e wk' ⟨rfl,ix⟩;refine hK.out _ _ ?_ ix (fun h=>absurd h (by simp));exact rfl
   ·refine RStep.op rfl rfl fun ac wk hp K hK=>?_;have u3e:=hp.g 3;have t12_:ac.tmps[12]?.getD undef = .bool false:=slot_is' u3e;have HP:=Hd hp;clear hp;go_simp;refine hK.out _ _ ?_ eR (fun h=>absurd h (by simp));exact rfl
  case he =>
   intro ac v5 hM;have y1_0e:=hM.post 0 rfl rfl;have y1_1e:=hM.post 1 rfl rfl;obtain⟨y1_2p,y1_2n,y1_2c,y1_2e,y1_2o⟩:=hM.post 2 rfl rfl;have y1_3e:=hM.post 3 rfl rfl;have y1_4e:=hM.post 4 rfl rfl;have b0_0:Hid (At (w.heap.size) 0 (.bool sb1) v5):=Hd (hM.keep.at 0 rfl);have b0_1:Hid (At (w.heap.size) 1 (.slice sp1 sl1 sc1) v5):=Hd (hM.keep.at 1 rfl);have b0_2:Hid (At (w.heap.size) 2 (.slice tp1 tl1 tc1) v5):=Hd (hM.keep.at 2 rfl);have gv5:Gr w4 v5:=hM.gr;have e5_:Ext w v5:=Ext.below e4_ hM.blw;have z0_:sl ac 9 = .pointer (some ⟨w.heap.size,2,none⟩):=y1_0e;have z1_:sl ac 10 = .slice tp1 tl1 tc1:=y1_1e;have z2_:sl ac 11 = .slice y1_2p y1_2n y1_2c:=y1_2e;have z3_:sl ac 12 = .bool false:=y1_3e;have z4_:sl ac 13 = .bool true:=y1_4e;rw[hM.ag.lay];simp only[lay,List.foldl_cons,List.foldl_nil,List.setIfInBounds_toArray,List.set_cons_zero,List.set_cons_succ,z0_,z1_,z2_,z3_,z4_];clear hM hkeep1 hob1 hne1 z0_ z1_ z2_ z3_ z4_ y1_0e y1_1e y1_2e y1_3e y1_4e;have g0_2:=b0_2.out.1;have f0:w.heap.size<v5.heap.size:=b0_0.out.2;go_wp2_with fail;refine (show_str (e1.gr (y3.trans (x4.gr.trans gv5))).2.2.2.2 (by rw[e1.2.2.1.symm];have:=HLD.out;omega) u (by rw[val_dig,e1.2.2.1.symm];exact HU.out)).mono ?_;rintro e w6 ⟨rfl,x6⟩;have e6_:Ext w w6:=Ext.trans e5_ x6;clear g0_2 f0;go_wp2_with fail;go_ret;exact⟨ret_eq (congrArg Value.string HT.out),e6_⟩
noncomputable def errQ (l:List UInt8):Nat :=
 if Lib.indexByte l 47 = -1 then errI l else
 if errI (l.take (Lib.indexByte l 47).toNat)≠0 then errI (l.take (Lib.indexByte l 47).toNat) else
 if errR (l.drop ((Lib.indexByte l 47).toNat+1))≠0 then errR (l.drop ((Lib.indexByte l 47).toNat+1)) else
 if readN (l.drop ((Lib.indexByte l 47).toNat+1))≠1∧readN (l.drop ((Lib.indexByte l 47).toNat+1))≠0∧Nat.gcd (readI (l.take (Lib.indexByte l 47).toNat)).natAbs (readN (l.drop ((Lib.indexByte l 47).toNat+1)))=1 then 0 else 3
noncomputable def readQ (l:List UInt8):Rat :=
 if errQ l≠0 then 0 else if Lib.indexByte l 47 = -1 then ((readI l:Int):Rat) else mkRat (readI (l.take (Lib.indexByte l 47).toNat)) (readN (l.drop ((Lib.indexByte l 47).toNat+1)))
theorem indexByte_range (l:List UInt8) (c:UInt8):Lib.indexByte l c = -1 ∨ ∃ i:Nat,Lib.indexByte l c=i∧i<l.length:=by
 have h1:=Lib.indexByte_ge l c
 by_cases h:Lib.indexByte l c = -1
 ·exact .inl h
 ·obtain⟨i,hi⟩:=Int.eq_ofNat_of_zero_le (show 0≤Lib.indexByte l c by omega);refine .inr ⟨i,hi,?_⟩;have:=(Lib.indexByte_some hi).1;exact (List.getElem?_eq_some_iff.1 this).1
end Go.Proofs.YtfofjalebhajhaaGreatDoor
namespace Go.Proofs.YtfofjalebhajhaaGreatDoor
open Go Go.RowKit
def Sl3 {α:Type}(R:Bool→Value→Value → α → World→Prop) (w:World) (v:Value) (Ls:List α):Prop :=
 ∃ p c,v = .slice p Ls.length c∧Ls.length≤c∧c≤maxLen ∧ ∀ i,i<Ls.length → ∃ bl off,p=some ⟨bl,off,none⟩∧bl<w.heap.size ∧
  ∀ j a,Ls[j]? = some a → ∃ b x y,w.cell? ⟨bl,off+j*3,none⟩=some (.bool b)∧w.cell? ⟨bl,off+j*3+1,none⟩=some x∧w.cell? ⟨bl,off+j*3+2,none⟩=some y∧R b x y a w
theorem sl3_1 {α:Type}{R:Bool→Value→Value → α → World→Prop}{w:World}{s:Nat}{b:Bool}{x y:Value}{a:α}(h0:At s 0 (.bool b) w) (h1:At s 1 x w) (h2:At s 2 y w) (hr:R b x y a w) :
  Sl3 R w (.slice (some ⟨s,0,none⟩) 1 1) [a]:=by
 refine⟨_,1,rfl,Nat.le_refl _,by simp [maxLen],fun i _=>⟨s,0,rfl,h0.2,fun j c hj=>?_⟩⟩
 cases j with
 | zero=>simp at hj;subst hj;exact⟨b,x,y,h0.1,h1.1,h2.1,hr⟩
 | succ j=>simp at hj
theorem sl3_3 {α:Type}{R:Bool→Value→Value → α → World→Prop}{w:World}{s:Nat}{b1 b2 b3:Bool}{x1 y1 x2 y2 x3 y3:Value}{a1 a2 a3:α}(h0:At s 0 (.bool b1) w) (h1:At s 1 x1 w) (h2:At s 2 y1 w) (hr1:R b1 x1 y1 a1 w)
  (h3:At s 3 (.bool b2) w) (h4:At s 4 x2 w) (h5:At s 5 y2 w) (hr2:R b2 x2 y2 a2 w) (h6:At s 6 (.bool b3) w) (h7:At s 7 x3 w) (h8:At s 8 y3 w) (hr3:R b3 x3 y3 a3 w) :
  Sl3 R w (.slice (some ⟨s,0,none⟩) 3 3) [a1,a2,a3]:=by
 refine⟨_,3,rfl,Nat.le_refl _,by simp [maxLen],fun i _=>⟨s,0,rfl,h0.2,fun j c hj=>?_⟩⟩
 match j,hj with
 | 0,hj=>simp at hj;subst hj;exact⟨b1,x1,y1,h0.1,h1.1,h2.1,hr1⟩
 | 1,hj=>simp at hj;subst hj;exact⟨b2,x2,y2,h3.1,h4.1,h5.1,hr2⟩
 | 2,hj=>simp at hj;subst hj;exact⟨b3,x3,y3,h6.1,h7.1,h8.1,hr3⟩
 | j+3,hj=>simp at hj
def RawT (b:Bool) (x y:Value) (a:Bool × List Nat × List Nat) (w:World):Prop:=b=a.1∧Limbs w x a.2.1∧Limbs w y a.2.2
def FraT (K:Nat) (b:Bool) (x y:Value) (q:Rat) (w:World):Prop:=InR w b x y K q
def longR (Ls:List (Bool × List Nat × List Nat)):Bool:=Ls.any fun a=>decide (6<a.2.1.length) || decide (6<a.2.2.length)
theorem longR_get {Ls:List (Bool × List Nat × List Nat)}(h:longR Ls=false){a:Bool × List Nat × List Nat}(ha:a∈Ls):a.2.1.length≤6∧a.2.2.length≤6:=by
 have:=List.any_eq_false.1 h a ha;simp only[Bool.or_eq_true,decide_eq_true_eq]at this;omega
set_option maxHeartbeats 2000000 in
set_option maxRecDepth 100000 in
theorem long_calls {w:World}{v:Value}{Ls:List (Bool × List Nat × List Nat)}(h:Sl3 RawT w v Ls) (b:Bool) (hb:longR Ls=b) :
  Calls Tryz.prog 29 #[v] w fun e w'=>e = .returned (.bool b)∧Ext w w':=by
 obtain⟨p,c,rfl,h1,h2,h3⟩:=h;unfold maxLen at h2;have H3:=Hd h3;have HB:=Hd hb;clear h3 hb
 go_enter Tryz.func29,Tryz.ntmps29
 go_wp2_with fail
 go_loopw [3] (fun v3 wr => ∃ i:Nat,v3 = .int .i64 (i:Int)∧i≤Ls.length∧Hid (longR (Ls.take i)=false)∧Ext w wr) (fun v3 _=>Ls.length - (intOf v3).toNat)
 case atStart=>exact⟨0,rfl,Nat.zero_le _,rfl,Ext.refl _⟩
 case round =>
  obtain⟨i,rfl,hi,hp,hx⟩:=hrel
  by_cases hin:i<Ls.length
  ·obtain⟨bl,off,rfl,hbl,hc⟩:=H3.out i hin
   obtain⟨⟨nb,A,B⟩,ha⟩:∃ a,Ls[i]? = some a:=⟨_,List.getElem?_eq_getElem hin⟩
   obtain⟨nb',x,y,c0,c1,c2,-,hA,hB⟩:=hc i _ ha;obtain⟨pa,qa,rfl,-,-,-⟩:=hA.open;obtain⟨pb,qb,rfl,-,-,-⟩:=hB.open
   have d1:wr.cell? ⟨bl,off+i*3+1,none⟩=some (.slice pa A.length qa):=by rw[Below.cell hx (p:=⟨bl,off+i*3+1,none⟩) hbl];exact c1
   have d2:wr.cell? ⟨bl,off+i*3+2,none⟩=some (.slice pb B.length qb):=by rw[Below.cell hx (p:=⟨bl,off+i*3+2,none⟩) hbl];exact c2
   have HT:Hid (longR (Ls.take (i+1))=(decide (6<A.length) || decide (6<B.length))):=by
    show _=_
    have e:=hp.out;unfold longR at e ⊢;rw[List.take_add_one,ha,List.any_append,e]
    simp
   have HN:Hid (longR (Ls.take (i+1))=true→b=true):=fun e=>by
    rw[←HB.out];unfold longR at e ⊢;obtain⟨a,ha,hh⟩:=List.any_eq_true.1 e;exact List.any_eq_true.2 ⟨a,List.mem_of_mem_take ha,hh⟩
   have HLT:Hid (i<Ls.length):=hin
   have hii:(i:Int)+1≤Ls.length:=by omega
   have hm:(Ls.length:Int)≤9223372036854775807:=by omega
   clear hc c0 c1 c2 ha hbl
   by_cases hl1:6<A.length
   ·have hl1':(7:Int)≤A.length:=by omega
    have HR:Hid (b=true):=HN.out (by rw[HT.out];simp [hl1]);go_wp2_with fail;go_ret;exact⟨by rw[HR.out];rfl,hx⟩
   ·have hl1':(A.length:Int)≤6:=by omega
    by_cases hl2:6<B.length
    ·have hl2':(7:Int)≤B.length:=by omega
     have HR:Hid (b=true):=HN.out (by rw[HT.out];simp [hl2]);clear hl1;go_wp2_with fail;go_ret;exact⟨by rw[HR.out];rfl,hx⟩
    ·have hl2':(B.length:Int)≤6:=by omega
     have HF:Hid (longR (Ls.take (i+1))=false):=by show _=_;rw[HT.out];simp [hl1,hl2]
     clear hl1 hl2;go_wp2_with fail;exact⟨⟨i+1,by go_num,by omega,HF,hx⟩,by simp [intOf];have:=HLT.out;omega⟩
  ·obtain rfl:i=Ls.length:=by omega
   have HR:Hid (b=false):=by show _=_;rw[←HB.out];have:=hp.out;rwa [List.take_length]at this
   clear hin;go_wp2_with fail;go_ret;exact⟨by rw[HR.out];rfl,hx⟩
noncomputable def sumR (qs:List Rat):Rat:=qs.foldl (· + ·) 0
theorem sumR_take {qs:List Rat}{i:Nat}{q:Rat}(h:qs[i]? = some q):sumR (qs.take (i+1))=sumR (qs.take i)+q:=by
 unfold sumR;rw[List.take_add_one,h,List.foldl_append];rfl
theorem foldl_len {K:Nat}:∀ (l:List Rat) (n:Nat) (s:Rat),LenR n s→(∀ q∈l,LenR K q)→LenR (n+l.length*(K+1)) (l.foldl (· + ·) s)
 | [],n,s,h,_=>by simpa using h
 | q :: l,n,s,h,hl=>by
  have h1:=foldl_len l (n+K+1) (s+q) (h.add (hl q (by simp))) (fun x hx=>hl x (by simp [hx]));refine h1.mono ?_;simp [Nat.add_mul];omega
theorem sumR_len {qs:List Rat}{K:Nat}(h:∀ q∈qs,LenR K q):LenR (qs.length*(K+1)+1) (sumR qs):=by
 have:=foldl_len qs 1 0 lenR_zero h;rw[Nat.add_comm];exact this
def Row3 (s:Nat) (b:Bool) (x y:Value) (W:World):Prop:=At s 0 (.bool b) W∧At s 1 x W∧At s 2 y W
theorem Row3.ext {s:Nat}{b:Bool}{x y:Value}{W W':World}(h:Row3 s b x y W) (e:Ext W W'):Row3 s b x y W':=⟨h.1.ext e,h.2.1.ext e,h.2.2.ext e⟩
set_option maxHeartbeats 4000000 in
set_option maxRecDepth 100000 in
theorem rsum_is {w:World}{v:Value}{K:Nat}{qs:List Rat}(h:Sl3 (FraT K) w v qs) (hK2:K≤1000) (hn:qs.length≤6) :
  Calls Tryz.prog 79 #[v] w (RetR w (sumR qs)):=by
 obtain⟨p,c,rfl,h1,h2,h3⟩:=h;unfold maxLen at h2
 have HLQ:Hid (∀ i,LenR (i*(K+1)+1) (sumR (qs.take i))):=fun i=>by
  refine (sumR_len (K:=K) (qs:=qs.take i) ?_).mono (by rw[List.length_take];have:=Nat.min_le_left i qs.length;have:=Nat.mul_le_mul_right (K+1) this;omega);intro q hq;obtain⟨j,hj,rfl⟩:=List.getElem_of_mem hq
  have hj':j<qs.length:=by rw[List.length_take]at hj;omega
  obtain⟨bl,off,-,-,hc⟩:=h3 j hj';obtain⟨b,x,y,-,-,-,hr⟩:=hc j _ (List.getElem?_eq_getElem hj');rw[List.getElem_take];exact InR.len hr
 have H3:=Hd h3;have HK:=Hd hK2
 have hm:(qs.length:Int)≤6:=by omega
 clear h3 hK2
 go_enter Tryz.func79,Tryz.ntmps79
 go_wp2_with fail;refine (rof_is _ 0 (by decide) (by decide)).mono ?_;rintro e w1 ⟨b0,x0,y0,m0,d0,rfl,e1,o1,x1⟩;obtain⟨xp,xn,xc,yp,yn,yc,rfl,rfl⟩:=e1.slice;have y1:=((Ext.refl w).alloc (.cells #[.bool false,.slice none 0 0,.slice none 0 0] 36)).trans x1;have HR:Hid (Row3 w.heap.size false (.slice none 0 0) (.slice none 0 0) w1):=Row3.ext ⟨At.n0 (by rfl),At.n0 (by rfl),At.n0 (by rfl)⟩ x1;have HB2:Hid (Bx 3 w.heap.size w1):=(Bx.n0 3 ⟨rfl,by decide⟩ (by decide) noI_s3).gr x1.gr;have HSZ:Hid (w.heap.size<w1.heap.size):=HR.out.1.2;go_wp2_with fail
 obtain⟨s2,hs2⟩:∃ s,w.heap.size=s:=⟨_,rfl⟩
 obtain⟨s3,hs3⟩:∃ s,w1.heap.size=s:=⟨_,rfl⟩
 have y2:=y1.alloc (.cells #[.bool b0,.slice xp xn xc,.slice yp yn yc] 36)
 have HS3:Hid (s2≠s3∧w.heap.size≤s2∧w.heap.size≤s3):=⟨by have:=HSZ.out;omega,by omega,by have:=HSZ.out;omega⟩
 have HE:Hid (IsR (w1.alloc (.cells #[.bool b0,.slice xp xn xc,.slice yp yn yc] 36)) b0 (.slice xp xn xc) (.slice yp yn yc) m0 d0 0):=e1.ext (eR.alloc _);have HO:Hid (OwnR w.heap.size (w1.alloc (.cells #[.bool b0,.slice xp xn xc,.slice yp yn yc] 36)) (.slice xp xn xc) (.slice yp yn yc) m0 d0):=(o1.ext (eR.alloc _)).mono (by simp)
 have HR2:Hid (Row3 w1.heap.size b0 (.slice xp xn xc) (.slice yp yn yc) (w1.alloc (.cells #[.bool b0,.slice xp xn xc,.slice yp yn yc] 36))):=⟨At.n0 (by rfl),At.n0 (by rfl),At.n0 (by rfl)⟩
 have HB3:Hid (Bx 3 w1.heap.size (w1.alloc (.cells #[.bool b0,.slice xp xn xc,.slice yp yn yc] 36))):=Bx.n0 3 ⟨rfl,by decide⟩ (by decide) noI_s3;have HR1:Hid (Row3 w.heap.size false (.slice none 0 0) (.slice none 0 0) (w1.alloc (.cells #[.bool b0,.slice xp xn xc,.slice yp yn yc] 36))):=HR.out.ext (eR.alloc _);have HB1:Hid (Bx 3 w.heap.size (w1.alloc (.cells #[.bool b0,.slice xp xn xc,.slice yp yn yc] 36))):=HB2.out.gr (Ext.gr (eR.alloc _));rw[hs2]at HR1 HB1;rw[hs3]at HR2 HB3
 obtain⟨W,hW⟩:∃ W,W=(w1.alloc (.cells #[.bool b0,.slice xp xn xc,.slice yp yn yc] 36)):=⟨_,rfl⟩
 rw[←hW]at HE HO HR2 HB3 HR1 HB1 y2 ⊢;rw[hs2,hs3];clear HR HB2 HSZ hs3 e1 o1 hW;have HS2:=Hd hs2;clear hs2
 go_loopw [9] (fun v9 wr => ∃ (i:Nat) (b:Bool) (x y:Value) (m d:Nat),v9 = .int .i64 (i:Int)∧i≤qs.length∧Hid (Row3 s2 false (.slice none 0 0) (.slice none 0 0) wr)∧Hid (Row3 s3 b x y wr)∧Hid (Bx 3 s2 wr∧Bx 3 s3 wr)∧Hid (IsR wr b x y m d (sumR (qs.take i)))∧Hid (OwnR w.heap.size wr x y m d)∧Ext w wr) (fun v9 _=>qs.length - (intOf v9).toNat)
 case atStart=>exact⟨0,b0,_,_,m0,d0,rfl,Nat.zero_le _,HR1,HR2,Hd ⟨HB1.out,HB3.out⟩,HE,HO,y2⟩
 case round =>
  obtain⟨i,b,x,y,m,d,rfl,hi,hr2,hr3,hbx,he,ho,hx⟩:=hrel;obtain⟨xp,xn,xc,yp,yn,yc,rfl,rfl⟩:=he.out.slice;clear HR1 HR2 HB1 HB3 HE HO y2 y1 x1
  by_cases hin:i<qs.length
  ·obtain⟨bl,off,rfl,hbl,hc⟩:=H3.out i hin
   obtain⟨q,hq⟩:∃ a,qs[i]? = some a:=⟨_,List.getElem?_eq_getElem hin⟩
   obtain⟨eb,ex,ey,c0,c1,c2,hr⟩:=hc i _ hq;have hr:InR w eb ex ey K q:=hr;obtain⟨ap,an,ac,bp,bn,bc,rfl,rfl⟩:=hr.slice
   have d0:wr.cell? ⟨bl,off+i*3,none⟩=some (.bool eb):=by rw[Below.cell hx (p:=⟨bl,off+i*3,none⟩) hbl];exact c0
   have d1:wr.cell? ⟨bl,off+i*3+1,none⟩=some (.slice ap an ac):=by rw[Below.cell hx (p:=⟨bl,off+i*3+1,none⟩) hbl];exact c1
   have d2:wr.cell? ⟨bl,off+i*3+2,none⟩=some (.slice bp bn bc):=by rw[Below.cell hx (p:=⟨bl,off+i*3+2,none⟩) hbl];exact c2
   have HT:Hid (sumR (qs.take (i+1))=sumR (qs.take i)+q):=sumR_take hq;have HLT:Hid (i<qs.length):=hin;have HRR:=Hd hr
   have hii:(i:Int)+1≤qs.length:=by omega
   have g0:=hr3.out.1.1;have g1:=hr3.out.2.1.1;have g2:=hr3.out.2.2.1;have f3:s3<wr.heap.size:=hr3.out.1.2;have f2:bl<wr.heap.size:=Nat.lt_of_lt_of_le hbl hx.size;clear hc c0 c1 c2 hq hbl hr;go_wp2_with fail;refine (radd_is (he.out.ext (eR.alloc _) |>.inR (HLQ.out i)) (HRR.out.ext (hx.trans (eR.alloc _))) (by have h1:=HK.out;have h2:i*(K+1)≤6*1001:=Nat.mul_le_mul (by have:=HLT.out;omega) (by omega);omega)).mono ?_;rintro e w2 ⟨sb,sv,su,sm,sd,rfl,e2,o2,x2⟩;obtain⟨sp,sn,sc,tp,tn,tc,rfl,rfl⟩:=e2.slice;have X2:=(hx.alloc (.cells #[.bool eb,.slice ap an ac,.slice bp bn bc] 36)).trans x2;have Z2:=((Ext.refl wr).alloc (.cells #[.bool eb,.slice ap an ac,.slice bp bn bc] 36)).trans x2;clear g0 g1 g2 f3 f2;have g0:=(hr3.out.ext Z2).1.1;have g1:=(hr3.out.ext Z2).2.1.1;have g2:=(hr3.out.ext Z2).2.2.1;have HB3:Hid (Bx 3 s3 w2):=hbx.out.2.gr Z2.gr;have z0:=HB3.out.free 0;have z1:=HB3.out.free 1;have z2:=HB3.out.free 2;have HX2:=Hd X2;have HZ2:=Hd Z2;have HE2:=Hd e2;have HO2:Hid (OwnR w.heap.size w2 (.slice sp sn sc) (.slice tp tn tc) sm sd):=o2.mono (by have:=hx.size;simp;omega);clear X2 Z2 e2 o2 x2 d0 d1 d2;go_wp2_with fail
   obtain⟨W',hW'⟩:∃ W',W'=setRow s3 0 [.bool sb,.slice sp sn sc,.slice tp tn tc] w2:=⟨_,rfl⟩
   have hW2:(((w2.setCell ⟨s3,0,none⟩ (.bool sb)).setCell ⟨s3,1,none⟩ (.slice sp sn sc)).setCell ⟨s3,2,none⟩ (.slice tp tn tc))=W':=hW'.symm;rw[hW2];have u:=setRow_bx HB3.out (cs:=[.bool sb,.slice sp sn sc,.slice tp tn tc]) rfl noI_s3;have G:=setRow_gr HB3.out (cs:=[.bool sb,.slice sp sn sc,.slice tp tn tc]) rfl noI_s3;rw[←hW']at u G
   have hrow:Row3 s2 false (.slice none 0 0) (.slice none 0 0) W':=by
    have h:=hr2.out.ext HZ2.out;rw[hW'];exact⟨h.1.setRow HS3.out.1 _ 0,h.2.1.setRow HS3.out.1 _ 0,h.2.2.setRow HS3.out.1 _ 0⟩
   refine⟨⟨i+1,sb,_,_,sm,sd,by go_num,by omega,Hd hrow,Hd ⟨u.2 0 _ rfl,u.2 1 _ rfl,u.2 2 _ rfl⟩,Hd ⟨(hbx.out.1.gr HZ2.out.gr).gr G,u.1⟩,Hd (by rw[HT.out];exact HE2.out.gr G),Hd (HO2.out.gr G),by rw[hW'];exact setRow_below _ _ HS3.out.2.2 _ 0 HX2.out⟩,by simp [intOf];have:=HLT.out;omega⟩
  ·obtain rfl:i=qs.length:=by omega
   have g0:=hr3.out.1.1;have g1:=hr3.out.2.1.1;have g2:=hr3.out.2.2.1;have k0:=hr2.out.1.1;have k1:=hr2.out.2.1.1;have k2:=hr2.out.2.2.1;have z0:=hbx.out.1.free 0;have z1:=hbx.out.1.free 1;have z2:=hbx.out.1.free 2;clear hin;go_wp2_with fail
   obtain⟨W',hW'⟩:∃ W',W'=setRow s2 0 [.bool b,.slice xp xn xc,.slice yp yn yc] wr:=⟨_,rfl⟩
   have hW2:(((wr.setCell ⟨s2,0,none⟩ (.bool b)).setCell ⟨s2,1,none⟩ (.slice xp xn xc)).setCell ⟨s2,2,none⟩ (.slice yp yn yc))=W':=hW'.symm;rw[hW2];have u:=setRow_bx hbx.out.1 (cs:=[.bool b,.slice xp xn xc,.slice yp yn yc]) rfl noI_s3;have G:=setRow_gr hbx.out.1 (cs:=[.bool b,.slice xp xn xc,.slice yp yn yc]) rfl noI_s3;rw[←hW']at u G;have c0:=(u.2 0 _ rfl).1;have c1:=(u.2 1 _ rfl).1;have c2:=(u.2 2 _ rfl).1;refine bodyPost_ret (v:=.agg #[.bool b,.slice xp xn xc,.slice yp yn yc]) (by simp [results,Tryz.results79,go_sem,c0,c1,c2]) rfl ?_;exact⟨_,_,_,m,d,rfl,by have h:=he.out;rw[List.take_length]at h;exact h.gr G,ho.out.gr G,by rw[hW'];exact setRow_below _ _ HS3.out.2.1 _ 0 hx⟩
end Go.Proofs.YtfofjalebhajhaaGreatDoor
namespace Go.Proofs.YtfofjalebhajhaaGreatDoor
open Go Go.RowKit
theorem Sl3.gr {K:Nat}{w w':World}{v:Value}{qs:List Rat}(h:Sl3 (FraT K) w v qs) (g:Gr w w'){s:Nat}(hv:∀ p n c,v = .slice p n c → ∀ bl off,p=some ⟨bl,off,none⟩→bl=s) (hs:w'.heap[s]? = w.heap[s]?):Sl3 (FraT K) w' v qs:=by
 obtain⟨p,c,rfl,h1,h2,h3⟩:=h;refine⟨p,c,rfl,h1,h2,fun i hi=>?_⟩;obtain⟨bl,off,rfl,hbl,hc⟩:=h3 i hi;obtain rfl:=hv _ _ _ rfl bl off rfl;refine⟨bl,off,rfl,Nat.lt_of_lt_of_le hbl g.size,fun j a hj=>?_⟩;obtain⟨b,x,y,c0,c1,c2,hr⟩:=hc j a hj;exact⟨b,x,y,by rw[←c0];exact World.cell?_of_block (w:=w) hs,by rw[←c1];exact World.cell?_of_block (w:=w) hs,by rw[←c2];exact World.cell?_of_block (w:=w) hs,InR.gr hr g⟩
theorem lit_n0 {w:World}{C:Array Value}(A:List Nat) (hA:∀ x∈A,x≤65535) (hC:C.toList=A.map lv) (n:Nat) (hn:n=A.length) (hl:A.length≤100):Limbs (w.alloc (.cells C 53)) (.slice (some ⟨w.heap.size,0,none⟩) n n) A :=
 litn w A (fun x hx=>small_Bs (hA x hx)) C hC n hn hl
theorem lit_n1 {w:World}{o1:Obj}{C:Array Value}(A:List Nat) (hA:∀ x∈A,x≤65535) (hC:C.toList=A.map lv) (n:Nat) (hn:n=A.length) (hl:A.length≤100):Limbs ((w.alloc o1).alloc (.cells C 53)) (.slice (some ⟨w.heap.size+1,0,none⟩) n n) A:=by
 have:=lit_n0 (w:=w.alloc o1) A hA hC n hn hl;simpa using this
theorem lenR_over {n d:Int}{q:Rat}(h1:-9223372036854775808≤n) (h2:n≤9223372036854775807) (h3:-9223372036854775808≤d) (h4:d≤9223372036854775807) (hq:Rat.divInt n d=q):LenR 1 q:=by
 have e:=over_mk (n:=n) (d:=d) rfl rfl hq;rw[←e];refine LenR.mk (Nat.le_refl _) ?_ ?_
 ·rw[sgI_abs];exact LenI.small (z:=n) (by omega)
 ·exact LenI.small (z:=d) (by omega)
end Go.Proofs.YtfofjalebhajhaaGreatDoor
