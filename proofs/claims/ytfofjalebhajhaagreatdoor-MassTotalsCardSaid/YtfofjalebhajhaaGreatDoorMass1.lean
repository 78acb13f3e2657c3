/- mass.above: whether a fraction is above 0. -/
import Derived.Test.YtfofjalebhajhaaGreatDoorShare2
namespace Go.Proofs.YtfofjalebhajhaaGreatDoor
open Go Go.RowKit
set_option maxHeartbeats 2000000 in
set_option maxRecDepth 100000 in
theorem above_calls {w:World}{ba:Bool}{va ua:Value}{k:Nat}{a:Rat}(ha:InR w ba va ua k a) (hk:k≤20000) :
  Calls Tryz.prog 52 #[.agg #[.bool ba,va,ua]] w fun e w'=>e = .returned (.bool (decide (0<a)))∧Ext w w':=by
 obtain⟨pa,qa,ra,pa',qa',ra',rfl,rfl⟩:=ha.slice;have HK:=Hd hk
 obtain⟨s,hs⟩:∃ s,cmpR a ((0:Int):Rat)=s:=⟨_,rfl⟩
 obtain⟨cb,hcb⟩:∃ c,decide (s > 0)=c:=⟨_,rfl⟩
 have HS:=Hd hs;have HCB:=Hd hcb
 have HV:Hid (cb=decide (0<a)):=by
  show _=_
  rw[←hcb,←hs];have h:=cmpR_gt (a:=a) (b:=((0:Int):Rat));have h3:=cmpR_three a ((0:Int):Rat)
  rw[show ((0:Int):Rat)=0 from rfl] at *
  apply decide_eq_decide.2
  constructor
  ·intro h2;exact h.1 (by omega)
  ·intro h2;have:=h.2 h2;omega
 clear hk hs hcb
 go_enter Tryz.func52,Tryz.ntmps52
 go_wp2_with fail
 obtain⟨v1,hv1⟩:∃ W,W=(w.alloc (.cells #[.bool ba,.slice pa qa ra,.slice pa' qa' ra'] 36)):=⟨_,rfl⟩
 have y1:Ext w v1:=by rw[hv1];exact (eR.alloc _)
 have b0_0:Hid (At (w.heap.size) 0 (.bool ba) v1):=by rw[hv1];exact At.ext (At.n0 (by rfl)) eR
 have b0_1:Hid (At (w.heap.size) 1 (.slice pa qa ra) v1):=by rw[hv1];exact At.ext (At.n0 (by rfl)) eR
 have b0_2:Hid (At (w.heap.size) 2 (.slice pa' qa' ra') v1):=by rw[hv1];exact At.ext (At.n0 (by rfl)) eR
 have k0:Hid (Bx 3 (w.heap.size) v1):=by rw[hv1];exact Bx.gr (Bx.n0 3 ⟨rfl,by decide⟩ (by decide) noI_s3) (Ext.gr eR)
 have u0:Hid (w.heap.size<v1.heap.size):=b0_0.out.2;have e1_:Ext w v1:=y1;rw[←hv1];clear hv1;have hkeep1:AllAt' ([(w.heap.size,0,.bool ba),(w.heap.size,1,.slice pa qa ra),(w.heap.size,2,.slice pa' qa' ra')]:List (Nat × Nat × Value)) v1:=AllAt'.cons b0_0.out (AllAt'.cons b0_1.out (AllAt'.cons b0_2.out (AllAt'.nil _)));have hob1:ObOk w.heap.size v1 (([(w.heap.size,0,.bool ba),(w.heap.size,1,.slice pa qa ra),(w.heap.size,2,.slice pa' qa' ra')]:List (Nat × Nat × Value)).map (·.1)) ([]:List (Nat × List (Nat × Value))):=trivial;have hne1:AllNe (([]:List (Nat × List (Nat × Value))).map (·.1)):=trivial
 (try simp only[List.append_eq,List.cons_append,List.nil_append])
 refine wp_region_gen ⟨[3,4,5,6,2],fun i=>false,fun i=>([none,none,none,none,none]:List (Option (BoxRef × Nat))).getD i none,fun i=>([Sg.val (.agg #[.bool ba,.slice pa qa ra,.slice pa' qa' ra']),Sg.ratO w.heap.size ((0:Int):Rat),Sg.val (.int .i64 s),Sg.val (.bool cb),Sg.val (.bool cb)]:List Sg).getD i Sg.any,[(w.heap.size,0,.bool ba),(w.heap.size,1,.slice pa qa ra),(w.heap.size,2,.slice pa' qa' ra')],[]⟩ w.heap.size (by kernel_rfl) (by kernel_rfl) e1_.size ?hfr hkeep1 hob1 hne1 ?hs ?he
 case hfr =>
  intro i v wk hi hst hv;exact absurd hi (by simp)
 case hs =>
  refine⟨?_,?_,?_,?_,?_,trivial⟩
  ·refine RStep.op rfl rfl fun ac wk hp K hK=>?_;have t1_:ac.tmps[1]?.getD undef = .pointer (some ⟨w.heap.size,0,none⟩):=hp.slot 1 rfl rfl;have c0_:=hp.cell 0 rfl;have c1_:=hp.cell 1 rfl;have c2_:=hp.cell 2 rfl;have HP:=Hd hp;clear hp;go_simp;refine hK.out _ _ ?_ eR (fun h=>absurd h (by simp));exact rfl
  ·refine RStep.op rfl rfl fun ac wk hp K hK=>?_;have HP:=Hd hp;clear hp;go_simp;refine (rof_is _ 0 (by decide) (by decide)).mono ?_;rintro e wk' ⟨sb1,sv1,su1,sm1,sd1,rfl,e1,o1,ix⟩;obtain⟨sp1,sl1,sc1,tp1,tl1,tc1,rfl,rfl⟩:=e1.slice;refine hK.out _ _ ?_ ix (fun h=>absurd h (by simp));exact⟨_,_,_,_,_,_,_,_,_,rfl,e1,(o1.mono (Nat.le_trans e1_.size HP.out.gr.size))⟩
  ·refine RStep.op rfl rfl fun ac wk hp K hK=>?_;have u0e:=hp.g 0;have t3_:ac.tmps[3]?.getD undef = .agg #[.bool ba,.slice pa qa ra,.slice pa' qa' ra']:=slot_is' u0e;obtain⟨u1b,u1p,u1n,u1c,u1q,u1k,u1d,u1m,u1l,u1e,u1i,u1o⟩:=hp.g 1;have t4_:ac.tmps[4]?.getD undef = .agg #[.bool u1b,.slice u1p u1n u1c,.slice u1q u1k u1d]:=slot_is' u1e;have HP:=Hd hp;clear hp;go_simp;refine (rcmp_is (ha.gr (y1.gr.trans HP.out.gr)) (u1i.inR (k:=1) (LenR.int (LenI.small (by have h1:(-9223372036854775808:Int)≤0:=(by decide);have h2:0≤(9223372036854775807:Int):=(by decide);omega)) (by decide))) (by have h1:=HK.out;omega) HS.out).mono ?_;rintro e wk' ⟨rfl,ix⟩;refine hK.out _ _ ?_ ix (fun h=>absurd h (by simp));exact rfl
  ·refine RStep.op rfl rfl fun ac wk hp K hK=>?_;have u2e:=hp.g 2;have t5_:ac.tmps[5]?.getD undef = .int .i64 s:=slot_is' u2e;have HP:=Hd hp;clear hp;have q0:=HCB.out;go_simp;refine hK.out _ _ ?_ eR (fun h=>absurd h (by simp));exact (by first | rfl | (apply congrArg Value.bool;simp;done) | (apply congrArg Value.bool;simp;omega) | (simp [*];done))
  ·refine RStep.op rfl rfl fun ac wk hp K hK=>?_;have u3e:=hp.g 3;have t6_:ac.tmps[6]?.getD undef = .bool cb:=slot_is' u3e;have HP:=Hd hp;clear hp;go_simp;refine hK.out _ _ ?_ eR (fun h=>absurd h (by simp));exact rfl
 case he =>
  intro ac v2 hM;have y1_0e:=hM.post 0 rfl rfl;obtain⟨y1_1b,y1_1p,y1_1n,y1_1c,y1_1q,y1_1k,y1_1d,y1_1m,y1_1l,y1_1e,y1_1i,y1_1o⟩:=hM.post 1 rfl rfl;have y1_2e:=hM.post 2 rfl rfl;have y1_3e:=hM.post 3 rfl rfl;have y1_4e:=hM.post 4 rfl rfl;have b0_0:Hid (At (w.heap.size) 0 (.bool ba) v2):=Hd (hM.keep.at 0 rfl);have b0_1:Hid (At (w.heap.size) 1 (.slice pa qa ra) v2):=Hd (hM.keep.at 1 rfl);have b0_2:Hid (At (w.heap.size) 2 (.slice pa' qa' ra') v2):=Hd (hM.keep.at 2 rfl);have gv2:Gr v1 v2:=hM.gr;have e2_:Ext w v2:=Ext.below e1_ hM.blw;have z0_:sl ac 3 = .agg #[.bool ba,.slice pa qa ra,.slice pa' qa' ra']:=y1_0e;have z1_:sl ac 4 = .agg #[.bool y1_1b,.slice y1_1p y1_1n y1_1c,.slice y1_1q y1_1k y1_1d]:=y1_1e;have z2_:sl ac 5 = .int .i64 s:=y1_2e;have z3_:sl ac 6 = .bool cb:=y1_3e;have z4_:sl ac 2 = .bool cb:=y1_4e;rw[hM.ag.lay];simp only[lay,List.foldl_cons,List.foldl_nil,List.setIfInBounds_toArray,List.set_cons_zero,List.set_cons_succ,z0_,z1_,z2_,z3_,z4_];clear hM hkeep1 hob1 hne1 z0_ z1_ z2_ z3_ z4_ y1_0e y1_1e y1_2e y1_3e y1_4e;go_wp2_with fail;go_ret;exact⟨ret_eq (congrArg Value.bool HV.out),e2_⟩
end Go.Proofs.YtfofjalebhajhaaGreatDoor
