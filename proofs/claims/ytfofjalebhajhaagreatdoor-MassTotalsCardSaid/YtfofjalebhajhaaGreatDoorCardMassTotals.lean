/- Proved: MassTotals answers true for any two lists of shares, any fraction and any value, and its arguments read afterwards as they read before. Conditions: those of the given row alone. -/
import Derived.Test.YtfofjalebhajhaaGreatDoorPartCardV
import Derived.Test.YtfofjalebhajhaaGreatDoorLawMassTotals
import Derived.Test.YtfofjalebhajhaaGreatDoorCards
import Derived.Test.YtfofjalebhajhaaGreatDoorTie
namespace Go.Proofs.YtfofjalebhajhaaGreatDoor.massTotals
open Go Go.ChangeShapes Go.WideShapes Go.ChangeAt Go.RowKit
set_option maxRecDepth 100000
theorem contract (H:Type) (enc:TypeId × Value→H) (W:World) (base:Nat) (args:Array Value) (ds gs:List (DataW H)) (before:List MemPlace)
  (hval:∀ (j:Nat) t v,Tryz.f6.params[j]? = some t→args[j]? = some v→Value.okWide Tryz.prog W .any base t v)
  (hW:DataW.Whole enc Tryz.prog Tryz.f6.params.toList Rows.massTotalsSpec.vars false W args.toList ds gs before) :
  Calls Tryz.prog 6 args W fun e W' => ∃ v,e = .returned v∧Rows.massTotalsSpec.post enc Tryz.prog Tryz.f6 false true false false W args v W':=by
 have hW':=hW;obtain⟨p,q,hA0,hV,rfl,hfz,hnd⟩:=hW;have hA:DataW.TrodAll enc Tryz.prog W 0 (fun _=>true) true Tryz.f6.params.toList args.toList ds p:=hA0;rw[Tryz.params6]at hA hval;obtain⟨v0,vs0,d0,ds0,p0,q0,hargs,rfl,rfl,h0,r0⟩:=trodAll_cons hA;obtain⟨v1,vs1,d1,ds1,p1,q1,rfl,rfl,rfl,h1,r1⟩:=trodAll_cons r0;obtain⟨v2,vs2,d2,ds2,p2,q2,rfl,rfl,rfl,h2,r2⟩:=trodAll_cons r1;obtain⟨v3,vs3,d3,ds3,p3,q3,rfl,rfl,rfl,h3,r3⟩:=trodAll_cons r2;obtain⟨rfl,rfl,rfl⟩:=trodAll_nil r3
 obtain rfl:args = #[v0,v1,v2,v3]:=by cases args;simp_all
 obtain⟨rfl,rfl⟩:=trodVars_none hV;obtain⟨L0,hL0⟩:=open_shares (hval 0 _ v0 rfl rfl) h0;obtain⟨L1,hL1⟩:=open_shares (hval 1 _ v1 rfl rfl) h1;obtain⟨b2,x2,y2,A2,B2,rfl,hL2,hM2⟩:=open_rat (hval 2 _ v2 rfl rfl) h2;obtain⟨vk3,vn3,vp3,vx3,vy3,vt3,rfl,hL3⟩:=open_val (hval 3 _ v3 rfl rfl) h3
 refine (massTotals_calls hL0 hL1 hL2 hM2 hL3).mono fun e W' ⟨he,hg⟩=>?_
 subst he;exact⟨_,rfl,law_post hW' rfl rfl rfl (by kernel_rfl) hg⟩
theorem lifted (os:Os) (started:os.Started) (H:Type) (enc:TypeId × Value→H) :
  ReturnsInHanded {} Tryz.checked os 6 .any (fun w args=>(Rows.massTotalsSpec.pre enc Tryz.prog Tryz.f6 Rows.massTotalsRow.domain false w args∧laidMetH Tryz.prog Rows.massTotalsRow.laid w)∧sizedMet enc Tryz.prog Tryz.f6 (OpenSpec.ofChange Rows.massTotalsSpec) false w args)
   (Rows.massTotalsSpec.post enc Tryz.prog Tryz.f6 false true false false):=by
 refine returnsInHanded_of_change_and (C:=Tryz.checked) (X:=fun w _=>laidMetH Tryz.prog Rows.massTotalsRow.laid w) (fun _ _ _ hh h=>h.of_heap hh) seat_own started (by kernel_rfl) Tryz.func6
  (ChangeSpec.witness_shaped (enc:=enc) (C:=Tryz.checked) (os:=os) (X:=fun w _=>laidMetH Tryz.prog Rows.massTotalsRow.laid w) false (World.laidAll Tryz.prog os Rows.massTotalsRow.laid) #[.slice none 0 0,.slice none 0 0,.agg #[.bool false,.slice none 0 0,.slice none 0 0],.agg #[.int .u8 0,.int .i64 0,.slice none 0 0]] 8 (World.laidAll_os _ _ _)
   (World.shaped_of_ZipB (by kernel_rfl) (by kernel_rfl)) (by kernel_rfl) (by kernel_rfl) (by kernel_rfl)
   (by rw[MakeChecks.laidMetH_plain _ _ _ (by kernel_rfl)];exact laidMet_laidAll _ (by kernel_rfl) (by kernel_rfl))) ?_
 intro W base args ds gs before hval hW _ _ _ _;exact contract H enc W base args ds gs before hval hW
theorem said:Rows.MassTotalsSaid :=
 OpenClaim.holds_of_wide 6 Tryz.f6 rfl rfl rfl rfl rfl rfl rfl ⟨rfl,rfl,rfl,rfl,rfl⟩ rfl rfl rfl rfl rfl (by kernel_rfl) Tryz.func6 (by kernel_rfl)
  (of_decide_eq_true (by kernel_rfl)) (by unfold Func.isWrapper;first | (rw[if_pos (by decide +kernel)];kernel_rfl) | (rw[if_neg (by decide +kernel)];exact⟨rfl,rfl⟩))
  (fun os started H enc _=>lifted os started H enc)
theorem plain (f:FuncId) (fn:Func) (hf:Tryz.pinned.checked.prog.funcNamed "tombola/tombolalaw24.MassTotals" = some f) (hfn:Tryz.pinned.checked.prog.funcs[f]? = some fn) :
  false = Tryz.pinned.checked.prog.looks [] ∧ ∀ (j:Nat) t,fn.params[j]? = some t → Tryz.pinned.checked.prog.wantsStandIn t=false:=by
 obtain rfl:f = 6:=Option.some.inj ((show Tryz.prog.funcNamed "tombola/tombolalaw24.MassTotals" = some 6 by kernel_rfl).symm.trans hf) |>.symm
 obtain rfl:fn = Tryz.f6:=(Option.some.inj (Tryz.func6.symm.trans hfn)).symm;exact⟨by kernel_rfl,fun j t ht=>stand_of (by kernel_rfl) j t ht⟩
theorem card:Rows.MassTotalsCardSaid :=
 Claim7.holds_tied_plain_at .later [] _ _ _ _ said (fun _ h=>by cases h) (by kernel_rfl) (fun _ h=>by cases h) massTotals_row_tie rfl ⟨rfl,rfl⟩ (by kernel_rfl) rfl plain (by kernel_rfl)
#print axioms card
end Go.Proofs.YtfofjalebhajhaaGreatDoor.massTotals
