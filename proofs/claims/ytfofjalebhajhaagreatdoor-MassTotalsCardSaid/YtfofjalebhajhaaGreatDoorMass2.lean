/- gather's tests: is a share's fraction not above 0? -/
import Derived.Test.YtfofjalebhajhaaGreatDoorMass1
namespace Go.Proofs.YtfofjalebhajhaaGreatDoor
open Go Go.RowKit
set_option maxHeartbeats 1000000 in
set_option maxRecDepth 100000 in
theorem dropV_calls {w:World}{k n:Value}{p:Value}{s:Bool}{r u:Option Addr}{c d e f K:Nat}{q:Rat}(ha:InR w s (.slice r c d) (.slice u e f) K q) (hk:K≤20000) :
  Calls Tryz.prog 82 #[.agg #[k,n,p,.bool s,.slice r c d,.slice u e f]] w fun z w'=>z = .returned (.bool (!decide (0<q)))∧Ext w w':=by
 have HA:=Hd ha
 obtain⟨t,ht⟩:∃ t,decide (0<q)=t:=⟨_,rfl⟩
 have HT:=Hd ht;rw[ht];clear ha ht
 go_enter Tryz.func82,Tryz.ntmps82
 go_wp2_with fail;have X1:Hid (Ext w (w.alloc (.cells #[k,n,p,.bool s,.slice r c d,.slice u e f] 47))):=eR.alloc _;refine (above_calls (HA.out.ext X1.out) hk).mono ?_;rintro z w1 ⟨rfl,x1⟩;rw[HT.out];have X2:=Hd (X1.out.trans x1);clear x1;go_wp2_with fail;go_ret;exact⟨rfl,X2.out⟩
set_option maxHeartbeats 1000000 in
set_option maxRecDepth 100000 in
theorem dropS_calls {w:World}{k n:Value}{p:Value}{s:Bool}{r u:Option Addr}{c d e f K:Nat}{q:Rat}(ha:InR w s (.slice r c d) (.slice u e f) K q) (hk:K≤20000) :
  Calls Tryz.prog 96 #[.agg #[k,n,p,.bool s,.slice r c d,.slice u e f]] w fun z w'=>z = .returned (.bool (!decide (0<q)))∧Ext w w':=by
 have HA:=Hd ha
 obtain⟨t,ht⟩:∃ t,decide (0<q)=t:=⟨_,rfl⟩
 have HT:=Hd ht;rw[ht];clear ha ht
 go_enter Tryz.func96,Tryz.ntmps96
 go_wp2_with fail;have X1:Hid (Ext w (w.alloc (.cells #[k,n,p,.bool s,.slice r c d,.slice u e f] 47))):=eR.alloc _;refine (above_calls (HA.out.ext X1.out) hk).mono ?_;rintro z w1 ⟨rfl,x1⟩;rw[HT.out];have X2:=Hd (X1.out.trans x1);clear x1;go_wp2_with fail;go_ret;exact⟨rfl,X2.out⟩
set_option maxHeartbeats 1000000 in
set_option maxRecDepth 100000 in
theorem dropP_calls {w:World}{k n:Value}{p:Value}{s:Bool}{r u:Option Addr}{c d e f K:Nat}{q:Rat}(ha:InR w s (.slice r c d) (.slice u e f) K q) (hk:K≤20000) :
  Calls Tryz.prog 98 #[.agg #[k,n,p,.bool s,.slice r c d,.slice u e f]] w fun z w'=>z = .returned (.bool (!decide (0<q)))∧Ext w w':=by
 have HA:=Hd ha
 obtain⟨t,ht⟩:∃ t,decide (0<q)=t:=⟨_,rfl⟩
 have HT:=Hd ht;rw[ht];clear ha ht
 go_enter Tryz.func98,Tryz.ntmps98
 go_wp2_with fail;have X1:Hid (Ext w (w.alloc (.cells #[k,n,p,.bool s,.slice r c d,.slice u e f] 47))):=eR.alloc _;refine (above_calls (HA.out.ext X1.out) hk).mono ?_;rintro z w1 ⟨rfl,x1⟩;rw[HT.out];have X2:=Hd (X1.out.trans x1);clear x1;go_wp2_with fail;go_ret;exact⟨rfl,X2.out⟩
end Go.Proofs.YtfofjalebhajhaaGreatDoor
