/- Map, Keep, Join of no function; One; Same of none. -/
import Derived.Test.YtfofjalebhajhaaGreatDoorMass21
namespace Go.Proofs.YtfofjalebhajhaaGreatDoor
open Go Go.RowKit
set_option maxHeartbeats 1000000 in
theorem map_nil_calls (w:World) (p:Option Addr) (n c:Nat):Calls Tryz.prog 24 #[.slice p n c,.nilFunc] w fun z w'=>z = .returned (.slice none 0 0)∧Ext w w':=by
 have hfn:∀ w,Sem.run Tryz.prog (binOp BinOp.eql 64 .nilFunc .nilFunc) w = .ok (.bool true) w:=fun w=>nil_nil Tryz.underlying64
 go_enter Tryz.func24,Tryz.ntmps24
 go_wp2_with fail;go_ret;exact⟨rfl,eR.alloc _⟩
set_option maxHeartbeats 1000000 in
theorem keep_nil_calls (w:World) (p:Option Addr) (n c:Nat):Calls Tryz.prog 25 #[.slice p n c,.nilFunc] w fun z w'=>z = .returned (.slice none 0 0)∧Ext w w':=by
 have hfn:∀ w,Sem.run Tryz.prog (binOp BinOp.eql 68 .nilFunc .nilFunc) w = .ok (.bool true) w:=fun w=>nil_nil Tryz.underlying68
 go_enter Tryz.func25,Tryz.ntmps25
 go_wp2_with fail;go_ret;exact⟨rfl,eR.alloc _⟩
set_option maxHeartbeats 1000000 in
theorem join_nil_calls (w:World) (p:Option Addr) (n c:Nat) (q:Option Addr) (m d:Nat):Calls Tryz.prog 26 #[.slice p n c,.slice q m d,.nilFunc] w fun z w'=>z = .returned (.slice none 0 0)∧Ext w w':=by
 have hfn:∀ w,Sem.run Tryz.prog (binOp BinOp.eql 63 .nilFunc .nilFunc) w = .ok (.bool true) w:=fun w=>nil_nil Tryz.underlying63
 go_enter Tryz.func26,Tryz.ntmps26
 go_wp2_with fail;go_ret;exact⟨rfl,eR.alloc _⟩
set_option maxHeartbeats 1000000 in
theorem mone_calls {w:World}{k:Nat}{n:Int}{p:Option Addr}{x y:Nat}{t:VT}(h:IsV w (.agg #[.int .u8 (k:Int),.int .i64 n,.slice p x y]) t) (hz:szV t≤1000000) :
  Calls Tryz.prog 27 #[.agg #[.int .u8 (k:Int),.int .i64 n,.slice p x y]] w (GathRet w [(t,Rat.divInt 1 1)]):=by
 have HE:Hid (∀ X s,Ext w X→s=X.heap.size→Calls Tryz.prog 9 #[.slice (some ⟨s,0,none⟩) 1 1] (X.alloc (.cells #[.int .u8 (k:Int),.int .i64 n,.slice p x y] 29)) (GathRet X [(t,Rat.divInt 1 1)])):=fun X s hX hs=>hs ▸
  (even_calls (slV_lit (w:=X) (A:=#[.int .u8 (k:Int),.int .i64 n,.slice p x y]) (t := 29) (C:=[[.int .u8 (k:Int),.int .i64 n,.slice p x y]]) (Ts:=[t]) rfl (fun e he=>by
   simp only[List.mem_cons,List.not_mem_nil,or_false]at he;subst he
   exact⟨rfl,k,n,p,x,y,rfl⟩) 1 rfl (by decide) rfl (fun i cs t' h1 h2=>by
   match i,h1,h2 with
   | 0,h1,h2=>simp only[List.getElem?_cons_zero,Option.some.injEq]at h1 h2;subst h1 h2;exact h.ext hX
   | i+1,h1,h2=>simp at h1)) (by simp) (fun t' ht=>by simp only[List.mem_cons,List.not_mem_nil,or_false]at ht;subst ht;exact hz)).mono fun z w' ⟨v',out,h1,h2,h3,h4⟩=>⟨v',out,h1,h2,h3,(eR.alloc _).trans h4⟩
 clear h hz
 go_enter Tryz.func27,Tryz.ntmps27
 go_wp2_with fail;refine (HE.out _ _ (eR.alloc _) (size_alloc _ _).symm).mono ?_;rintro z w1 ⟨v',out,rfl,h1,h2,h3⟩;have H1:=Hd h1;have H2:=Hd h2;have H3:Hid (Ext w w1):=(eR.alloc _).trans h3;clear h1 h2 h3 HE;go_wp2_with fail;go_ret;exact⟨_,_,rfl,H1.out,H2.out,H3.out⟩
set_option maxHeartbeats 1000000 in
theorem same_len_calls (w:World) (p:Option Addr) (n c:Nat) (q:Option Addr) (m d:Nat) (h:n≠m):Calls Tryz.prog 28 #[.slice p n c,.slice q m d] w fun z w'=>z = .returned (.bool false)∧Ext w w':=by
 have HE:Hid (∀ X,Calls Tryz.prog 67 #[.slice p n c,.slice q m d,.func (.func 68) #[] #[]] X fun z w'=>z = .returned (.bool false)∧Ext X w'):=fun X=>by
  have hne:((n:Int) != (m:Int))=true:=by rw[bne_iff_ne];omega
  have hne2:¬ (n:Int)=(m:Int):=by omega
  go_enter Tryz.func67,Tryz.ntmps67
  go_wp2_with fail;go_ret;exact⟨rfl,Ext.refl _⟩
 clear h
 go_enter Tryz.func28,Tryz.ntmps28
 go_wp2_with fail;refine (HE.out _).mono ?_;rintro z w1 ⟨rfl,x1⟩;have X1:=Hd x1;clear x1;go_wp2_with fail;go_ret;exact⟨rfl,X1.out⟩
set_option maxHeartbeats 1000000 in
theorem same_none_calls (w:World) (p:Option Addr) (c:Nat) (q:Option Addr) (d:Nat):Calls Tryz.prog 28 #[.slice p 0 c,.slice q 0 d] w fun z w'=>z = .returned (.bool true)∧Ext w w':=by
 have HE:Hid (∀ X,Calls Tryz.prog 67 #[.slice p 0 c,.slice q 0 d,.func (.func 68) #[] #[]] X fun z w'=>z = .returned (.bool true)∧Ext X w'):=fun X=>by
  go_enter Tryz.func67,Tryz.ntmps67
  go_wp2_with fail
  go_loopw [17] (fun v17 wr=>v17 = .int .i64 0∧wr=X) (fun _ _=>0)
  case atStart=>exact⟨rfl,rfl⟩
  case round =>
   obtain⟨rfl,rfl⟩:=hrel;go_wp2_with fail;go_ret;exact⟨rfl,Ext.refl _⟩
 go_enter Tryz.func28,Tryz.ntmps28
 go_wp2_with fail;refine (HE.out _).mono ?_;rintro z w1 ⟨rfl,x1⟩;have X1:=Hd x1;clear x1;go_wp2_with fail;go_ret;exact⟨rfl,X1.out⟩
end Go.Proofs.YtfofjalebhajhaaGreatDoor
