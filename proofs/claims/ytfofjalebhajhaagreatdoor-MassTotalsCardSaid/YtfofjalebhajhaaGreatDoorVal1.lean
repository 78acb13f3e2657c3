/- Values in memory; cmp.Compare, val.leaf, val.Cmp. -/
import Derived.Test.YtfofjalebhajhaaGreatDoorValPlain
namespace Go.Proofs.YtfofjalebhajhaaGreatDoor
open Go Go.RowKit
inductive IsV (w:World):Value→VT→Prop where
 | mk (k:Nat) (n:Int) (l:List VT) (p:Option Addr) (c:Nat) (xs:List Value) (hk:k<256) (hn:-9223372036854775808≤n∧n≤9223372036854775807)
   (hs:Sl 3 w (.slice p l.length c) l.length xs) (hl:∀ i x,l[i]? = some x→IsV w (.agg #[xs.getD (i*3) undef,xs.getD (i*3+1) undef,xs.getD (i*3+2) undef]) x) :
   IsV w (.agg #[.int .u8 (k:Int),.int .i64 n,.slice p l.length c]) (.mk k n l)
theorem IsV.ext {w w':World}{v:Value}{t:VT}(h:IsV w v t) (x:Ext w w'):IsV w' v t:=by
 induction h with
 | mk k n l p c xs hk hn hs hl ih=>exact .mk k n l p c xs hk hn (hs.ext x) fun i y hy=>ih i y hy
theorem IsV.shape {w:World}{v:Value}{t:VT}(h:IsV w v t):∃ p c,v = .agg #[.int .u8 (t.k:Int),.int .i64 t.n,.slice p t.l.length c]:=by
 cases h with
 | mk k n l p c xs hk hn hs hl=>exact⟨p,c,rfl⟩
theorem IsV.item {w:World}{k:Nat}{n:Int}{l:List VT}{v:Value}(h:IsV w v (.mk k n l)){p:Option Addr}{c:Nat}(hv:v = .agg #[.int .u8 (k:Int),.int .i64 n,.slice p l.length c]){i:Nat}(hi:i<l.length) :
  ∃ b o q d,p=some ⟨b,o,none⟩∧b<w.heap.size∧w.cell? ⟨b,o+i*3,none⟩=some (.int .u8 ((l[i]).k:Int))∧w.cell? ⟨b,o+i*3+1,none⟩=some (.int .i64 (l[i]).n)∧w.cell? ⟨b,o+i*3+2,none⟩=some (.slice q (l[i]).l.length d) ∧
   IsV w (.agg #[.int .u8 ((l[i]).k:Int),.int .i64 (l[i]).n,.slice q (l[i]).l.length d]) l[i]:=by
 cases h with
 | mk k n l p' c' xs hk hn hs hl =>
  injection hv with hv
  have e:Value.slice p' l.length c' = .slice p l.length c:=by
   have:=congrArg (fun a=>a[2]?) hv
   simpa using this
  injection e with e1 _ e2
  subst e1 e2;have hx:=hl i l[i] (List.getElem?_eq_getElem hi);obtain⟨q,d,e⟩:=hx.shape;obtain⟨hlen,a,cap,e0,-,-,hz,hp⟩:=hs
  injection e0 with e1 _ _
  subst e1
  cases p' with
  | none =>
   have:=(hz rfl).1;omega
  | some pp =>
   obtain⟨q1,q2,q3⟩:=hp pp rfl (by omega);obtain⟨b,o,sp⟩:=pp;subst q1
   injection e with e
   have g0:xs.getD (i*3) undef = .int .u8 ((l[i]).k:Int):=by have:=congrArg (fun a=>a[0]?) e;simpa using this
   have g1:xs.getD (i*3+1) undef = .int .i64 (l[i]).n:=by have:=congrArg (fun a=>a[1]?) e;simpa using this
   have g2:xs.getD (i*3+2) undef = .slice q (l[i]).l.length d:=by have:=congrArg (fun a=>a[2]?) e;simpa using this
   have hg:∀ j u,j<xs.length→xs.getD j undef=u→w.cell? ⟨b,o+j,none⟩=some u:=by
    intro j u hj hu;rw[q3 j hj,←hu];simp [List.getD,hj]
   rw[g0,g1,g2]at hx;exact⟨b,o,q,d,rfl,q2,hg _ _ (by omega) g0,hg _ _ (by omega) g1,hg _ _ (by omega) g2,hx⟩
set_option maxHeartbeats 400000 in
theorem cmp8_calls (w:World) (a b:Nat):Calls Tryz.prog 47 #[.int .u8 (a:Int),.int .u8 (b:Int)] w fun e w'=>e = .returned (.int .i64 (cmpI a b))∧Ext w w':=by
 have nan:∀ (w:World) (x:Nat),Calls Tryz.prog 84 #[.int .u8 (x:Int)] w fun e w'=>e = .returned (.bool false)∧w=w':=by
  intro w x
  go_enter Tryz.func84,Tryz.ntmps84
  go_wp2_with fail;go_ret;exact⟨rfl,rfl⟩
 have NAN:=Hd nan;clear nan;have hv:=cmpI_vals (a:Int) b
 generalize cmpI (a:Int) b=r at hv ⊢
 rcases hv with⟨rfl,h⟩ | ⟨rfl,h⟩ | ⟨rfl,h⟩
 all_goals
  go_enter Tryz.func47,Tryz.ntmps47
  go_wp2_with fail;refine (NAN.out _ _).mono ?_;rintro e w1 ⟨rfl,rfl⟩;go_wp2_with fail;refine (NAN.out _ _).mono ?_;rintro e w1 ⟨rfl,rfl⟩;go_wp2_with fail;go_ret;exact⟨rfl,Ext.refl _⟩
set_option maxHeartbeats 400000 in
theorem cmpi64_calls (w:World) (a b:Int):Calls Tryz.prog 49 #[.int .i64 a,.int .i64 b] w fun e w'=>e = .returned (.int .i64 (cmpI a b))∧Ext w w':=by
 have nan:∀ (w:World) (x:Int),Calls Tryz.prog 85 #[.int .i64 x] w fun e w'=>e = .returned (.bool false)∧w=w':=by
  intro w x
  go_enter Tryz.func85,Tryz.ntmps85
  go_wp2_with fail;go_ret;exact⟨rfl,rfl⟩
 have NAN:=Hd nan;clear nan;have hv:=cmpI_vals a b
 generalize cmpI a b=r at hv ⊢
 rcases hv with⟨rfl,h⟩ | ⟨rfl,h⟩ | ⟨rfl,h⟩
 all_goals
  go_enter Tryz.func49,Tryz.ntmps49
  go_wp2_with fail;refine (NAN.out _ _).mono ?_;rintro e w1 ⟨rfl,rfl⟩;go_wp2_with fail;refine (NAN.out _ _).mono ?_;rintro e w1 ⟨rfl,rfl⟩;go_wp2_with fail;go_ret;exact⟨rfl,Ext.refl _⟩
set_option maxHeartbeats 400000 in
theorem cmpint_calls (w:World) (a b:Int):Calls Tryz.prog 50 #[.int .i64 a,.int .i64 b] w fun e w'=>e = .returned (.int .i64 (cmpI a b))∧Ext w w':=by
 have nan:∀ (w:World) (x:Int),Calls Tryz.prog 86 #[.int .i64 x] w fun e w'=>e = .returned (.bool false)∧w=w':=by
  intro w x
  go_enter Tryz.func86,Tryz.ntmps86
  go_wp2_with fail;go_ret;exact⟨rfl,rfl⟩
 have NAN:=Hd nan;clear nan;have hv:=cmpI_vals a b
 generalize cmpI a b=r at hv ⊢
 rcases hv with⟨rfl,h⟩ | ⟨rfl,h⟩ | ⟨rfl,h⟩
 all_goals
  go_enter Tryz.func50,Tryz.ntmps50
  go_wp2_with fail;refine (NAN.out _ _).mono ?_;rintro e w1 ⟨rfl,rfl⟩;go_wp2_with fail;refine (NAN.out _ _).mono ?_;rintro e w1 ⟨rfl,rfl⟩;go_wp2_with fail;go_ret;exact⟨rfl,Ext.refl _⟩
set_option maxHeartbeats 400000 in
theorem leaf_calls (w:World) (k:Nat) (b:Bool) (hb:decide (k=1∨k=2)=b):Calls Tryz.prog 48 #[.int .u8 (k:Int)] w fun e w'=>e = .returned (.bool b)∧Ext w w':=by
 by_cases h1:k=1
 ·subst h1
  obtain rfl:true=b:=by rw[←hb];rfl
  go_enter Tryz.func48,Tryz.ntmps48
  go_wp2_with fail;go_ret;exact⟨rfl,Ext.refl _⟩
 ·by_cases h2:k=2
  ·subst h2
   obtain rfl:true=b:=by rw[←hb];rfl
   go_enter Tryz.func48,Tryz.ntmps48
   go_wp2_with fail;go_ret;exact⟨rfl,Ext.refl _⟩
  ·obtain rfl:false=b:=by rw[←hb];simp [h1,h2]
   have e1:((k:Int) == 1)=false:=by rw[beq_eq_false_iff_ne];omega
   have e2:((k:Int) == 2)=false:=by rw[beq_eq_false_iff_ne];omega
   go_enter Tryz.func48,Tryz.ntmps48
   go_wp2_with fail;go_ret;exact⟨rfl,Ext.refl _⟩
end Go.Proofs.YtfofjalebhajhaaGreatDoor
