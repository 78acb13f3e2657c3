/- Facts and contracts, joined: Whole3, Whole4, Whole5, Whole6, Whole7, Whole8, Whole9, LawKit, LawTxt, RatPlain, RegGen, Rat0, RegGen2, Gcd, RatKit. -/
import Derived.Test.YtfofjalebhajhaaGreatDoorPartB
import Derived.Test.YtfofjalebhajhaaGreatDoorPartA
import Derived.WalkMore
import Derived.ScopeJumps
namespace Go.Proofs.YtfofjalebhajhaaGreatDoor
open Go Go.RowKit
def ArgsAt (s:Nat) (n1 n2:Bool) (v u:Value) (W:World):Prop :=
 (W.cell? ⟨s,0,none⟩=some (.bool n1)∧W.cell? ⟨s,1,none⟩=some v)∧(W.cell? ⟨s+1,0,none⟩=some (.bool n2)∧W.cell? ⟨s+1,1,none⟩=some u)∧s+1<W.heap.size
def NilAt (b:Nat) (W:World):Prop :=
 (W.cell? ⟨b,0,none⟩=some (.bool false)∧W.cell? ⟨b,1,none⟩=some (.slice none 0 0))∧(W.frozen? ⟨b,0,none⟩=false∧W.frozen? ⟨b,1,none⟩=false)∧b<W.heap.size
theorem ArgsAt.ext {s:Nat}{n1 n2:Bool}{v u:Value}{a b:World}(h:ArgsAt s n1 n2 v u a) (x:Ext a b):ArgsAt s n1 n2 v u b:=by
 obtain⟨⟨a1,a2⟩,⟨b1,b2⟩,hs⟩:=h;have:=x.size;refine⟨⟨cell_ext x a1 ?_,cell_ext x a2 ?_⟩,⟨cell_ext x b1 ?_,cell_ext x b2 ?_⟩,?_⟩ <;> (try simp only[]) <;> omega
theorem NilAt.ext {s:Nat}{a b:World}(h:NilAt s a) (x:Ext a b):NilAt s b:=by
 obtain⟨⟨a1,a2⟩,⟨b1,b2⟩,hs⟩:=h;have:=x.size;refine⟨⟨cell_ext x a1 ?_,cell_ext x a2 ?_⟩,⟨frozen_ext x b1 ?_,frozen_ext x b2 ?_⟩,?_⟩ <;> (try simp only[]) <;> omega
theorem argsAt_mk (w:World) (n1 n2:Bool) (v u:Value) (t1 t2:TypeId):ArgsAt w.heap.size n1 n2 v u ((w.alloc (.cells #[.bool n1,v] t1)).alloc (.cells #[.bool n2,u] t2)):=by
 unfold ArgsAt;simp [go_sem]
theorem nilAt_mk (w:World) (t:TypeId):NilAt w.heap.size (w.alloc (.cells #[.bool false,.slice none 0 0] t)):=by
 unfold NilAt;simp [go_sem]
theorem iv_sgn (z:Int):iv (decide (z<0)) (dig z.natAbs)=z:=by
 unfold iv;rw[val_dig];split <;> simp_all <;> omega
theorem RetI.by {w w':World}{z:Int}{e:Ending}(h:RetI w z e w'){b:Bool}{m:Nat}(hb:decide (z<0)=b) (hm:z.natAbs=m):∃ v,e = .returned (.agg #[.bool b,v])∧OwnL w.heap.size w' v (dig m)∧Ext w w':=by
 subst hb hm;exact h
theorem RetI.of {w w':World}{z:Int}{b:Bool}{m:Nat}{v:Value}(hb:decide (z<0)=b) (hm:z.natAbs=m) (h:OwnL w.heap.size w' v (dig m)) (x:Ext w w'):RetI w z (.returned (.agg #[.bool b,v])) w':=by
 subst hb hm;exact⟨v,rfl,h,x⟩
set_option maxHeartbeats 1000000 in
set_option maxRecDepth 100000 in
theorem ishow_calls {w:World}{v:Value}{A:List Nat}(hA:Limbs w v A) (hl:A.length≤65535) (neg:Bool) (s t:ByteArray) (hs:s.data.toList=showL (iv neg A).natAbs)
  (ht:t.data.toList=if iv neg A<0 then 45 :: s.data.toList else s.data.toList) (hsz:s.size≤4294967296) :
  Calls Tryz.prog 55 #[.agg #[.bool neg,v]] w fun e w'=>e = .returned (.string t)∧Ext w w':=by
 obtain⟨pa,pc,rfl,-,-,-⟩:=hA.open;have L1:=Hd hl;rw[iv_abs]at hs;have H:=Hd hs;have y0:=(Ext.refl w).alloc (.cells #[.bool neg,.slice pa A.length pc] 34)
 by_cases h0:iv neg A<0
 ·rw[if_pos h0]at ht
  have HT:Hid (ByteArray.mk #[45] ++ s=t):=by
   show _=_
   exact append_of (by rw[ht];rfl)
  have HS:Hid ((iv neg A).sign = -1):=Int.sign_eq_neg_one_of_neg h0
  have hsz1:((s.size:Int)+1≤9223372036854775807):=by omega
  clear hl hs ht h0 hsz
  go_enter Tryz.func55,Tryz.ntmps55
  go_wp2_with fail;refine (show_str (hA.ext y0) (by have:=L1.out;omega) s H.out).mono ?_;rintro e w1 ⟨rfl,x1⟩;obtain⟨c1,c2,-⟩:=box2 x1;go_wp2_with fail;refine (sign_calls (hA.ext (y0.trans x1)) (by have:=L1.out;omega) neg).mono ?_;rintro e w2 ⟨rfl,x2⟩;rw[HS.out];go_wp2_with fail;go_ret;exact⟨ret_eq (congrArg Value.string HT.out),y0.trans (x1.trans x2)⟩
 ·rw[if_neg h0]at ht
  have HT:Hid (s=t):=by
   show _=_
   rw[←Lib.mk_data s,←Lib.mk_data t,ht]
  obtain⟨k,hk⟩:∃ k,k=(iv neg A).sign:=⟨_,rfl⟩
  have HK:=Hd hk
  have hk0:¬ k<0:=by rw[hk,Int.sign_neg_iff];exact h0
  clear hl hs ht h0 hsz hk
  go_enter Tryz.func55,Tryz.ntmps55
  go_wp2_with fail;refine (show_str (hA.ext y0) (by have:=L1.out;omega) s H.out).mono ?_;rintro e w1 ⟨rfl,x1⟩;obtain⟨c1,c2,-⟩:=box2 x1;go_wp2_with fail;refine (sign_calls (hA.ext (y0.trans x1)) (by have:=L1.out;omega) neg).mono ?_;rintro e w2 ⟨rfl,x2⟩;rw[←HK.out];go_wp2_with fail;go_ret;exact⟨by rw[←HT.out];rfl,y0.trans (x1.trans x2)⟩
theorem make_ok {w:World}{v:Value}{A:List Nat}(hA:Limbs w v A) (hl:A.length≤65536) (neg:Bool){b:Bool}{m:Nat}(hb:decide (iv neg A<0)=b) (hm:(iv neg A).natAbs=m) :
  Calls Tryz.prog 83 #[.bool neg,v] w fun e w' => ∃ v,e = .returned (.agg #[.bool b,v])∧OwnL w.heap.size w' v (dig m)∧Ext w w' :=
 (make_calls hA hl neg).mono fun _ _ h=>h.by hb hm
theorem mul_iv (n1 n2:Bool) (A B:List Nat):iv (!(n1 == n2)) (dig (val A*val B))=iv n1 A*iv n2 B:=by
 unfold iv;rw[val_dig]
 cases n1 <;> cases n2 <;> simp [Int.neg_mul,Int.mul_neg]
theorem len_mul {A B:List Nat}(hA:∀ x∈A,x<Bs) (hB:∀ x∈B,x<Bs) (h:A.length+B.length≤65536):(dig (val A*val B)).length≤65536 :=
 dig_lmax (k:=A.length+B.length) (by rw[Nat.pow_add];exact Nat.mul_lt_mul'' (val_lt hA) (val_lt hB)) h
set_option maxHeartbeats 1000000 in
set_option maxRecDepth 100000 in
theorem imul_calls {w:World}{v u:Value}{A B:List Nat}(hA:Limbs w v A) (hB:Limbs w u B) (hl:A.length+B.length≤65536) (n1 n2:Bool) :
  Calls Tryz.prog 75 #[.agg #[.bool n1,v],.agg #[.bool n2,u]] w (RetI w (iv n1 A*iv n2 B)):=by
 obtain⟨pa,pc,rfl,-,-,-⟩:=hA.open;obtain⟨qa,qc,rfl,-,-,-⟩:=hB.open;have L1:=Hd hl
 obtain⟨b6,hb6⟩:∃ b,(!(n1 == n2))=b:=⟨_,rfl⟩
 have L3:=Hd (len_mul hA.2 hB.2 hl);have hz:=mul_iv n1 n2 A B;rw[hb6]at hz;have H6:=Hd hb6;clear hb6
 obtain⟨b8,hb8⟩:∃ b,decide (iv b6 (dig (val A*val B))<0)=b:=⟨_,rfl⟩
 obtain⟨m8,hm8⟩:∃ m,(iv b6 (dig (val A*val B))).natAbs=m:=⟨_,rfl⟩
 have HZ:=Hd hz;have H8:=Hd hb8;have K8:=Hd hm8;clear hz hb8 hm8;have y0:=(((Ext.refl w).alloc (.cells #[.bool n1,.slice pa A.length pc] 34)).alloc (.cells #[.bool n2,.slice qa B.length qc] 34)).alloc (.cells #[.bool false,.slice none 0 0] 34);have m0:=(argsAt_mk w n1 n2 (.slice pa A.length pc) (.slice qa B.length qc) 34 34).ext (eR.alloc (.cells #[.bool false,.slice none 0 0] 34));have e0:=nilAt_mk ((w.alloc (.cells #[.bool n1,.slice pa A.length pc] 34)).alloc (.cells #[.bool n2,.slice qa B.length qc] 34)) 34;rw[show ((w.alloc (.cells #[.bool n1,.slice pa A.length pc] 34)).alloc (.cells #[.bool n2,.slice qa B.length qc] 34)).heap.size=w.heap.size+1+1 by simp]at e0
 obtain⟨W0,hW0⟩:∃ W0,W0=(((w.alloc (.cells #[.bool n1,.slice pa A.length pc] 34)).alloc (.cells #[.bool n2,.slice qa B.length qc] 34)).alloc (.cells #[.bool false,.slice none 0 0] 34)):=⟨_,rfl⟩
 clear hl
 go_enter Tryz.func75,Tryz.ntmps75
 go_wp2_with fail;rw[←hW0]at y0 m0 e0 ⊢;clear hW0;have M0:=Hd m0;have E0:=Hd e0;obtain⟨⟨a1,a2⟩,⟨b1,b2⟩,-⟩:=m0;obtain⟨⟨c1,c2⟩,⟨d1,d2⟩,hs⟩:=e0
 have hne:¬ w.heap.size=w.heap.size+1+1:=by omega
 have hne':¬ w.heap.size+1+1=w.heap.size:=by omega
 go_region_held3 (fun W=>W.cell? ⟨w.heap.size,0,none⟩=some (.bool n1)∧W.cell? ⟨w.heap.size,1,none⟩=some (.slice pa A.length pc)∧W.cell? ⟨w.heap.size+1,0,none⟩=some (.bool n2)∧W.cell? ⟨w.heap.size+1,1,none⟩=some (.slice qa B.length qc)) (go_keep)
  (first
   | (go_at_call 73;refine (natmul_calls (hA.ext y0.drew) (hB.ext y0.drew) (lmax_16 L1.out)).mono ?_;rintro e w7 ⟨r7,rfl,hr7,x7⟩;obtain⟨⟨k1,k2⟩,⟨k3,k4⟩,-⟩:=M0.out.ext (((Ext.refl W0).drew).trans x7);obtain⟨⟨k5,k6⟩,⟨k7,k8⟩,-⟩:=E0.out.ext (((Ext.refl W0).drew).trans x7))
   | (go_at_call 83;rw[H6.out];refine (make_ok hr7.limbs L3.out b6 H8.out K8.out).mono ?_;rintro e w8 ⟨r8,rfl,hr8,x8⟩;obtain⟨⟨j1,j2⟩,⟨j3,j4⟩,-⟩:=M0.out.ext (((Ext.refl W0).drew).trans (x7.trans x8));obtain⟨⟨j5,j6⟩,⟨j7,j8⟩,js⟩:=E0.out.ext (((Ext.refl W0).drew).trans (x7.trans x8));obtain⟨sa,sc,rfl,-,-,-⟩:=hr8.limbs.open))
 go_wp2_with fail;refine bodyPost_ret (v:=.agg #[.bool b8,.slice sa (dig m8).length sc]) (by simp [results,Tryz.results75,go_sem,j5,j6]) rfl (by rw[←HZ.out];exact RetI.of H8.out K8.out ((hr8.set2 (by have:=x7.size;simp at this;omega) _ _).mono (by have:=x7.size;simp at this;omega)) (ext_box2 (y0.drew.trans (x7.trans x8)) (by omega) _ _))
def RetID (w:World) (x y:Int) (e:Ending) (w':World):Prop :=
 ∃ v u,e = .returned (.tuple #[.agg #[.bool (decide ((if y=0 then 0 else x / y)<0)),v],.agg #[.bool false,u],.int .i64 (if y=0 then 7 else 0)])∧OwnL w.heap.size w' v (dig (if y=0 then 0 else x / y).natAbs)∧OwnL w.heap.size w' u (dig (if y=0 then 0 else x % y).natAbs)∧Ext w w'
theorem div_pos {x:Int}{b r:Nat}{z:Int}(h1:x=(b:Int)*z+(r:Int)) (h2:r<b):x / (b:Int)=z∧x % (b:Int)=(r:Int):=by
 have hb:(0:Int)<b:=by omega
 exact (Int.ediv_emod_unique hb).2 ⟨by rw[h1,Int.add_comm],by omega,by omega⟩
end Go.Proofs.YtfofjalebhajhaaGreatDoor
namespace Go.Proofs.YtfofjalebhajhaaGreatDoor
open Go Go.RowKit
theorem RetID.no {w w':World}(x:Int) (h:Ext w w'):RetID w x 0 (.returned (.tuple #[.agg #[.bool false,.slice none 0 0],.agg #[.bool false,.slice none 0 0],.int .i64 7])) w':=by
 refine⟨_,_,rfl,?_,?_,h⟩ <;> simp only[if_true] <;> rw[show (0:Int).natAbs=0 from rfl,dig_zero] <;> exact OwnL.nil _ _
theorem RetID.of {w w':World}{x y q:Int}{r m:Nat}{b:Bool}{v u:Value}(hy:¬ y=0) (hq:x / y=q) (hr:x % y=(r:Int)) (hb:decide (q<0)=b) (hm:q.natAbs=m) (hv:OwnL w.heap.size w' v (dig m)) (hu:OwnL w.heap.size w' u (dig r)) (h:Ext w w') :
  RetID w x y (.returned (.tuple #[.agg #[.bool b,v],.agg #[.bool false,u],.int .i64 0])) w':=by
 subst hq hb hm;refine⟨v,u,by simp only[if_neg hy],?_,?_,h⟩
 ·simp only[if_neg hy];exact hv
 ·simp only[if_neg hy];rw[hr,Int.natAbs_natCast];exact hu
end Go.Proofs.YtfofjalebhajhaaGreatDoor
namespace Go.Proofs.YtfofjalebhajhaaGreatDoor
open Go Go.RowKit
noncomputable def errI (l:List UInt8):Nat:=if l.head? = some 45 then (if errR l.tail≠0 then errR l.tail else if readN l.tail=0 then 3 else 0) else errR l
noncomputable def readI (l:List UInt8):Int:=if errI l≠0 then 0 else if l.head? = some 45 then -(readN l.tail:Int) else (readN l:Int)
def RetIR (w:World) (k:Int) (z:Int) (e:Ending) (w':World):Prop :=
 ∃ v,e = .returned (.tuple #[.agg #[.bool (decide (z<0)),v],.int .i64 k])∧OwnL w.heap.size w' v (dig z.natAbs)∧Ext w w'
theorem RetIR.ok {w w':World}{l:List UInt8}{z:Int}{b:Bool}{m:Nat}{v:Value}(h:errI l=0) (hz:readI l=z) (hb:decide (z<0)=b) (hm:z.natAbs=m) (hv:OwnL w.heap.size w' v (dig m)) (x:Ext w w'):RetIR w (errI l:Nat) (readI l) (.returned (.tuple #[.agg #[.bool b,v],.int .i64 0])) w':=by
 subst hz hb hm;exact⟨_,by rw[h];rfl,hv,x⟩
end Go.Proofs.YtfofjalebhajhaaGreatDoor
namespace Go.Proofs.YtfofjalebhajhaaGreatDoor
open Go Go.RowKit
def IsI (w:World) (b:Bool) (v:Value) (m:Nat) (z:Int):Prop:=decide (z<0)=b∧z.natAbs=m∧Limbs w v (dig m)
theorem IsI.ext {w w':World}{b:Bool}{v:Value}{m:Nat}{z:Int}(h:IsI w b v m z) (x:Ext w w'):IsI w' b v m z:=⟨h.1,h.2.1,h.2.2.ext x⟩
theorem IsI.iv {w:World}{b:Bool}{v:Value}{m:Nat}{z:Int}(h:IsI w b v m z):iv b (dig m)=z:=by
 rw[←h.1,←h.2.1,iv_sgn]
theorem RetI.isI {w w':World}{z:Int}{e:Ending}(h:RetI w z e w'):∃ b v m,e = .returned (.agg #[.bool b,v])∧IsI w' b v m z∧Ext w w':=by
 obtain⟨v,rfl,h1,h2⟩:=h;exact⟨_,v,_,rfl,⟨rfl,rfl,h1.limbs⟩,h2⟩
end Go.Proofs.YtfofjalebhajhaaGreatDoor
namespace Go.Proofs.YtfofjalebhajhaaGreatDoor
open Go Go.RowKit
def InI (w:World) (b:Bool) (v:Value) (k:Nat) (z:Int):Prop:=∃ A,Limbs w v A∧iv b A=z∧A.length≤k
def LenI (k:Nat) (z:Int):Prop:=z.natAbs<Bs^k
def RetIs (w:World) (z:Int) (e:Ending) (w':World):Prop:=∃ b v m,e = .returned (.agg #[.bool b,v])∧IsI w' b v m z∧Ext w w'
theorem InI.ext {w w':World}{b:Bool}{v:Value}{k:Nat}{z:Int}(h:InI w b v k z) (x:Ext w w'):InI w' b v k z:=by
 obtain⟨A,h1,h2,h3⟩:=h;exact⟨A,h1.ext x,h2,h3⟩
theorem IsI.inI {w:World}{b:Bool}{v:Value}{m k:Nat}{z:Int}(h:IsI w b v m z) (hk:LenI k z):InI w b v k z :=
 ⟨dig m,h.2.2,h.iv,by rw[←h.2.1];exact dig_len_le hk⟩
theorem IsI.slice {w:World}{b:Bool}{v:Value}{m:Nat}{z:Int}(h:IsI w b v m z):∃ a n c,v = .slice a n c:=by
 obtain⟨a,c,h,-⟩:=h.2.2.open;exact⟨a,_,c,h⟩
theorem InI.slice {w:World}{b:Bool}{v:Value}{k:Nat}{z:Int}(h:InI w b v k z):∃ a n c,v = .slice a n c:=by
 obtain⟨A,h1,-⟩:=h;obtain⟨a,c,h,-⟩:=h1.open;exact⟨a,_,c,h⟩
theorem InI.len {w:World}{b:Bool}{v:Value}{k:Nat}{z:Int}(h:InI w b v k z):LenI k z:=by
 obtain⟨A,h1,h2,h3⟩:=h;unfold LenI;rw[←h2,iv_abs];exact Nat.lt_of_lt_of_le (val_lt h1.2) (Nat.pow_le_pow_right Bs_pos h3)
theorem RetI.is {w w':World}{z:Int}{e:Ending}(h:RetI w z e w'):RetIs w z e w':=h.isI
theorem LenI.mono {k l:Nat}{z:Int}(h:LenI k z) (hk:k≤l):LenI l z:=Nat.lt_of_lt_of_le h (Nat.pow_le_pow_right Bs_pos hk)
theorem LenI.small {z:Int}(h:z.natAbs≤9223372036854775808):LenI 1 z:=by unfold LenI;rw[Nat.pow_one,Bs_def];omega
theorem LenI.add {k:Nat}{x y:Int}(h1:LenI k x) (h2:LenI k y):LenI (k+1) (x+y):=by
 unfold LenI at *
 have c:2*Bs^k≤Bs^(k+1):=by rw[Nat.pow_succ,Nat.mul_comm (Bs^k)];exact Nat.mul_le_mul_right _ two_le_Bs
 generalize Bs^k=X at *
 generalize Bs^(k+1)=Y at *
 omega
theorem LenI.neg {k:Nat}{x:Int}(h1:LenI k x):LenI k (-x):=by unfold LenI at *;rwa [Int.natAbs_neg]
theorem LenI.mul {k l:Nat}{x y:Int}(h1:LenI k x) (h2:LenI l y):LenI (k+l) (x*y):=by
 unfold LenI at *
 rw[Int.natAbs_mul,Nat.pow_add];exact Nat.mul_lt_mul'' h1 h2
theorem cmp_is {w:World}{b1 b2:Bool}{v u:Value}{k l:Nat}{x y:Int}(hx:InI w b1 v k x) (hy:InI w b2 u l y) (hk:k≤65535) (hl:l≤65535) (s:Int) (hs:cmpI x y=s) :
  Calls Tryz.prog 77 #[.agg #[.bool b1,v],.agg #[.bool b2,u]] w fun e w'=>e = .returned (.int .i64 s)∧Ext w w':=by
 obtain⟨A,a1,rfl,a3⟩:=hx;obtain⟨B,c1,rfl,c3⟩:=hy;subst hs;exact icmp_calls a1 c1 (by omega) (by omega) b1 b2
end Go.Proofs.YtfofjalebhajhaaGreatDoor
namespace Go.Proofs.YtfofjalebhajhaaGreatDoor
open Go Go.RowKit
noncomputable def showI (z:Int):List UInt8:=if z<0 then 45 :: showL z.natAbs else showL z.natAbs
theorem show_is {w:World}{b:Bool}{v:Value}{k:Nat}{z:Int}(h:InI w b v k z) (hk:k≤65535) (t:ByteArray) (ht:t.data.toList=showI z) (hz:(showL z.natAbs).length≤4294967296) :
  Calls Tryz.prog 55 #[.agg #[.bool b,v]] w fun e w'=>e = .returned (.string t)∧Ext w w':=by
 obtain⟨A,a1,rfl,a3⟩:=h;obtain⟨s,hs⟩:=str_of (showL (iv b A).natAbs);exact ishow_calls a1 (by omega) b s t hs (by rw[ht,showI,hs]) (by rw[Lib.size_eq s,hs];exact hz)
theorem errI_neg (t:List UInt8):errI (45 :: t)=if errR t≠0 then errR t else if readN t=0 then 3 else 0:=by unfold errI;rw[if_pos (List.head?_cons ..),List.tail_cons]
theorem readI_neg (t:List UInt8) (h:errI (45 :: t)=0):readI (45 :: t) = -(readN t:Int):=by unfold readI;rw[if_neg (by rw[h];simp),if_pos (List.head?_cons ..),List.tail_cons]
def AwkAt (s t:Nat) (n1 n2 n3:Bool) (v1 v2 v3:Value) (W:World):Prop :=
 (W.cell? ⟨s,0,none⟩=some (.bool n1)∧W.cell? ⟨s,1,none⟩=some v1)∧(W.cell? ⟨s+1,0,none⟩=some (.bool n2)∧W.cell? ⟨s+1,1,none⟩=some v2)∧(W.cell? ⟨t,0,none⟩=some (.bool n3)∧W.cell? ⟨t,1,none⟩=some v3)∧s+1<W.heap.size∧t<W.heap.size
theorem AwkAt.ext {s t:Nat}{n1 n2 n3:Bool}{v1 v2 v3:Value}{a b:World}(h:AwkAt s t n1 n2 n3 v1 v2 v3 a) (x:Ext a b):AwkAt s t n1 n2 n3 v1 v2 v3 b:=by
 obtain⟨⟨a1,a2⟩,⟨b1,b2⟩,⟨c1,c2⟩,hs,ht⟩:=h;have:=x.size;refine⟨⟨cell_ext x a1 ?_,cell_ext x a2 ?_⟩,⟨cell_ext x b1 ?_,cell_ext x b2 ?_⟩,⟨cell_ext x c1 ?_,cell_ext x c2 ?_⟩,?_,?_⟩ <;> (try simp only[]) <;> omega
end Go.Proofs.YtfofjalebhajhaaGreatDoor
namespace Go.Proofs.YtfofjalebhajhaaGreatDoor
open Go Go.RowKit
end Go.Proofs.YtfofjalebhajhaaGreatDoor
namespace Go.Proofs.YtfofjalebhajhaaGreatDoor
open Go Go.RowKit
def At (s o:Nat) (u:Value) (W:World):Prop:=W.cell? ⟨s,o,none⟩=some u∧s<W.heap.size
theorem At.ext {s o:Nat}{u:Value}{a b:World}(h:At s o u a) (x:Ext a b):At s o u b :=
 ⟨cell_ext x h.1 h.2,Nat.lt_of_lt_of_le h.2 x.size⟩
theorem At.n0 {w:World}{C:Array Value}{t:TypeId}{o:Nat}{u:Value}(h:C[o]? = some u):At w.heap.size o u (w.alloc (.cells C t)):=by
 refine⟨?_,by simp⟩;rw[cell_of_row _ w.heap.size _ C t (0,0) (heap_alloc_new w _)];exact h
theorem At.n1 {w:World}{x1:Obj}{C:Array Value}{t:TypeId}{o:Nat}{u:Value}(h:C[o]? = some u):At (w.heap.size+1) o u ((w.alloc x1).alloc (.cells C t)):=by
 have:=At.n0 (w:=w.alloc x1) (t:=t) h;simpa using this
theorem At.n2 {w:World}{x1 x2:Obj}{C:Array Value}{t:TypeId}{o:Nat}{u:Value}(h:C[o]? = some u):At (w.heap.size+1+1) o u (((w.alloc x1).alloc x2).alloc (.cells C t)):=by
 have:=At.n1 (w:=w.alloc x1) (x1:=x2) (t:=t) h;simpa using this
theorem At.n3 {w:World}{x1 x2 x3:Obj}{C:Array Value}{t:TypeId}{o:Nat}{u:Value}(h:C[o]? = some u):At (w.heap.size+1+1+1) o u ((((w.alloc x1).alloc x2).alloc x3).alloc (.cells C t)):=by
 have:=At.n2 (w:=w.alloc x1) (x1:=x2) (x2:=x3) (t:=t) h;simpa using this
theorem At.n4 {w:World}{x1 x2 x3 x4:Obj}{C:Array Value}{t:TypeId}{o:Nat}{u:Value}(h:C[o]? = some u):At (w.heap.size+1+1+1+1) o u (((((w.alloc x1).alloc x2).alloc x3).alloc x4).alloc (.cells C t)):=by
 have:=At.n3 (w:=w.alloc x1) (x1:=x2) (x2:=x3) (x3:=x4) (t:=t) h;simpa using this
theorem At.n5 {w:World}{x1 x2 x3 x4 x5:Obj}{C:Array Value}{t:TypeId}{o:Nat}{u:Value}(h:C[o]? = some u):At (w.heap.size+1+1+1+1+1) o u ((((((w.alloc x1).alloc x2).alloc x3).alloc x4).alloc x5).alloc (.cells C t)):=by
 have:=At.n4 (w:=w.alloc x1) (x1:=x2) (x2:=x3) (x3:=x4) (x4:=x5) (t:=t) h;simpa using this
theorem zero_is (w:World):IsI w false (.slice none 0 0) 0 0:=⟨by decide,rfl,by rw[dig_zero];exact Limbs.nil w⟩
theorem LenI.zero:LenI 1 0:=LenI.small (by decide)
theorem zero_ext {w:World}{v:Value}{A:List Nat}(hA:Limbs w v A) (hl:A.length≤65536) (b:Bool) (hb:decide (val A=0)=b) :
  Calls Tryz.prog 100 #[v] w fun e w'=>e = .returned (.bool b)∧Ext w w':=by
 refine (zero_bool hA (lmax_16 hl) b hb).mono ?_;rintro e w' ⟨h1,rfl⟩;exact⟨h1,Ext.refl _⟩
theorem cmpI_swap (x y:Int):cmpI y x = -cmpI x y:=by unfold cmpI;split <;> split <;> (try split) <;> omega
theorem cmpI_self (x:Int):cmpI x x=0:=by unfold cmpI;simp
theorem cmpI_zero {x y:Int}:cmpI x y=0↔x=y:=by unfold cmpI;constructor <;> intro h <;> (repeat' split at h) <;> (repeat' split) <;> omega
end Go.Proofs.YtfofjalebhajhaaGreatDoor
namespace Go.Proofs.YtfofjalebhajhaaGreatDoor
open Go Go.RowKit
theorem LenI.show {k:Nat}{z:Int}(h:LenI k z) (hk:1≤k):(showL z.natAbs).length≤20*k:=by
 refine (showL_len (by omega)).2 (Nat.lt_of_lt_of_le h ?_);rw[show (10:Nat)^(20*k)=(10^20)^k by rw[←Nat.pow_mul]];exact Nat.pow_le_pow_left (by rw[Bs_def];decide +kernel) k
theorem showI_len {k:Nat}{z:Int}(h:LenI k z) (hk:1≤k):(showI z).length≤20*k+1:=by
 have:=h.show hk;unfold showI
 split
 ·rw[List.length_cons];omega
 ·omega
theorem back_show {l:List UInt8}(h:errI l=0):showI (readI l)=l:=by
 by_cases h45:l.head? = some 45
 ·obtain⟨t,rfl⟩:∃ t,l=45 :: t:=by
   cases l with
   | nil=>simp at h45
   | cons a t=>simp at h45;exact⟨t,by rw[h45]⟩
  rw[readI_neg _ h];rw[errI_neg]at h
  have h1:errR t=0:=by
   rcases Nat.eq_zero_or_pos (errR t) with e | e
   ·exact e
   ·rw[if_pos (by omega)]at h;omega
  have h2:readN t≠0:=by
   intro e;rw[if_neg (by omega),if_pos e]at h;omega
  unfold showI;rw[if_pos (by omega),show (-(readN t:Int)).natAbs=readN t by omega,show_read h1]
 ·have h1:errR l=0:=by unfold errI at h;rw[if_neg h45]at h;exact h
  have h2:readI l=(readN l:Int):=by unfold readI;rw[if_neg (by rw[h];simp),if_neg h45]
  rw[h2];unfold showI;rw[if_neg (by omega),show ((readN l:Nat):Int).natAbs=readN l by omega,show_read h1]
def Fr (s o:Nat) (W:World):Prop:=W.frozen? ⟨s,o,none⟩=false∧s<W.heap.size
theorem Fr.ext {s o:Nat}{a b:World}(h:Fr s o a) (x:Ext a b):Fr s o b :=
 ⟨frozen_ext x h.1 h.2,Nat.lt_of_lt_of_le h.2 x.size⟩
theorem Fr.n0 {w:World}{C:Array Value}{t:TypeId}{o:Nat}:Fr w.heap.size o (w.alloc (.cells C t)):=⟨by simp [go_sem],by simp⟩
end Go.Proofs.YtfofjalebhajhaaGreatDoor
namespace Go.Proofs.YtfofjalebhajhaaGreatDoor
theorem mk_num {z:Int}{d:Nat}(hd:d≠0):(mkRat z d).num=z / (z.natAbs.gcd d:Nat):=by
 rw[Rat.num_mkRat,if_neg hd,Nat.gcd_comm]
theorem mk_den {z:Int}{d:Nat}(hd:d≠0):(mkRat z d).den=d / z.natAbs.gcd d:=by
 rw[Rat.den_mkRat,if_neg hd,Nat.gcd_comm]
theorem mk_abs {z:Int}{d:Nat}(hd:d≠0):(mkRat z d).num.natAbs=z.natAbs / z.natAbs.gcd d:=by
 rw[mk_num hd,Int.natAbs_ediv_of_dvd]
 ·rfl
 ·exact Int.ofNat_dvd_left.2 (Nat.gcd_dvd_left _ _)
theorem mk_sign {z:Int}{d:Nat}(hd:d≠0):(mkRat z d).num<0↔z<0:=by
 have hg:0<z.natAbs.gcd d:=Nat.gcd_pos_of_pos_right _ (by omega);rw[mk_num hd];have hdv:((z.natAbs.gcd d:Nat):Int) ∣ z:=Int.ofNat_dvd_left.2 (Nat.gcd_dvd_left _ _);obtain⟨c,hc⟩:=hdv
 have hg':(0:Int)<(z.natAbs.gcd d:Nat):=by omega
 generalize ((z.natAbs.gcd d:Nat):Int)=g at *
 subst hc;rw[Int.mul_ediv_cancel_left _ (by omega)]
 constructor <;> intro h
 ·exact Int.mul_neg_of_pos_of_neg hg' h
 ·rcases Int.lt_or_le c 0 with h1 | h1
  ·exact h1
  ·have:=Int.mul_nonneg (Int.le_of_lt hg') h1;omega
theorem iv_mk {b:Bool}{A:List Nat}{d:Nat}(hd:d≠0):iv b (dig (val A / (val A).gcd d))=(mkRat (iv b A) d).num:=by
 have h1:=mk_abs (z:=iv b A) hd;have h2:=mk_sign (z:=iv b A) hd;rw[iv_abs]at h1;rw[←h1];unfold iv at h2 ⊢;rw[val_dig]
 cases b
 ·simp only[Bool.false_eq_true,if_false]at h2 ⊢;omega
 ·simp only[if_true]at h2 ⊢; 
  rcases Nat.eq_zero_or_pos (val A) with h0 | h0
  ·have:(mkRat (-(val A:Int)) d).num=0:=by rw[h0];simp
   rw[this];rfl
  ·have:=h2.2 (by omega);omega
def LenR (k:Nat) (q:Rat):Prop:=q.num.natAbs<Bs^k∧q.den<Bs^k
theorem LenR.mono {k l:Nat}{q:Rat}(h:LenR k q) (hk:k≤l):LenR l q :=
 ⟨Nat.lt_of_lt_of_le h.1 (Nat.pow_le_pow_right Bs_pos hk),Nat.lt_of_lt_of_le h.2 (Nat.pow_le_pow_right Bs_pos hk)⟩
theorem one_lt_pow {k:Nat}(hk:1≤k):1<Bs^k:=Nat.lt_of_lt_of_le (by rw[Nat.pow_one];exact two_le_Bs) (Nat.pow_le_pow_right Bs_pos hk)
theorem LenR.mk {k:Nat}{z:Int}{d:Nat}(hk:1≤k) (hz:z.natAbs<Bs^k) (hd:d<Bs^k):LenR k (mkRat z d):=by
 by_cases h:d=0
 ·subst h;rw[Rat.mkRat_zero];exact⟨Nat.pow_pos Bs_pos,one_lt_pow hk⟩
 ·exact⟨by rw[mk_abs h];exact Nat.lt_of_le_of_lt (Nat.div_le_self _ _) hz,by rw[mk_den h];exact Nat.lt_of_le_of_lt (Nat.div_le_self _ _) hd⟩
theorem LenR.neg {k:Nat}{q:Rat}(h:LenR k q):LenR k (-q):=by
 unfold LenR at *;rw[Rat.neg_num,Rat.neg_den,Int.natAbs_neg];exact h
theorem LenR.pos {k:Nat}{q:Rat}(h:LenR k q):1≤k:=by
 rcases Nat.eq_zero_or_pos k with e | e
 ·subst e;have h1:=h.2;have h2:=q.den_pos;simp at h1;omega
 ·exact e
theorem natAbs_add_lt {x y:Int}{X:Nat}(hx:x.natAbs<X) (hy:y.natAbs<X):(x+y).natAbs<2*X:=by omega
theorem LenR.add {k l:Nat}{a b:Rat}(h1:LenR k a) (h2:LenR l b):LenR (k+l+1) (a+b):=by
 have hb:2*Bs^(k+l)≤Bs^(k+l+1):=by rw[Nat.pow_succ,Nat.mul_comm (Bs^(k+l))];exact Nat.mul_le_mul_right _ two_le_Bs
 have p1:(a.num*b.den).natAbs<Bs^(k+l):=by rw[Int.natAbs_mul,Nat.pow_add];exact Nat.mul_lt_mul'' h1.1 (by simpa using h2.2)
 have p2:(b.num*a.den).natAbs<Bs^(k+l):=by rw[Int.natAbs_mul,Nat.pow_add,Nat.mul_comm];exact Nat.mul_lt_mul'' (by simpa using h1.2) h2.1
 have p3:a.den*b.den<Bs^(k+l):=by rw[Nat.pow_add];exact Nat.mul_lt_mul'' h1.2 h2.2
 rw[Rat.add_def'];exact LenR.mk (by omega) (Nat.lt_of_lt_of_le (natAbs_add_lt p1 p2) hb) (by omega)
theorem LenR.mul {k l:Nat}{a b:Rat}(h1:LenR k a) (h2:LenR l b):LenR (k+l) (a*b):=by
 have:=h1.pos;rw[Rat.mul_def'];exact LenR.mk (by omega) (by rw[Int.natAbs_mul,Nat.pow_add];exact Nat.mul_lt_mul'' h1.1 h2.1) (by rw[Nat.pow_add];exact Nat.mul_lt_mul'' h1.2 h2.2)
theorem LenR.int {k:Nat}{z:Int}(h:LenI k z) (hk:1≤k):LenR k (z:Rat):=by
 unfold LenR;rw[Rat.num_intCast,Rat.den_intCast];exact⟨h,one_lt_pow hk⟩
theorem mkRat_one' (z:Int):mkRat z 1=(z:Rat):=by
 rw[Rat.mkRat_eq_div];rw[Rat.div_def]
 have:((1:Nat):Rat)⁻¹ = 1:=by decide +kernel
 rw[this,Rat.mul_one]
def cmpR (a b:Rat):Int:=cmpI (a.num*b.den) (b.num*a.den)
theorem cmpR_lt {a b:Rat}:cmpR a b = -1↔a<b:=by
 rw[Rat.lt_iff];unfold cmpR cmpI
 constructor <;> intro h
 ·split at h
  ·assumption
  ·split at h <;> omega
 ·rw[if_pos h]
theorem cmpR_gt {a b:Rat}:cmpR a b=1↔b<a:=by
 rw[Rat.lt_iff];unfold cmpR cmpI
 constructor <;> intro h
 ·split at h
  ·omega
  ·split at h
   ·assumption
   ·omega
 ·rw[if_neg (by omega),if_pos h]
theorem cmpR_eq {a b:Rat}:cmpR a b=0↔a=b:=by
 rw[Rat.eq_iff_mul_eq_mul];unfold cmpR cmpI
 constructor <;> intro h
 ·split at h
  ·omega
  ·split at h <;> omega
 ·rw[if_neg (by omega),if_neg (by omega)]
theorem cmpR_three (a b:Rat):cmpR a b = -1∨cmpR a b=0∨cmpR a b=1:=by
 unfold cmpR cmpI;split;· exact .inl rfl
 split;· exact .inr (.inr rfl)
 exact .inr (.inl rfl)
theorem cmpR_range (a b:Rat):-1≤cmpR a b∧cmpR a b≤1:=by rcases cmpR_three a b with h | h | h <;> rw[h] <;> decide
theorem cmpR_swap (a b:Rat):cmpR b a = -cmpR a b:=by
 rcases cmpR_three a b with h | h | h
 ·rw[h,cmpR_gt.2 (cmpR_lt.1 h)];rfl
 ·rw[h,cmpR_eq.2 (cmpR_eq.1 h).symm];rfl
 ·rw[h,cmpR_lt.2 (cmpR_gt.1 h)]
theorem cmpR_iff {a b c d:Rat}(h1:a<b↔c<d) (h2:b<a↔d<c):cmpR a b=cmpR c d:=by
 rcases cmpR_three a b with h | h | h
 ·rw[h,cmpR_lt.2 (h1.1 (cmpR_lt.1 h))]
 ·have e:=cmpR_eq.1 h
  have n1:¬ c<d:=fun k=>by have:=h1.2 k;rw[e]at this;exact Rat.lt_irrefl this
  have n2:¬ d<c:=fun k=>by have:=h2.2 k;rw[e]at this;exact Rat.lt_irrefl this
  rw[h,eq_comm,cmpR_eq];exact Rat.le_antisymm (Rat.not_lt.1 n2) (Rat.not_lt.1 n1)
 ·rw[h,cmpR_gt.2 (h2.1 (cmpR_gt.1 h))]
theorem cmpR_neg (a b:Rat):cmpR (-a) (-b) = -cmpR a b:=by
 rw[←cmpR_swap];exact cmpR_iff Rat.neg_lt_neg_iff Rat.neg_lt_neg_iff
theorem cmpR_trans {a b c:Rat}(h1:cmpR a b≤0) (h2:cmpR b c≤0):cmpR a c≤0:=by
 have le:∀ {x y:Rat},cmpR x y≤0↔x≤y:=fun {x y}=>by
  rw[←Rat.not_lt,←cmpR_gt];rcases cmpR_three x y with h | h | h <;> rw[h] <;> decide
 exact le.2 (Rat.le_trans (le.1 h1) (le.1 h2))
theorem gcd_step (a b:Nat):Nat.gcd b (a % b)=Nat.gcd a b:=by
 rw[Nat.gcd_comm b,←Nat.gcd_rec,Nat.gcd_comm]
end Go.Proofs.YtfofjalebhajhaaGreatDoor
namespace Go.Proofs.YtfofjalebhajhaaGreatDoor
open Go Go.RowKit
def notBox:List TypeId:=[53, 3, 2]
def NoI:Value→Prop
 | .int .u64 _=>False
 | _=>True
def Bx (n s:Nat) (w:World):Prop:=∃ (cur:Array Value) (t:TypeId),w.heap[s]? = some (.cells cur t (0,0))∧(cur.size=n∧n≤3)∧t ∉ notBox ∧ ∀ (o:Nat) (u:Value),cur[o]? = some u→NoI u
theorem Bx.lt {n s:Nat}{w:World}(h:Bx n s w):s<w.heap.size:=by
 obtain⟨cur,t,h1,-⟩:=h;exact (Array.getElem?_eq_some_iff.1 h1).1
theorem Bx.cell {n s:Nat}{w:World}(h:Bx n s w){o:Nat}(ho:o<n):∃ u,w.cell? ⟨s,o,none⟩=some u∧NoI u:=by
 obtain⟨cur,t,h1,⟨h2,-⟩,-,h3⟩:=h;exact⟨cur[o]'(by omega),by simp [World.cell?,h1,h2,ho],h3 o _ (Array.getElem?_eq_getElem (by omega))⟩
theorem Bx.noI {n s:Nat}{w:World}(h:Bx n s w){o:Nat}{u:Value}(hu:w.cell? ⟨s,o,none⟩=some u):NoI u:=by
 obtain⟨cur,t,h1,⟨h2,-⟩,-,h3⟩:=h;simp only[World.cell?,h1,Option.isSome_none,Bool.false_eq_true,if_false]at hu;exact h3 o u hu
theorem Bx.free {n s:Nat}{w:World}(h:Bx n s w) (o:Nat):w.frozen? ⟨s,o,none⟩=false:=by
 obtain⟨cur,t,h1,-⟩:=h;simp [World.frozen?,h1]
theorem Bx.inj {n m s:Nat}{w:World}(h:Bx n s w) (k:Bx m s w):n=m:=by
 obtain⟨cur,t,h1,⟨h2,-⟩,-⟩:=h;obtain⟨cur',t',k1,⟨k2,-⟩,-⟩:=k;rw[h1]at k1
 injection k1 with k1
 injection k1 with k1
 rw[←h2,←k2,k1]
structure Gr (w w':World):Prop where
 size:w.heap.size≤w'.heap.size
 blk:∀ b,b<w.heap.size→w'.heap[b]? = w.heap[b]? ∨ ∃ n,Bx n b w∧Bx n b w'
theorem Gr.refl (w:World):Gr w w:=⟨Nat.le_refl _,fun _ _ => .inl rfl⟩
theorem Bx.of_eq {n s:Nat}{w w':World}(h:Bx n s w) (e:w'.heap[s]? = w.heap[s]?):Bx n s w':=by
 obtain⟨cur,t,h1,h2⟩:=h;exact⟨cur,t,by rw[e];exact h1,h2⟩
theorem Bx.gr {n s:Nat}{w w':World}(h:Bx n s w) (g:Gr w w'):Bx n s w':=by
 rcases g.blk s h.lt with e | ⟨m,h1,h2⟩
 ·exact h.of_eq e
 ·rw[h.inj h1];exact h2
theorem Gr.trans {a b c:World}(h:Gr a b) (k:Gr b c):Gr a c:=by
 refine⟨Nat.le_trans h.size k.size,fun s hs=>?_⟩
 rcases h.blk s hs with e | ⟨n,h1,h2⟩
 ·rcases k.blk s (Nat.lt_of_lt_of_le hs h.size) with e' | ⟨n,k1,k2⟩
  ·exact .inl (e'.trans e)
  ·exact .inr ⟨n,k1.of_eq e.symm,k2⟩
 ·exact .inr ⟨n,h1,h2.gr k⟩
theorem Ext.gr {w w':World}(h:Ext w w'):Gr w w':=⟨h.size,fun b hb => .inl (h.block b hb)⟩
theorem Limbs.gr {w w':World}{v:Value}{A:List Nat}(h:Limbs w v A) (g:Gr w w'):Limbs w' v A:=by
 obtain⟨⟨h1,a,cap,h2,h3,h4,h5,h6⟩,h7⟩:=h;refine⟨⟨h1,a,cap,h2,h3,h4,h5,fun p hp h0=>?_⟩,h7⟩;obtain⟨q1,q2,q3⟩:=h6 p hp h0;refine⟨q1,Nat.lt_of_lt_of_le q2 g.size,fun j hj=>?_⟩
 rcases g.blk p.block q2 with e | ⟨n,k1,k2⟩
 ·rw[←q3 j hj];exact World.cell?_of_block (w:=w) e
 ·have hc:=q3 j hj
  have hl:(A.map lv)[j]=lv (A[j]'(by simpa using hj)):=by simp
  rw[hl]at hc;exact (k1.noI hc).elim
theorem IsI.gr {w w':World}{b:Bool}{v:Value}{m:Nat}{z:Int}(h:IsI w b v m z) (g:Gr w w'):IsI w' b v m z:=⟨h.1,h.2.1,h.2.2.gr g⟩
theorem InI.gr {w w':World}{b:Bool}{v:Value}{k:Nat}{z:Int}(h:InI w b v k z) (g:Gr w w'):InI w' b v k z:=by
 obtain⟨A,a1,a2,a3⟩:=h;exact⟨A,a1.gr g,a2,a3⟩
theorem Own.gr {B:Nat}{e:TypeId}{s:Nat}{w w':World}{v:Value}{n:Nat}{xs:List Value}(h:Own B e s w v n xs) (he:e∈notBox) (k:Gr w w'):Own B e s w' v n xs:=by
 rcases h with⟨h1,h2⟩ | ⟨a,rfl,rfl,rfl,h⟩
 ·refine .inl ⟨h1,?_⟩
  rcases h2 with h2 | ⟨g,cap,cur,rfl,hg,hh,rest⟩
  ·exact .inl h2
  ·refine .inr ⟨g,cap,cur,rfl,hg,?_,rest⟩
   rcases k.blk g (Array.getElem?_eq_some_iff.1 hh).1 with e' | ⟨m,k1,-⟩
   ·rw[e'];exact hh
   ·obtain⟨cur',t,k1,-,k3,-⟩:=k1;rw[hh]at k1
    injection k1 with k1
    injection k1 with _ k1
    exact absurd (k1 ▸ he) k3
 ·exact .inr ⟨a,rfl,rfl,rfl,fun p hp=>⟨(h p hp).1,Nat.lt_of_lt_of_le (h p hp).2 k.size⟩⟩
theorem OwnL.gr {B:Nat}{w w':World}{v:Value}{A:List Nat}(h:OwnL B w v A) (k:Gr w w'):OwnL B w' v A:=⟨h.1.gr (by decide) k,h.2⟩
def setRow (s:Nat):Nat→List Value→World→World
 | _,[],w=>w
 | o,c :: cs,w=>setRow s (o+1) cs (w.setCell ⟨s,o,none⟩ c)
theorem setRow_size (s:Nat):∀ (cs:List Value) (o:Nat) (w:World),(setRow s o cs w).heap.size=w.heap.size
 | [],_,_=>rfl
 | c :: cs,o,w=>by rw[setRow,setRow_size s cs];simp [World.setCell]
theorem setRow_other (s b:Nat) (h:b≠s):∀ (cs:List Value) (o:Nat) (w:World),(setRow s o cs w).heap[b]? = w.heap[b]?
 | [],_,_=>rfl
 | c :: cs,o,w=>by rw[setRow,setRow_other s b h cs];exact Below.heap_setCell _ _ _ _ h
theorem setRow_row (s:Nat):∀ (cs:List Value) (o:Nat) (w:World) (cur:Array Value) (t:TypeId),w.heap[s]? = some (.cells cur t (0,0))→o+cs.length≤cur.size →
  ∃ cur',(setRow s o cs w).heap[s]? = some (.cells cur' t (0,0))∧cur'.size=cur.size∧(∀ j,j<o→cur'[j]? = cur[j]?)∧(∀ j,j<cs.length→cur'[o+j]? = cs[j]?)∧(∀ j,o+cs.length≤j→cur'[j]? = cur[j]?)
 | [],o,w,cur,t,h,_=>⟨cur,h,rfl,fun _ _=>rfl,fun j hj=>absurd hj (by simp),fun _ _=>rfl⟩
 | c :: cs,o,w,cur,t,h,hl=>by
  simp only[List.length_cons]at hl
  have h':(w.setCell ⟨s,o,none⟩ c).heap[s]? = some (.cells (cur.setIfInBounds o c) t (0,0)):=by simp [World.setCell,Array.getElem?_modify,h]
  obtain⟨cur',e1,e2,e3,e4,e5⟩:=setRow_row s cs (o+1) (w.setCell ⟨s,o,none⟩ c) _ t h' (by simp;omega);refine⟨cur',e1,by rw[e2];simp,fun j hj=>?_,fun j hj=>?_,fun j hj=>?_⟩
  ·rw[e3 j (by omega),Array.getElem?_setIfInBounds_ne (by omega)]
  ·cases j with
   | zero =>
    rw[Nat.add_zero,e3 o (by omega),Array.getElem?_setIfInBounds_self_of_lt (by omega)];rfl
   | succ j =>
    have:=e4 j (by simpa using hj);rw[show o+(j+1)=o+1+j by omega,this];rfl
  ·simp only[List.length_cons]at hj;rw[e5 j (by omega),Array.getElem?_setIfInBounds_ne (by omega)]
theorem setRow_bx {n s:Nat}{w:World}(h:Bx n s w){cs:List Value}(hl:cs.length=n) (hc:∀ u∈cs,NoI u):Bx n s (setRow s 0 cs w) ∧ ∀ o u,cs[o]? = some u→At s o u (setRow s 0 cs w):=by
 obtain⟨cur,t,h1,⟨h2,h2b⟩,h3,h4⟩:=h;obtain⟨cur',e1,e2,-,e4,e5⟩:=setRow_row s cs 0 w cur t h1 (by omega);refine⟨⟨cur',t,e1,⟨by omega,h2b⟩,h3,fun o u hu=>?_⟩,fun o u hu=>⟨?_,(Array.getElem?_eq_some_iff.1 e1).1⟩⟩
 ·rcases Nat.lt_or_ge o cs.length with g | g
  ·have:=e4 o g;rw[Nat.zero_add]at this;rw[this]at hu;exact hc u (List.mem_of_getElem? hu)
  ·rw[e5 o (by omega)]at hu;exact h4 o u hu
 ·have hlt:o<cs.length:=(List.getElem?_eq_some_iff.1 hu).1;have:=e4 o hlt;rw[Nat.zero_add,hu]at this;simp [World.cell?,e1,this]
theorem setRow_gr {n s:Nat}{w:World}(h:Bx n s w){cs:List Value}(hl:cs.length=n) (hc:∀ u∈cs,NoI u):Gr w (setRow s 0 cs w):=by
 refine⟨by rw[setRow_size];exact Nat.le_refl _,fun b _=>?_⟩
 by_cases e:b=s
 ·subst e;exact .inr ⟨n,h,(setRow_bx h hl hc).1⟩
 ·exact .inl (setRow_other s b e cs 0 w)
theorem setRow_below (s B:Nat) (h:B≤s):∀ (cs:List Value) (o:Nat){a w:World},Below B a w→Below B a (setRow s o cs w)
 | [],_,_,_,k=>k
 | _ :: cs,o,_,_,k=>setRow_below s B h cs (o+1) (k.setCell h _)
theorem At.setRow {s t o:Nat}{u:Value}{w:World}(h:At t o u w) (hne:t≠s) (cs:List Value) (k:Nat):At t o u (setRow s k cs w) :=
 ⟨by rw[←h.1];exact World.cell?_of_block (w:=w) (setRow_other s t hne cs k w),by rw[setRow_size];exact h.2⟩
structure Sg where
 holds:Value→World→Prop
 mono:∀ v w w',holds v w→Gr w w'→holds v w'
def Sg.val (u:Value):Sg:=⟨fun v _=>v=u,fun _ _ _ h _=>h⟩
def Sg.any:Sg:=⟨fun _ _=>True,fun _ _ _ h _=>h⟩
def Sg.box (n B:Nat):Sg:=⟨fun v w => ∃ s,v = .pointer (some ⟨s,0,none⟩)∧B≤s∧Bx n s w,fun _ _ _ ⟨s,h,hl,a⟩ x=>⟨s,h,hl,a.gr x⟩⟩
inductive BoxRef where
 | op (j:Nat)
 | old (n:Nat)
deriving DecidableEq
def BoxRef.blk (ops:Array Oper) (a:Act) (ob:List (Nat × List (Nat × Value))):BoxRef→Nat
 | .op j=>blkOf (at_ ops a j)
 | .old n=>((ob[n]?).map (·.1)).getD 0
def cellsOld (ob:List (Nat × List (Nat × Value))) (n:Nat):List (Nat × Nat × Value):=match ob[n]? with | none => [] | some x=>x.2.map fun q=>(x.1,q.1,q.2)
def AllAt' (l:List (Nat × Nat × Value)) (w:World):Prop:=∀ p∈l,At p.1 p.2.1 p.2.2 w
theorem AllAt'.ext {l:List (Nat × Nat × Value)}{w w':World}(h:AllAt' l w) (x:Ext w w'):AllAt' l w':=fun p hp=>(h p hp).ext x
theorem AllAt'.nil (w:World):AllAt' [] w:=fun _ h=>by cases h
theorem AllAt'.cons {s o:Nat}{u:Value}{l:List (Nat × Nat × Value)}{w:World}(h:At s o u w) (k:AllAt' l w):AllAt' ((s,o,u) :: l) w:=fun p hp=>by
 rcases List.mem_cons.1 hp with rfl | hp
 ·exact h
 ·exact k p hp
theorem AllAt'.get {l:List (Nat × Nat × Value)}{w:World}(h:AllAt' l w){s o:Nat}{u:Value}(i:Nat) (hi:l[i]? = some (s,o,u)):w.cell? ⟨s,o,none⟩=some u:=(h (s,o,u) (List.mem_of_getElem? hi)).1
theorem AllAt'.at {l:List (Nat × Nat × Value)}{w:World}(h:AllAt' l w){s o:Nat}{u:Value}(i:Nat) (hi:l[i]? = some (s,o,u)):At s o u w:=h (s,o,u) (List.mem_of_getElem? hi)
theorem AllAt'.setRow {l:List (Nat × Nat × Value)}{w:World}(h:AllAt' l w){s:Nat}(hne:∀ p∈l,p.1≠s) (cs:List Value):AllAt' l (setRow s 0 cs w):=fun p hp=>(h p hp).setRow (hne p hp) cs 0
theorem slot_of' {D:List Nat}{a0 a:Act}(h:Agree D a0 a){k:Nat}{v:Value}(hk:k ∉ D) (hv:sl a0 k=v):a.tmps[k]?.getD undef=v:=by rw[←show sl a k=a.tmps[k]?.getD undef by simp [sl],h.slots k hk,hv]
theorem slot_is' {a:Act}{k:Nat}{v:Value}(h:sl a k=v):a.tmps[k]?.getD undef=v:=by rw[←show sl a k=a.tmps[k]?.getD undef by simp [sl],h]
def bindsOf (o:Oper):List Nat:=(o.after.toList.filter binds).map (·.on)
def dep (ops:Array Oper):Nat→Nat→Nat→Bool
 | 0,_,_=>false
 | f+1,i,j=>match ops[i]? with
  | none=>false
  | some o=>(bindsOf o).any fun e=>e == j || dep ops f e j
def EachOp' (C:Nat→Oper→Prop):Nat→List Oper→Prop
 | _,[]=>True
 | n,o :: l=>C n o∧EachOp' C (n+1) l
theorem EachOp'.get {C:Nat→Oper→Prop}:∀ (l:List Oper) (n i:Nat) (o:Oper),EachOp' C n l→l[i]? = some o→C (n+i) o
 | [],_,_,_,_,h=>by simp at h
 | a :: l,n,0,o,h,ho=>by simp at ho;subst ho;exact h.1
 | a :: l,n,i+1,o,h,ho=>by
  have:=EachOp'.get l (n+1) i o h.2 (by simpa using ho)
  rwa [Nat.add_assoc,Nat.add_comm 1 i]at this
structure Plan where
 D:List Nat
 fr:Nat→Bool
 st:Nat→Option (BoxRef × Nat)
 sp:Nat→Sg
 keep:List (Nat × Nat × Value)
 ob:List (Nat × List (Nat × Value))
def NeAll (x:Nat):List Nat→Prop
 | []=>True
 | y :: l=>x≠y∧NeAll x l
def AllNe:List Nat→Prop
 | []=>True
 | x :: l=>NeAll x l∧AllNe l
theorem NeAll.mem {x:Nat}:∀ {l:List Nat},NeAll x l → ∀ y∈l,x≠y
 | _ :: _,h,y,hy=>by
  rcases List.mem_cons.1 hy with rfl | hy
  ·exact h.1
  ·exact NeAll.mem h.2 y hy
theorem AllNe.get:∀ {l:List Nat},AllNe l → ∀ {i j x y:Nat},i≠j→l[i]? = some x→l[j]? = some y→x≠y
 | [],_,i,_,_,_,_,h,_=>by simp at h
 | a :: l,h,0,0,_,_,hij,_,_=>absurd rfl hij
 | a :: l,h,0,j+1,x,y,_,hx,hy=>by
  simp at hx hy;subst hx;exact h.1.mem y (List.mem_of_getElem? hy)
 | a :: l,h,i+1,0,x,y,_,hx,hy=>by
  simp at hx hy;subst hy;exact fun e=>h.1.mem x (List.mem_of_getElem? hx) e.symm
 | a :: l,h,i+1,j+1,x,y,hij,hx,hy=>AllNe.get h.2 (i:=i) (j:=j) (by omega) (by simpa using hx) (by simpa using hy)
def RowAt (s:Nat) (w:World):List (Nat × Value)→Prop
 | []=>True
 | q :: l=>At s q.1 q.2 w∧RowAt s w l
theorem RowAt.all {s:Nat}{w:World}:∀ {l:List (Nat × Value)},RowAt s w l→AllAt' (l.map fun q=>(s,q.1,q.2)) w
 | [],_=>AllAt'.nil w
 | _ :: _,h=>AllAt'.cons h.1 (RowAt.all h.2)
def ObOk (B:Nat) (w0:World) (keep:List Nat):List (Nat × List (Nat × Value))→Prop
 | []=>True
 | x :: l=>(B≤x.1∧x.1<w0.heap.size∧RowAt x.1 w0 x.2∧NeAll x.1 keep)∧ObOk B w0 keep l
theorem ObOk.get {B:Nat}{w0:World}{keep:List Nat}:∀ {l:List (Nat × List (Nat × Value))},ObOk B w0 keep l → ∀ x∈l,B≤x.1∧x.1<w0.heap.size∧RowAt x.1 w0 x.2∧NeAll x.1 keep
 | _ :: _,h,x,hx=>by
  rcases List.mem_cons.1 hx with rfl | hx
  ·exact h.1
  ·exact ObOk.get h.2 x hx
def regOk (ops:Array Oper) (p:Plan) (n:Nat):Bool :=
 Region.noSelect ops && (List.range ops.size).all fun i=>match ops[i]? with
  | none=>false
  | some o=>(o.after.all fun e => !binds e || decide (e.on<i)) && match p.st i with
   | none=>match o.dst with
    | none=>false
    | some d=>decide (d<n) && p.D.contains d && (List.range ops.size).all fun j=>j == i || !((ops[j]?).bind (·.dst) == some d)
   | some (r,k)=>o.dst.isNone && !p.fr i && (p.st k).isNone && (o.after.any fun e=>binds e && e.on == k) && ((List.range ops.size).all fun i'=>i' == i || !((p.st i').map (·.1) == some r)) && match r with
    | .op j=>p.fr j && (p.st j).isNone && (o.after.any fun e=>binds e && e.on == j)
    | .old n=>decide (n<p.ob.length)
section
variable {P:Program}{ops:Array Oper}{Q:Exit→Act→World→Prop}
structure Mg (ops:Array Oper) (p:Plan) (B:Nat) (a0:Act) (w0:World) (L:Array Bool) (a:Act) (w:World):Prop where
 size:L.size=ops.size
 ag:Agree p.D a0 a
 gr:Gr w0 w
 blw:Below B w0 w
 keep:AllAt' p.keep w
 post:∀ i,p.st i=none→L.getD i false=true→(p.sp i).holds (at_ ops a i) w
 fresh:∀ i j,i≠j→p.fr i=true→p.fr j=true→p.st i=none→p.st j=none→L.getD i false=true→L.getD j false=true→blkOf (at_ ops a i)≠blkOf (at_ ops a j)
 frlo:∀ i,p.fr i=true→p.st i=none→L.getD i false=true→w0.heap.size≤blkOf (at_ ops a i)
 back:∀ i o,L.getD i false=true→ops[i]? = some o → ∀ e∈o.after,binds e=true→L.getD e.on false=true
 boxed:∀ i r k,p.st i=some (r,k)→L.getD i false=true → ∀ o u,(at_ ops a k).cells.toList[o]? = some u→At (r.blk ops a p.ob) o u w
 unst:∀ i n k,i<ops.size→p.st i=some (.old n,k)→L.getD i false=false→AllAt' (cellsOld p.ob n) w
structure Pre (ops:Array Oper) (p:Plan) (B:Nat) (a0:Act) (w0:World) (i:Nat) (o:Oper) (a:Act) (w:World):Prop where
 ag:Agree p.D a0 a
 gr:Gr w0 w
 blw:Below B w0 w
 keep:AllAt' p.keep w
 post:∀ j∈bindsOf o,p.st j=none→(p.sp j).holds (at_ ops a j) w
 old:∀ j n k,j<ops.size→p.st j=some (.old n,k)→(j=i∨dep ops ops.size j i=true)→AllAt' (cellsOld p.ob n) w
def RStep (P:Program) (ops:Array Oper) (Q:Exit→Act→World→Prop) (p:Plan) (B:Nat) (a0:Act) (w0:World) (i:Nat) (o:Oper):Prop :=
 ops[i]? = some o → ∀ a w,Pre ops p B a0 w0 i o a w →
  match p.st i with
  | none=>wpOp P ops Q i (fun a' w' => ∃ v,a'=a.put o.dst v∧(p.sp i).holds v w'∧Ext w w'∧(p.fr i=true→blkOf v=w.heap.size)) a w
  | some (r,k) => ∃ n cs,Bx n (r.blk ops a p.ob) w∧(at_ ops a k).cells.toList=cs∧cs.length=n∧(∀ u∈cs,NoI u)∧wpOp P ops Q i (fun a' w'=>a'=a∧w'=setRow (r.blk ops a p.ob) 0 cs w) a w
theorem dep_listed {L:Array Bool}(hb:∀ i o,L.getD i false=true→ops[i]? = some o → ∀ e∈o.after,binds e=true→L.getD e.on false=true) :
  ∀ (f i j:Nat),L.getD i false=true→dep ops f i j=true→L.getD j false=true:=by
 intro f
 induction f with
 | zero=>intro i j _ h;cases h
 | succ f ih =>
  intro i j hi h;unfold dep at h
  cases ho:ops[i]? with
  | none=>rw[ho]at h;cases h
  | some o =>
   rw[ho]at h;obtain⟨e,he,h2⟩:=List.any_eq_true.1 h;obtain⟨g,hg,rfl⟩:=List.mem_map.1 he;obtain⟨g1,g2⟩:=List.mem_filter.1 hg;have hl:=hb i o hi ho g (Array.mem_def.2 g1) g2;simp only[Bool.or_eq_true,beq_iff_eq]at h2
   rcases h2 with h2 | h2
   ·rw[←h2];exact hl
   ·exact ih _ _ hl h2
theorem wp_region_gen {id:Nat}{a0:Act}{w0:World}(p:Plan) (B:Nat)
  (hm:P.follows .mixedOrders=true) (hck:regOk ops p a0.tmps.size=true) (hB:B≤w0.heap.size)
  (hfr:∀ i v w,p.fr i=true→p.st i=none→(p.sp i).holds v w→blkOf v<w.heap.size)
  (hkeep:AllAt' p.keep w0)
  (hob:ObOk B w0 (p.keep.map (·.1)) p.ob) (hne:AllNe (p.ob.map (·.1)))
  (hs:EachOp' (RStep P ops Q p B a0 w0) 0 ops.toList)
  (hend:∀ a w,Mg ops p B a0 w0 (Array.replicate ops.size true) a w→Q .normal a w) :
  (Code.region id ops true).wp P Q a0 w0:=by
 simp only[regOk,Bool.and_eq_true]at hck;obtain⟨hsel,hck⟩:=hck
 have hop:∀ i o,ops[i]? = some o→(o.after.all fun e => !binds e || decide (e.on<i))=true∧match p.st i with
   | none => ∃ d,o.dst=some d∧d<a0.tmps.size∧d∈p.D ∧ ∀ j,j<ops.size→j≠i→(ops[j]?).bind (·.dst)≠some d
   | some (r,k)=>o.dst=none∧p.fr i=false∧p.st k=none∧(∃ e∈o.after,binds e=true∧e.on=k)∧(∀ i',i'<ops.size→i'≠i→(p.st i').map (·.1)≠some r) ∧
    (∀ j,r = .op j→p.fr j=true∧p.st j=none ∧ ∃ e∈o.after,binds e=true∧e.on=j) ∧ ∀ n,r = .old n→n<p.ob.length:=by
  intro i o ho;have h:=List.all_eq_true.1 hck i (List.mem_range.2 (Array.getElem?_eq_some_iff.1 ho).1);simp only[ho,Bool.and_eq_true]at h;refine⟨h.1,?_⟩;have h2:=h.2
  split
  ·rename_i hst
   rw[hst]at h2
   simp only at h2
   cases hd:o.dst with
   | none=>simp [hd]at h2
   | some d =>
    simp only[hd,Bool.and_eq_true,decide_eq_true_eq,List.contains_iff_mem,List.all_eq_true,List.mem_range,Bool.or_eq_true,beq_iff_eq,Bool.not_eq_true',beq_eq_false_iff_ne,ne_eq]at h2;refine⟨d,rfl,h2.1.1,h2.1.2,fun j hj hne=>?_⟩
    rcases h2.2 j hj with e | e
    ·exact absurd e hne
    ·exact e
  ·rename_i r k hst
   rw[hst]at h2;simp only[Bool.and_eq_true,Option.isNone_iff_eq_none,Bool.not_eq_true',List.all_eq_true,List.mem_range,Bool.or_eq_true,beq_iff_eq,beq_eq_false_iff_ne,ne_eq]at h2;obtain⟨⟨⟨⟨⟨g1,g2⟩,g3⟩,g4⟩,g5⟩,g6⟩:=h2;refine⟨g1,g2,g3,?_,fun i' hi' hne=>?_,?_,?_⟩
   ·obtain⟨e,he,hb⟩:=Array.any_eq_true'.1 g4;simp only[Bool.and_eq_true,beq_iff_eq]at hb;exact⟨e,he,hb.1,hb.2⟩
   ·rcases g5 i' hi' with e | e
    ·exact absurd e hne
    ·exact e
   ·rintro j rfl;simp only[Bool.and_eq_true,Option.isNone_iff_eq_none]at g6;obtain⟨⟨g6,g7⟩,g8⟩:=g6;obtain⟨e,he,hb⟩:=Array.any_eq_true'.1 g8;simp only[Bool.and_eq_true,beq_iff_eq]at hb;exact⟨g6,g7,e,he,hb.1,hb.2⟩
   ·rintro n rfl
    simpa using g6
 clear hck
 have hold:∀ i n k,i<ops.size→p.st i=some (.old n,k) → ∃ x,p.ob[n]? = some x∧(BoxRef.old n).blk ops a0 p.ob=x.1∧B≤x.1∧x.1<w0.heap.size∧AllAt' (cellsOld p.ob n) w0∧(∀ q∈cellsOld p.ob n,q.1=x.1)∧(∀ q∈p.keep,q.1≠x.1):=by
  intro i n k hi hs';have h1:=(hop i _ (Array.getElem?_eq_getElem hi)).2;rw[hs']at h1;have hn:=h1.2.2.2.2.2.2 n rfl;have hx:p.ob[n]? = some p.ob[n]:=List.getElem?_eq_getElem hn;obtain⟨g1,g2,g3,g4⟩:=hob.get p.ob[n] (List.getElem_mem hn);refine⟨p.ob[n],hx,by simp [BoxRef.blk,hx],g1,g2,?_,?_,fun q hq e=>g4.mem q.1 (List.mem_map_of_mem hq) e.symm⟩
  ·unfold cellsOld;rw[hx];exact g3.all
  ·unfold cellsOld;rw[hx];intro q hq;obtain⟨z,-,rfl⟩:=List.mem_map.1 hq;rfl
 have hstep:∀ i o,ops[i]? = some o→RStep P ops Q p B a0 w0 i o:=fun i o ho=>by
  have:=EachOp'.get ops.toList 0 i o hs (by rw[Array.getElem?_toList];exact ho)
  rwa [Nat.zero_add]at this
 refine wp_region_held_drew (S:=fun _=>True) hm trivial fun _=>?_
 have hnone:∀ {L:Array Bool}{i:Nat},L.size=ops.size→L.getD i false=true→i<ops.size:=fun {L i} hL h=>by
  rcases Nat.lt_or_ge i L.size with g | g
  ·rw[←hL];exact g
  ·simp [Array.getD,Nat.not_lt.2 g]at h
 have hall:∀ (L:Array Bool) (a:Act) (w:World),Mg ops p B a0 w0 L a w→Region.ready .any ops L = []→Q .normal a w:=by
  intro L a w hM h0
  have hl:∀ j,j<ops.size→L.getD j false=true:=by
   intro j
   induction j using Nat.strongRecOn with
   | _ j ihj =>
    intro hj
    cases hg:L.getD j false with
    | true=>rfl
    | false =>
     have hj':j<L.size:=by rw[hM.size];exact hj
     obtain⟨oj,hoj⟩:∃ oj,ops[j]? = some oj:=⟨_,Array.getElem?_eq_getElem hj⟩
     have hall:=Array.all_eq_true_iff_forall_mem.1 (hop j oj hoj).1
     have:j∈Region.ready .any ops L:=by
      refine mem_ready.2 ⟨by simp [Array.getD,hj']at hg ⊢;exact hg,oj,hoj,fun e he hbe=>?_⟩;have h1:=hall e he;have hb':binds e=true:=hbe;rw[hb']at h1;simp only[Bool.not_true,Bool.false_or,decide_eq_true_eq]at h1;exact ihj e.on h1 (by omega)
     rw[h0]at this
     cases this
  have hL:L=Array.replicate ops.size true:=by
   refine Array.ext (by simp [hM.size]) fun k h1 h2=>?_
   have e1:L.getD k false=L[k]:=by simp [Array.getD,h1]
   rw[←e1,hl k (by rw[←hM.size];exact h1)]
   simp
  subst hL;exact hend a w hM
 have key:∀ (fuel:Nat) (L:Array Bool) (a:Act) (w:World),unl ops.size L≤fuel→Mg ops p B a0 w0 L a w→wpAnyH P .any ops Q (fun _=>True) fuel L a w:=by
  intro fuel
  induction fuel with
  | zero =>
   intro L a w hf hM
   have h0:Region.ready .any ops L = []:=by
    refine List.eq_nil_iff_forall_not_mem.2 fun i hi=>?_
    obtain⟨hin,hiL,-⟩:=ready_spec hi;have:=unl_step hin (by rw[hM.size];exact hin) hiL;omega
   exact⟨h0,hall L a w hM h0⟩
  | succ fuel ih =>
   intro L a w hf hM;refine⟨hall L a w hM,fun i hir=>?_⟩;obtain⟨hin,hiL,o,ho,hpre⟩:=ready_spec hir;have hun:=unl_step hin (by rw[hM.size];exact hin) hiL
   have hiL':i<L.size:=by rw[hM.size];exact hin
   have hif:L.getD i false=false:=by simp [Array.getD,hiL']at hiL ⊢;exact hiL
   have hgs:=hstep i o ho ho a w ⟨hM.ag,hM.gr,hM.blw,hM.keep,fun j hj hsj=>by
    obtain⟨e,he,rfl⟩:=List.mem_map.1 hj;obtain⟨h1,h2⟩:=List.mem_filter.1 he
    exact hM.post e.on hsj (hpre e (Array.mem_def.2 h1) h2),fun j s k hjn hj hd=>hM.unst j s k hjn hj (by
     cases hg:L.getD j false with
     | false=>rfl
     | true =>
      rcases hd with rfl | hd
      ·rw[hg]at hif;cases hif
      ·rw[dep_listed hM.back _ _ _ hg hd]at hif;cases hif)⟩
   have hold':∀ j,j≠i→(L.setIfInBounds i true).getD j false=true→L.getD j false=true:=fun j hj hL=>by rwa [getD_set_ne false (Ne.symm hj)]at hL
   have hnew:∀ j,(L.setIfInBounds i true).getD j false=false→j≠i∧L.getD j false=false:=fun j hL=>by
    have hj:j≠i:=fun e=>by subst e;simp [Array.getD,hiL']at hL
    exact⟨hj,by rwa [getD_set_ne false (Ne.symm hj)]at hL⟩
   have hback:∀ j oj,(L.setIfInBounds i true).getD j false=true→ops[j]? = some oj → ∀ e∈oj.after,binds e=true→(L.setIfInBounds i true).getD e.on false=true:=by
    intro j oj hj hoj e he hb
    have:L.getD e.on false=true:=by
     by_cases e1:j=i
     ·subst e1;rw[ho]at hoj;injection hoj with hoj;subst hoj;exact hpre e he hb
     ·exact hM.back j oj (hold' j e1 hj) hoj e he hb
    by_cases e2:e.on=i
    ·rw[e2,hif]at this;cases this
    ·rw[getD_set_ne false (Ne.symm e2)];exact this
   have hsz:(L.setIfInBounds i true).size=ops.size:=by rw[Array.size_setIfInBounds];exact hM.size
   have hdisj:∀ (v:Value) (j:Nat),j≠i→j<ops.size→at_ ops (a.put o.dst v) j=at_ ops a j:=by
    intro v j hj hjn;unfold at_
    split
    ·rename_i k hk
     cases hd:o.dst with
     | none=>rfl
     | some d =>
      have h1:=(hop i o ho).2
      split at h1
      ·obtain⟨d',e1,-,-,h4⟩:=h1;rw[hd]at e1
       injection e1 with e1
       subst e1
       refine sl_other fun e=>h4 j hjn hj (by rw[hk,e])
      ·rw[h1.1]at hd;cases hd
    ·rfl
   have hblk:∀ (v:Value) (i':Nat) (r:BoxRef) (k:Nat),p.st i'=some (r,k)→L.getD i' false=true→r.blk ops (a.put o.dst v) p.ob=r.blk ops a p.ob∧at_ ops (a.put o.dst v) k=at_ ops a k:=by
    intro v i' r k hs' hL'
    obtain⟨o',ho'⟩:∃ o',ops[i']? = some o':=⟨_,Array.getElem?_eq_getElem (hnone hM.size hL')⟩
    have h1:=(hop i' o' ho').2;rw[hs']at h1;obtain⟨-,-,-,⟨e2,m2,b2,on2⟩,-,hr,-⟩:=h1;have lk:=hM.back i' o' hL' ho' e2 m2 b2;rw[on2]at lk;refine⟨?_,hdisj v k (fun e=>by rw[e,hif]at lk;cases lk) (hnone hM.size lk)⟩
    cases r with
    | old s=>rfl
    | op j =>
     obtain⟨-,-,e1,m1,b1,on1⟩:=hr j rfl;have lj:=hM.back i' o' hL' ho' e1 m1 b1;rw[on1]at lj
     show blkOf _=blkOf _
     rw[hdisj v j (fun e=>by rw[e,hif]at lj;cases lj) (hnone hM.size lj)]
   have hop2:=(hop i o ho).2
   cases hst:p.st i with
   | none =>
    rw[hst]at hgs hop2;obtain⟨d,hod,hdn,hdD,hdu⟩:=hop2;refine wpOp_mono ?_ hgs;rintro a' w' ⟨v,rfl,hpv,hxx,hff⟩
    have hself:at_ ops (a.put o.dst v) i=v:=by
     unfold at_;rw[ho,Option.bind_some,hod];exact sl_same (by rw[hM.ag.size];exact hdn)
    refine⟨trivial,ih _ _ _ (by omega) ⟨hsz,hM.ag.put (fun k hk=>by rw[hod]at hk;injection hk with hk;subst hk;exact hdD),hM.gr.trans hxx.gr,hM.blw.trans (hxx.mono (Nat.le_trans hB hM.gr.size)),hM.keep.ext hxx,?_,?_,?_,hback,?_,?_⟩⟩
    ·intro j hsj hL
     by_cases e:j=i
     ·subst e;rw[hself];exact hpv
     ·have hL':=hold' j e hL;rw[hdisj v j e (hnone hM.size hL')];exact (p.sp j).mono _ _ _ (hM.post j hsj hL') hxx.gr
    ·intro j k hjk fj fk sj sk hLj hLk
     by_cases e1:j=i
     ·subst e1;have e2:k≠j:=Ne.symm hjk;have hLk':=hold' k e2 hLk;rw[hself,hdisj v k e2 (hnone hM.size hLk'),hff fj];exact Nat.ne_of_gt (hfr k _ w fk sk (hM.post k sk hLk'))
     ·have hLj':=hold' j e1 hLj
      by_cases e2:k=i
      ·subst e2;rw[hself,hdisj v j e1 (hnone hM.size hLj'),hff fk];exact Nat.ne_of_lt (hfr j _ w fj sj (hM.post j sj hLj'))
      ·have hLk':=hold' k e2 hLk;rw[hdisj v j e1 (hnone hM.size hLj'),hdisj v k e2 (hnone hM.size hLk')];exact hM.fresh j k hjk fj fk sj sk hLj' hLk'
    ·intro j fj sj hL
     by_cases e:j=i
     ·subst e;rw[hself,hff fj];exact hM.gr.size
     ·have hL':=hold' j e hL;rw[hdisj v j e (hnone hM.size hL')];exact hM.frlo j fj sj hL'
    ·intro i' r k hs' hL oo u hu
     have e:i'≠i:=fun e=>by rw[e,hst]at hs';cases hs'
     have hL':=hold' i' e hL;obtain⟨hb1,hb2⟩:=hblk v i' r k hs' hL';rw[hb2]at hu;rw[hb1];exact (hM.boxed i' r k hs' hL' oo u hu).ext hxx
    ·intro i' s k hn hs' hL;exact (hM.unst i' s k hn hs' (hnew i' hL).2).ext hxx
   | some rk =>
    obtain⟨r,k⟩:=rk;rw[hst]at hgs hop2;obtain⟨hod,hfi,hsk,⟨e2,m2,b2,on2⟩,huniq,hr,-⟩:=hop2;obtain⟨n,cs,hbx,hcs,hcl,hcn,hw⟩:=hgs
    have hs0:B≤r.blk ops a p.ob∧(∀ q∈p.keep,q.1≠r.blk ops a p.ob)∧(∀ i' n k',i'<ops.size→p.st i'=some (.old n,k')→i'≠i → ∀ q∈cellsOld p.ob n,q.1≠r.blk ops a p.ob) ∧ ∀ i' r' k',p.st i'=some (r',k')→i'≠i→L.getD i' false=true→r'.blk ops a p.ob≠r.blk ops a p.ob:=by
     cases r with
     | old n =>
      obtain⟨x,hx,hb,h1,h2,-,h4,h5⟩:=hold i n k hin hst;have hb':(BoxRef.old n).blk ops a p.ob=x.1:=hb;rw[hb']
      have hdif:∀ i' n' k',i'<ops.size→p.st i'=some (.old n',k')→i'≠i → ∀ y,p.ob[n']? = some y→y.1≠x.1:=fun i' n' k' hn hs' hne' y hy=>by
       refine hne.get (i:=n') (j:=n) (fun e=>huniq i' hn hne' (by rw[hs',e];rfl)) (by simp [hy]) (by simp [hx])
      refine⟨h1,h5,fun i' n' k' hn hs' hne' q hq=>?_,fun i' r' k' hs' hne' hL'=>?_⟩
      ·obtain⟨y,hy,-,-,-,-,g4,-⟩:=hold i' n' k' hn hs';rw[g4 q hq];exact hdif i' n' k' hn hs' hne' y hy
      ·cases r' with
       | old n' =>
        obtain⟨y,hy,gb,-⟩:=hold i' n' k' (hnone hM.size hL') hs';rw[show (BoxRef.old n').blk ops a p.ob=y.1 from gb];exact hdif i' n' k' (hnone hM.size hL') hs' hne' y hy
       | op j =>
        obtain⟨o',ho'⟩:∃ o',ops[i']? = some o':=⟨_,Array.getElem?_eq_getElem (hnone hM.size hL')⟩
        have g1:=(hop i' o' ho').2;rw[hs']at g1;obtain⟨g3,g4,e3,m3,b3,on3⟩:=g1.2.2.2.2.2.1 j rfl;have lj:=hM.back i' o' hL' ho' e3 m3 b3;rw[on3]at lj;have:=hM.frlo j g3 g4 lj;exact Nat.ne_of_gt (Nat.lt_of_lt_of_le h2 this)
     | op j =>
      obtain⟨g3,g4,e3,m3,b3,on3⟩:=hr j rfl;have lj:=hpre e3 m3 b3;rw[on3]at lj;have hlo:=hM.frlo j g3 g4 lj;refine⟨Nat.le_trans hB hlo,fun q hq=>Nat.ne_of_lt (Nat.lt_of_lt_of_le (hkeep q hq).2 hlo),fun i' n' k' hn hs' hne' q hq=>?_,fun i' r' k' hs' hne' hL'=>?_⟩
      ·obtain⟨y,-,-,-,g2,-,g5,-⟩:=hold i' n' k' hn hs';rw[g5 q hq];exact Nat.ne_of_lt (Nat.lt_of_lt_of_le g2 hlo)
      ·cases r' with
       | old n' =>
        obtain⟨y,-,gb,-,g2,-⟩:=hold i' n' k' (hnone hM.size hL') hs';rw[show (BoxRef.old n').blk ops a p.ob=y.1 from gb];exact Nat.ne_of_lt (Nat.lt_of_lt_of_le g2 hlo)
       | op j' =>
        obtain⟨o',ho'⟩:∃ o',ops[i']? = some o':=⟨_,Array.getElem?_eq_getElem (hnone hM.size hL')⟩
        have g1:=(hop i' o' ho').2;rw[hs']at g1;obtain⟨g5,g6,e5,m5,b5,on5⟩:=g1.2.2.2.2.2.1 j' rfl;have lj':=hM.back i' o' hL' ho' e5 m5 b5;rw[on5]at lj';refine hM.fresh j' j (fun e=>huniq i' (hnone hM.size hL') hne' ?_) g5 g3 g6 g4 lj' lj;rw[hs',e];rfl
    obtain⟨hlo,hk1,hk2,hk3⟩:=hs0;refine wpOp_mono ?_ hw;rintro a' w' ⟨rfl,rfl⟩;have hgr:=setRow_gr hbx hcl hcn;refine⟨trivial,ih _ _ _ (by omega) ⟨hsz,hM.ag,hM.gr.trans hgr,setRow_below _ _ hlo cs 0 hM.blw,hM.keep.setRow hk1 cs,?_,?_,?_,hback,?_,?_⟩⟩
    ·intro j' hsj' hL
     have e:j'≠i:=fun e=>by rw[e,hst]at hsj';cases hsj'
     exact (p.sp j').mono _ _ _ (hM.post j' hsj' (hold' j' e hL)) hgr
    ·intro j' k' hjk fj fk sj sk hLj hLk
     have e1:j'≠i:=fun e=>by rw[e,hst]at sj;cases sj
     have e2:k'≠i:=fun e=>by rw[e,hst]at sk;cases sk
     exact hM.fresh j' k' hjk fj fk sj sk (hold' j' e1 hLj) (hold' k' e2 hLk)
    ·intro j' fj sj hL
     have e1:j'≠i:=fun e=>by rw[e,hst]at sj;cases sj
     exact hM.frlo j' fj sj (hold' j' e1 hL)
    ·intro i' r' k' hs' hL oo u hu
     by_cases e:i'=i
     ·subst e;rw[hst]at hs'
      injection hs' with hs'
      injection hs' with h1 h2
      subst h1;subst h2;exact (setRow_bx hbx hcl hcn).2 oo u (by rw[←hcs];exact hu)
     ·have hL':=hold' i' e hL;exact (hM.boxed i' r' k' hs' hL' oo u hu).setRow (hk3 i' r' k' hs' e hL') cs 0
    ·intro i' s k' hn hs' hL;obtain⟨g1,g2⟩:=hnew i' hL;exact (hM.unst i' s k' hn hs' g2).setRow (hk2 i' s k' hn hs' g1) cs
 refine key _ _ _ _ ?_ ⟨by simp,Agree.refl _ _,eR.drew.gr,⟨rfl,rfl,rfl,Nat.le_refl _,fun _ _=>rfl⟩,fun q hq=>(hkeep q hq).ext eR.drew,fun i _ h=>by simp [Array.getD]at h,fun i j _ _ _ _ _ h=>by simp [Array.getD]at h,fun i _ _ h=>by simp [Array.getD]at h,fun i o h=>by simp [Array.getD]at h,fun i r k _ h=>by simp [Array.getD]at h,fun i n k hn hs' _=>by obtain⟨x,-,-,-,-,h,-⟩:=hold i n k hn hs';exact h.ext eR.drew⟩;unfold unl;exact Nat.le_trans (List.countP_le_length) (by simp)
end
end Go.Proofs.YtfofjalebhajhaaGreatDoor
namespace Go.Proofs.YtfofjalebhajhaaGreatDoor
open Go Go.RowKit
def IsR (w:World) (b:Bool) (v u:Value) (m d:Nat) (q:Rat):Prop:=decide (q.num<0)=b∧q.num.natAbs=m∧q.den=d∧Limbs w v (dig m)∧Limbs w u (dig d)
theorem IsR.ext {w w':World}{b:Bool}{v u:Value}{m d:Nat}{q:Rat}(h:IsR w b v u m d q) (x:Ext w w'):IsR w' b v u m d q:=⟨h.1,h.2.1,h.2.2.1,h.2.2.2.1.ext x,h.2.2.2.2.ext x⟩
theorem IsR.gr {w w':World}{b:Bool}{v u:Value}{m d:Nat}{q:Rat}(h:IsR w b v u m d q) (x:Gr w w'):IsR w' b v u m d q:=⟨h.1,h.2.1,h.2.2.1,h.2.2.2.1.gr x,h.2.2.2.2.gr x⟩
theorem IsR.num {w:World}{b:Bool}{v u:Value}{m d:Nat}{q:Rat}(h:IsR w b v u m d q):IsI w b v m q.num:=⟨h.1,h.2.1,h.2.2.2.1⟩
theorem IsR.mag {w:World}{b:Bool}{v u:Value}{m d:Nat}{q:Rat}(h:IsR w b v u m d q):Limbs w v (dig q.num.natAbs):=by rw[h.2.1];exact h.2.2.2.1
theorem IsR.den {w:World}{b:Bool}{v u:Value}{m d:Nat}{q:Rat}(h:IsR w b v u m d q):Limbs w u (dig q.den):=by rw[h.2.2.1];exact h.2.2.2.2
theorem IsR.slice {w:World}{b:Bool}{v u:Value}{m d:Nat}{q:Rat}(h:IsR w b v u m d q):∃ a n c a' n' c',v = .slice a n c∧u = .slice a' n' c':=by
 obtain⟨a,c,h1,-⟩:=h.2.2.2.1.open;obtain⟨a',c',h2,-⟩:=h.2.2.2.2.open;exact⟨a,_,c,a',_,c',h1,h2⟩
def InR (w:World) (b:Bool) (v u:Value) (k:Nat) (q:Rat):Prop:=∃ A B,Limbs w v A∧Limbs w u B∧mkRat (iv b A) (val B)=q∧A.length≤k∧B.length≤k∧1≤k
theorem InR.ext {w w':World}{b:Bool}{v u:Value}{k:Nat}{q:Rat}(h:InR w b v u k q) (x:Ext w w'):InR w' b v u k q:=by
 obtain⟨A,B,h1,h2,h3⟩:=h;exact⟨A,B,h1.ext x,h2.ext x,h3⟩
theorem InR.gr {w w':World}{b:Bool}{v u:Value}{k:Nat}{q:Rat}(h:InR w b v u k q) (x:Gr w w'):InR w' b v u k q:=by
 obtain⟨A,B,h1,h2,h3⟩:=h;exact⟨A,B,h1.gr x,h2.gr x,h3⟩
theorem IsR.inR {w:World}{b:Bool}{v u:Value}{m d k:Nat}{q:Rat}(h:IsR w b v u m d q) (hk:LenR k q):InR w b v u k q:=by
 refine⟨dig m,dig d,h.2.2.2.1,h.2.2.2.2,?_,dig_len_le (by rw[←h.2.1];exact hk.1),dig_len_le (by rw[←h.2.2.1];exact hk.2),hk.pos⟩;rw[h.num.iv,val_dig,←h.2.2.1,Rat.mkRat_self]
theorem InR.len {w:World}{b:Bool}{v u:Value}{k:Nat}{q:Rat}(h:InR w b v u k q):LenR k q:=by
 obtain⟨A,B,h1,h2,h3,h4,h5,hk⟩:=h;rw[←h3];exact LenR.mk hk (by rw[iv_abs];exact Nat.lt_of_lt_of_le (val_lt h1.2) (Nat.pow_le_pow_right Bs_pos h4)) (Nat.lt_of_lt_of_le (val_lt h2.2) (Nat.pow_le_pow_right Bs_pos h5))
theorem InR.slice {w:World}{b:Bool}{v u:Value}{k:Nat}{q:Rat}(h:InR w b v u k q):∃ a n c a' n' c',v = .slice a n c∧u = .slice a' n' c':=by
 obtain⟨A,B,h1,h2,-⟩:=h;obtain⟨a,c,h1,-⟩:=h1.open;obtain⟨a',c',h2,-⟩:=h2.open;exact⟨a,_,c,a',_,c',h1,h2⟩
def OwnR (B:Nat) (w:World) (v u:Value) (m d:Nat):Prop:=OwnL B w v (dig m)∧OwnL B w u (dig d)
theorem OwnR.ext {B:Nat}{w w':World}{v u:Value}{m d:Nat}(h:OwnR B w v u m d) (x:Ext w w'):OwnR B w' v u m d:=⟨h.1.ext x,h.2.ext x⟩
theorem OwnR.gr {B:Nat}{w w':World}{v u:Value}{m d:Nat}(h:OwnR B w v u m d) (x:Gr w w'):OwnR B w' v u m d:=⟨h.1.gr x,h.2.gr x⟩
theorem OwnR.mono {B B':Nat}{w:World}{v u:Value}{m d:Nat}(h:OwnR B w v u m d) (k:B'≤B):OwnR B' w v u m d:=⟨h.1.mono k,h.2.mono k⟩
def RetR (w:World) (q:Rat) (e:Ending) (w':World):Prop:=∃ b v u m d,e = .returned (.agg #[.bool b,v,u])∧IsR w' b v u m d q∧OwnR w.heap.size w' v u m d∧Ext w w'
def RetR0 (w:World) (q:Rat) (e:Ending) (w':World):Prop:=∃ b v u m d,e = .returned (.tuple #[.agg #[.bool b,v,u],.int .i64 0])∧IsR w' b v u m d q∧OwnR w.heap.size w' v u m d∧Ext w w'
def RetRE (w:World) (k:Int) (e:Ending) (w':World):Prop:=e = .returned (.tuple #[.agg #[.bool false,.slice none 0 0,.slice none 0 0],.int .i64 k])∧Ext w w'
def RetZ (w:World) (z:Int) (e:Ending) (w':World):Prop:=∃ b v m,e = .returned (.agg #[.bool b,v])∧IsI w' b v m z∧OwnL w.heap.size w' v (dig m)∧Ext w w'
theorem RetI.z {w w':World}{z:Int}{e:Ending}(h:RetI w z e w'):RetZ w z e w':=by
 obtain⟨v,rfl,h1,h2⟩:=h;exact⟨_,v,_,rfl,⟨rfl,rfl,h1.limbs⟩,h1,h2⟩
end Go.Proofs.YtfofjalebhajhaaGreatDoor
namespace Go.Proofs.YtfofjalebhajhaaGreatDoor
open Go Go.RowKit
theorem yielded_at {ops:Array Oper}{a:Act}{j:Nat}{b:Bool}(h:at_ ops a j = .bool b):yielded ops a.tmps j=some b:=by
 unfold at_ at h;unfold yielded
 cases hd:(ops[j]?).bind (·.dst) with
 | none=>rw[hd]at h;cases h
 | some d =>
  rw[hd]at h;simp only[sl,Array.getD_eq_getD_getElem?]at h
  cases hg:a.tmps[d]? with
  | none=>rw[hg]at h;cases h
  | some v =>
   rw[hg]at h;simp only[Option.getD_some]at h;subst h;simp [hg]
section
variable {P:Program}{ops:Array Oper}{Q:Exit→Act→World→Prop}{p:Plan}{B:Nat}{a0:Act}{w0:World}
theorem Pre.get {i:Nat}{o:Oper}{a:Act}{w:World}(h:Pre ops p B a0 w0 i o a w) (j:Nat) (hj:(bindsOf o).contains j=true) (hs:p.st j=none):(p.sp j).holds (at_ ops a j) w:=h.post j (by simpa using hj) hs
theorem Pre.g {i:Nat}{o:Oper}{a:Act}{w:World}(h:Pre ops p B a0 w0 i o a w) (j:Nat) (hj:(bindsOf o).contains j=true:=by decide +kernel) (hs:p.st j=none:=by exact rfl):(p.sp j).holds (at_ ops a j) w:=h.get j hj hs
theorem Pre.slot {i:Nat}{o:Oper}{a:Act}{w:World}(h:Pre ops p B a0 w0 i o a w) (k:Nat){v:Value}(hk:p.D.contains k=false) (hv:sl a0 k=v):a.tmps[k]?.getD undef=v:=slot_of' h.ag (by simpa using hk) hv
theorem Pre.cell {i:Nat}{o:Oper}{a:Act}{w:World}(h:Pre ops p B a0 w0 i o a w) (k:Nat){s f:Nat}{u:Value}(hk:p.keep[k]? = some (s,f,u)):w.cell? ⟨s,f,none⟩=some u:=h.keep.get k hk
theorem Pre.ocell {i:Nat}{o:Oper}{a:Act}{w:World}(h:Pre ops p B a0 w0 i o a w) (j k:Nat){s c r:Nat}{u:Value}{f:Nat}(hn:j<ops.size) (hj:p.st j=some (.old c,r)) (hd:(j == i || dep ops ops.size j i)=true) (hk:(cellsOld p.ob c)[k]? = some (s,f,u)):w.cell? ⟨s,f,none⟩=some u :=
 (h.old j c r hn hj (by simpa using hd)).get k hk
theorem RStep.op {i:Nat}{o:Oper}(hst:p.st i=none) (hg:o.guard=none)
  (h:∀ a w,Pre ops p B a0 w0 i o a w → ∀ K:Act→World→Prop,Hid (∀ v w',(p.sp i).holds v w'→Ext w w'→(p.fr i=true→blkOf v=w.heap.size)→K (a.put o.dst v) w')→Oper.wp P o a w K Q) :
  RStep P ops Q p B a0 w0 i o:=by
 intro ho a w hp;rw[hst]
 refine wpOp_step ho fun K hK=>?_
 rw[if_pos (by unfold Region.wanted;rw[hg])];exact h a w hp K (Hd fun v w' h1 h2 h3=>hK _ _ ⟨v,rfl,h1,h2,h3⟩)
theorem RStep.yes {i:Nat}{o:Oper}(g:Nat) (b:Bool) (hst:p.st i=none) (hg:o.guard=some (g,b)) (hgp:(bindsOf o).contains g=true) (hgs:p.st g=none) (hgv:p.sp g=Sg.val (.bool b))
  (h:∀ a w,Pre ops p B a0 w0 i o a w → ∀ K:Act→World→Prop,Hid (∀ v w',(p.sp i).holds v w'→Ext w w'→(p.fr i=true→blkOf v=w.heap.size)→K (a.put o.dst v) w')→Oper.wp P o a w K Q) :
  RStep P ops Q p B a0 w0 i o:=by
 intro ho a w hp;rw[hst];have hy:=hp.get g hgp hgs;rw[hgv]at hy;have hy':=yielded_at hy
 refine wpOp_step ho fun K hK=>?_
 rw[if_pos (by unfold Region.wanted;rw[hg];simp [hy'])];exact h a w hp K (Hd fun v w' h1 h2 h3=>hK _ _ ⟨v,rfl,h1,h2,h3⟩)
theorem RStep.no {i:Nat}{o:Oper}(g:Nat) (b:Bool) (hst:p.st i=none) (hg:o.guard=some (g,b)) (hgp:(bindsOf o).contains g=true) (hgs:p.st g=none) (hgv:p.sp g=Sg.val (.bool (!b))∨p.sp g=Sg.val undef)
  (hs:p.sp i=Sg.val undef) (hf:p.fr i=false):RStep P ops Q p B a0 w0 i o:=by
 intro ho a w hp;rw[hst];have hy:=hp.get g hgp hgs
 have hn:yielded ops a.tmps g≠some b:=by
  rcases hgv with hgv | hgv
  ·rw[hgv]at hy;rw[yielded_at hy]
   cases b <;> simp
  ·rw[hgv]at hy;have hy:at_ ops a g=undef:=hy;unfold at_ at hy;unfold yielded
   cases hd:(ops[g]?).bind (·.dst) with
   | none=>simp
   | some d =>
    rw[hd]at hy;simp only[sl,Array.getD_eq_getD_getElem?]at hy
    cases hg':a.tmps[d]? with
    | none=>simp [hg']
    | some v =>
     rw[hg']at hy;simp only[Option.getD_some]at hy;subst hy;simp [hg',undef]
 refine wpOp_step ho fun K hK=>?_
 rw[if_neg (by unfold Region.wanted;rw[hg];simp [hn])];exact hK _ _ ⟨undef,rfl,by rw[hs];rfl,Ext.refl _,fun h=>by rw[hf]at h;cases h⟩
theorem RStep.st {i:Nat}{o:Oper}(j k:Nat) (hst:p.st i=some (.op j,k)) (hg:o.guard=none)
  (h:∀ a w,Pre ops p B a0 w0 i o a w → ∃ s n cs,at_ ops a j = .pointer (some ⟨s,0,none⟩)∧Bx n s w∧(at_ ops a k).cells.toList=cs∧cs.length=n∧(∀ u∈cs,NoI u) ∧
   ∀ K:Act→World→Prop,K a (setRow s 0 cs w)→Oper.wp P o a w K Q) :
  RStep P ops Q p B a0 w0 i o:=by
 intro ho a w hp;rw[hst];obtain⟨s,n,cs,h1,h2,h4,h5,h6,h7⟩:=h a w hp
 have e:(BoxRef.op j).blk ops a p.ob=s:=by show blkOf _=_;rw[h1];rfl
 show ∃ n cs,Bx n ((BoxRef.op j).blk ops a p.ob) w∧_
 rw[e];refine⟨n,cs,h2,h4,h5,h6,wpOp_step ho fun K hK=>?_⟩;rw[if_pos (by unfold Region.wanted;rw[hg])];exact h7 K (hK _ _ ⟨rfl,rfl⟩)
theorem RStep.so {i:Nat}{o:Oper}(m k s:Nat) (hst:p.st i=some (.old m,k)) (hg:o.guard=none) (hs:((p.ob[m]?).map (·.1)).getD 0=s)
  (h:∀ a w,Pre ops p B a0 w0 i o a w → ∃ n cs,Bx n s w∧(at_ ops a k).cells.toList=cs∧cs.length=n∧(∀ u∈cs,NoI u) ∧
   ∀ K:Act→World→Prop,K a (setRow s 0 cs w)→Oper.wp P o a w K Q) :
  RStep P ops Q p B a0 w0 i o:=by
 intro ho a w hp;rw[hst];obtain⟨n,cs,h2,h4,h5,h6,h7⟩:=h a w hp;have e:(BoxRef.old m).blk ops a p.ob=s:=hs
 show ∃ n cs,Bx n ((BoxRef.old m).blk ops a p.ob) w∧_
 rw[e];refine⟨n,cs,h2,h4,h5,h6,wpOp_step ho fun K hK=>?_⟩;rw[if_pos (by unfold Region.wanted;rw[hg])];exact h7 K (hK _ _ ⟨rfl,rfl⟩)
end
theorem Mg.boxOp {ops:Array Oper}{p:Plan}{B:Nat}{a0 a:Act}{w0 w:World}{L:Array Bool}(hM:Mg ops p B a0 w0 L a w) (i j k:Nat){s:Nat}(hst:p.st i=some (.op j,k)) (hl:L.getD i false=true) (hj:at_ ops a j = .pointer (some ⟨s,0,none⟩))
  {cs:List Value}(hk:(at_ ops a k).cells.toList=cs) (o:Nat) (u:Value) (hu:cs[o]? = some u):At s o u w:=by
 have h:=hM.boxed i _ k hst hl o u (by rw[hk];exact hu)
 have e:(BoxRef.op j).blk ops a p.ob=s:=by show blkOf _=_;rw[hj];rfl
 rwa [e]at h
theorem Mg.boxOld {ops:Array Oper}{p:Plan}{B:Nat}{a0 a:Act}{w0 w:World}{L:Array Bool}(hM:Mg ops p B a0 w0 L a w) (i m k:Nat){s:Nat}(hst:p.st i=some (.old m,k)) (hl:L.getD i false=true) (hs:((p.ob[m]?).map (·.1)).getD 0=s)
  {cs:List Value}(hk:(at_ ops a k).cells.toList=cs) (o:Nat) (u:Value) (hu:cs[o]? = some u):At s o u w:=by
 have h:=hM.boxed i _ k hst hl o u (by rw[hk];exact hu);have e:(BoxRef.old m).blk ops a p.ob=s:=hs
 rwa [e]at h
def Sg.int (z:Int):Sg:=⟨fun v w => ∃ b p n c m,v = .agg #[.bool b,.slice p n c]∧IsI w b (.slice p n c) m z,fun _ _ _ ⟨b,p,n,c,m,h,i⟩ x=>⟨b,p,n,c,m,h,i.gr x⟩⟩
def Sg.intO (B:Nat) (z:Int):Sg:=⟨fun v w => ∃ b p n c m,v = .agg #[.bool b,.slice p n c]∧IsI w b (.slice p n c) m z∧OwnL B w (.slice p n c) (dig m),fun _ _ _ ⟨b,p,n,c,m,h,i,j⟩ x=>⟨b,p,n,c,m,h,i.gr x,j.gr x⟩⟩
def Sg.rat (q:Rat):Sg:=⟨fun v w => ∃ b p n c p' n' c' m d,v = .agg #[.bool b,.slice p n c,.slice p' n' c']∧IsR w b (.slice p n c) (.slice p' n' c') m d q,fun _ _ _ ⟨b,p,n,c,p',n',c',m,d,h,i⟩ x=>⟨b,p,n,c,p',n',c',m,d,h,i.gr x⟩⟩
def Sg.ratO (B:Nat) (q:Rat):Sg:=⟨fun v w => ∃ b p n c p' n' c' m d,v = .agg #[.bool b,.slice p n c,.slice p' n' c']∧IsR w b (.slice p n c) (.slice p' n' c') m d q∧OwnR B w (.slice p n c) (.slice p' n' c') m d,fun _ _ _ ⟨b,p,n,c,p',n',c',m,d,h,i,j⟩ x=>⟨b,p,n,c,p',n',c',m,d,h,i.gr x,j.gr x⟩⟩
def Sg.nat (k:Nat):Sg:=⟨fun v w => ∃ p n c,v = .slice p n c∧Limbs w (.slice p n c) (dig k),fun _ _ _ ⟨p,n,c,h,i⟩ x=>⟨p,n,c,h,i.gr x⟩⟩
def Sg.natO (B k:Nat):Sg:=⟨fun v w => ∃ p n c,v = .slice p n c∧OwnL B w (.slice p n c) (dig k),fun _ _ _ ⟨p,n,c,h,i⟩ x=>⟨p,n,c,h,i.gr x⟩⟩
def Sg.two (S T:Sg):Sg:=⟨fun v w => ∃ x y,v = .tuple #[x,y]∧S.holds x w∧T.holds y w,fun _ _ _ ⟨x,y,h,i,j⟩ g=>⟨x,y,h,S.mono _ _ _ i g,T.mono _ _ _ j g⟩⟩
def Sg.three (S T U:Sg):Sg:=⟨fun v w => ∃ x y z,v = .tuple #[x,y,z]∧S.holds x w∧T.holds y w∧U.holds z w,fun _ _ _ ⟨x,y,z,h,i,j,k⟩ g=>⟨x,y,z,h,S.mono _ _ _ i g,T.mono _ _ _ j g,U.mono _ _ _ k g⟩⟩
theorem Bx.new {w:World}{C:Array Value}{t:TypeId}(n:Nat) (hn:C.size=n∧n≤3) (ht:t ∉ notBox) (hc:∀ u∈C.toList,NoI u):Bx n w.heap.size (w.alloc (.cells C t)) :=
 ⟨C,t,heap_alloc_new w _,hn,ht,fun _ _ hu=>hc _ (List.mem_of_getElem? (by rw[Array.getElem?_toList];exact hu))⟩
theorem Bx.n0 {w:World}{C:Array Value}{t:TypeId}(n:Nat) (hn:C.size=n∧n≤3) (ht:t ∉ notBox) (hc:∀ u∈C.toList,NoI u):Bx n w.heap.size (w.alloc (.cells C t)):=Bx.new n hn ht hc
theorem Bx.n1 {w:World}{x1:Obj}{C:Array Value}{t:TypeId}(n:Nat) (hn:C.size=n∧n≤3) (ht:t ∉ notBox) (hc:∀ u∈C.toList,NoI u):Bx n (w.heap.size+1) ((w.alloc x1).alloc (.cells C t)):=by
 have:=Bx.n0 (w:=w.alloc x1) n hn ht hc;simpa using this
theorem Bx.n2 {w:World}{x1 x2:Obj}{C:Array Value}{t:TypeId}(n:Nat) (hn:C.size=n∧n≤3) (ht:t ∉ notBox) (hc:∀ u∈C.toList,NoI u):Bx n (w.heap.size+1+1) (((w.alloc x1).alloc x2).alloc (.cells C t)):=by
 have:=Bx.n1 (w:=w.alloc x1) (x1:=x2) n hn ht hc;simpa using this
theorem Bx.n3 {w:World}{x1 x2 x3:Obj}{C:Array Value}{t:TypeId}(n:Nat) (hn:C.size=n∧n≤3) (ht:t ∉ notBox) (hc:∀ u∈C.toList,NoI u):Bx n (w.heap.size+1+1+1) ((((w.alloc x1).alloc x2).alloc x3).alloc (.cells C t)):=by
 have:=Bx.n2 (w:=w.alloc x1) (x1:=x2) (x2:=x3) n hn ht hc;simpa using this
theorem noI_int (b:Bool) (v:Value) (h:NoI v):∀ u ∈ [Value.bool b,v],NoI u:=by intro u hu;simp at hu;rcases hu with rfl | rfl;exact trivial;exact h
theorem noI_rat (b:Bool) (v u:Value) (h:NoI v) (k:NoI u):∀ x ∈ [Value.bool b,v,u],NoI x:=by intro x hx;simp at hx;rcases hx with rfl | rfl | rfl;exact trivial;exact h;exact k
theorem noI_s2 {b:Bool}{p:Option Addr}{n c:Nat}:∀ u ∈ [Value.bool b,.slice p n c],NoI u:=noI_int _ _ trivial
theorem noI_s3 {b:Bool}{p q:Option Addr}{n c m d:Nat}:∀ u ∈ [Value.bool b,.slice p n c,.slice q m d],NoI u:=noI_rat _ _ _ trivial trivial
theorem setRow_bx' {n s o:Nat}{w:World}(h:Bx n s w){cs:List Value}(hl:o+cs.length≤n) (hc:∀ u∈cs,NoI u) :
  Bx n s (setRow s o cs w)∧(∀ j u,cs[j]? = some u→At s (o+j) u (setRow s o cs w))∧(∀ j u,j<o∨o+cs.length≤j→At s j u w→At s j u (setRow s o cs w)):=by
 obtain⟨cur,t,h1,⟨h2,h2b⟩,h3,h4⟩:=h;obtain⟨cur',e1,e2,e3,e4,e5⟩:=setRow_row s cs o w cur t h1 (by omega);have hsz:=(Array.getElem?_eq_some_iff.1 e1).1;refine⟨⟨cur',t,e1,⟨by omega,h2b⟩,h3,fun j u hu=>?_⟩,fun j u hu=>⟨?_,hsz⟩,fun j u hj hu=>⟨?_,hsz⟩⟩
 ·rcases Nat.lt_or_ge j o with g | g
  ·rw[e3 j g]at hu;exact h4 j u hu
  ·rcases Nat.lt_or_ge j (o+cs.length) with g2 | g2
   ·have:=e4 (j - o) (by omega);rw[show o+(j - o)=j by omega,hu]at this;exact hc u (List.mem_of_getElem? this.symm)
   ·rw[e5 j g2]at hu;exact h4 j u hu
 ·have hlt:j<cs.length:=(List.getElem?_eq_some_iff.1 hu).1;have:=e4 j hlt;rw[hu]at this;simp [World.cell?,e1,this]
 ·have hu:=hu.1;simp only[World.cell?,h1,Option.isSome_none,Bool.false_eq_true,if_false]at hu;simp only[World.cell?,e1,Option.isSome_none,Bool.false_eq_true,if_false]
  rcases hj with g | g
  ·rw[e3 j g];exact hu
  ·rw[e5 j g];exact hu
theorem setRow_gr' {n s o:Nat}{w:World}(h:Bx n s w){cs:List Value}(hl:o+cs.length≤n) (hc:∀ u∈cs,NoI u):Gr w (setRow s o cs w):=by
 refine⟨by rw[setRow_size];exact Nat.le_refl _,fun b _=>?_⟩
 by_cases e:b=s
 ·subst e;exact .inr ⟨n,h,(setRow_bx' h hl hc).1⟩
 ·exact .inl (setRow_other s b e cs o w)
theorem noI_1 {p:Option Addr}{n c:Nat}:∀ u ∈ [Value.slice p n c],NoI u:=by intro u hu;simp at hu;subst hu;trivial
end Go.Proofs.YtfofjalebhajhaaGreatDoor
namespace Go.Proofs.YtfofjalebhajhaaGreatDoor
open Go Go.RowKit
theorem Limbs.uniq {w:World}{v:Value}{A B:List Nat}(h:Limbs w v A) (k:Limbs w v B):A=B:=by
 obtain⟨a,c,h1,-,-,h2⟩:=h.open;obtain⟨a',c',k1,-,-,k2⟩:=k.open;rw[h1]at k1
 injection k1 with e1 e2 e3
 subst e1
 refine List.ext_getElem e2 fun i hi hj=>?_
 obtain⟨b,o,hb,-,hc⟩:=h2 i hi;obtain⟨b',o',hb',-,hc'⟩:=k2 i hj;rw[hb]at hb'
 injection hb' with hb'
 injection hb' with g1 g2
 subst g1;subst g2;have e:=hc i hi;rw[hc' i hj]at e
 injection e with e
 injection e with _ e
 rw[el_of_lt hi,el_of_lt hj]at e;omega
noncomputable def valOf (w:World) (v:Value):Nat:=@dite _ (∃ A,Limbs w v A) (Classical.propDecidable _) (fun h=>val (Classical.choose h)) (fun _=>0)
theorem valOf_eq {w:World}{v:Value}{A:List Nat}(h:Limbs w v A):valOf w v=val A:=by
 have hh:∃ A,Limbs w v A:=⟨A,h⟩
 unfold valOf;rw[dif_pos hh,(Classical.choose_spec hh).uniq h]
theorem dig_len_val {A:List Nat}(hA:∀ x∈A,x<Bs){n:Nat}(h:n≤val A){k:Nat}(hk:A.length≤k):(dig n).length≤k :=
 Nat.le_trans (dig_len_le (Nat.lt_of_le_of_lt h (val_lt hA))) hk
theorem dig_one_le {n:Nat}(h:n≠0):0<(dig n).length:=by
 rw[dig_pos h];simp
theorem quodiv_nz {w:World}{v u:Value}{A B:List Nat}(hA:Limbs w v A) (hB:Limbs w u B) (hlA:A.length≤65536) (hlB:B.length≤65536){a b:Nat}(ha:val A=a) (hb:val B=b) (h:b≠0) :
  Calls Tryz.prog 90 #[v,u] w fun e w' => ∃ q r,e = .returned (.tuple #[q,r,.int .i64 0])∧OwnL w.heap.size w' q (dig (a / b))∧OwnL w.heap.size w' r (dig (a % b))∧Ext w w':=by
 subst ha hb;refine (quodiv_calls hA hB hlA hlB).mono ?_;rintro e w' ⟨q,r,rfl,h1,h2,h3⟩;rw[if_neg h]at h1 h2;exact⟨q,r,by rw[if_neg h],h1,h2,h3⟩
set_option maxHeartbeats 2000000 in
set_option maxRecDepth 100000 in
theorem gcd_calls {w:World}{v u:Value}{A B:List Nat}(hA:Limbs w v A) (hB:Limbs w u B) (hlA:A.length≤65536) (hlB:B.length≤65536) :
  Calls Tryz.prog 101 #[v,u] w (RetNat w ((val A).gcd (val B))):=by
 have HL:Hid (∀ n,n≤val A∨n≤val B→(dig n).length≤65536):=fun n h=>h.elim (fun h=>dig_len_val hA.2 h hlA) (fun h=>dig_len_val hB.2 h hlB)
 obtain⟨G,hG⟩:∃ G,(val A).gcd (val B)=G:=⟨_,rfl⟩
 rw[hG];have HG:=Hd hG;have h1:=lmax_16 hlA;have h2:=lmax_16 hlB;have H1:=Hd h1;have H2:=Hd h2
 obtain⟨a0,ha0⟩:∃ a,val A=a:=⟨_,rfl⟩
 obtain⟨b0,hb0⟩:∃ b,val B=b:=⟨_,rfl⟩
 have HA0:=Hd ha0;have HB0:=Hd hb0;clear hG hlA hlB h1 h2 ha0 hb0
 go_enter Tryz.func101,Tryz.ntmps101
 go_wp2_with fail
 refine wp_scope_jumps 0 (fun a' w' => ∃ (a b:Nat) (v0 v1 u2 u3 u5 u6 u7 u8 u9 u10 u11 u12 u13 u14 u15 u16 u17 u18 u19 u20 u21 u22 u23 u24:Value),a' = { tmps:=#[v0,v1,u2,u3,.slice none 0 0,u5,u6,u7,u8,u9,u10,u11,u12,u13,u14,u15,u16,u17,u18,u19,u20,u21,u22,u23,u24],defers:=[] } ∧
  OwnL w.heap.size w' v0 (dig a)∧OwnL w.heap.size w' v1 (dig b)∧a.gcd b=G∧(a≤val A∨a≤val B)∧(b≤val A∨b≤val B)∧Ext w w') (fun a' w'=>valOf w' (a'.tmps.getD 1 undef)) rfl ?_ ?_
 ·go_wp2_with fail;refine (trim_calls hA H1.out).mono ?_;rintro e w1 ⟨v0,rfl,h0,x1⟩;go_wp2_with fail;refine (trim_calls (hB.ext x1) H2.out).mono ?_;rintro e w2 ⟨v1,rfl,h1,x2⟩;have hx:=x1.trans x2
  have h0:=(h0.ext x2)
  have h1:=h1.mono x1.size;rw[HA0.out]at h0;rw[HB0.out]at h1
  by_cases hb:b0=0
  ·subst hb;rw[dig_zero]at h1;obtain⟨p1,c1,rfl,k1,k2,k3⟩:=h1.limbs.open;clear k1 k2 k3;go_wp2_with fail
   go_step3
   go_wp2_with fail;simp only[Exit.jump];go_ret;exact⟨_,rfl,by rw[←HG.out,HA0.out,HB0.out,Nat.gcd_zero_right];exact h0,hx⟩
  ·have hp:=dig_one_le hb;obtain⟨p1,c1,rfl,k1,k2,k3⟩:=h1.limbs.open;clear k1 k2 k3;have HB:=Hd hb;clear hb;go_wp2_with fail
   go_step3
   go_wp2_with fail;refine (quodiv_nz h0.limbs h1.limbs (HL.out _ (.inl (by rw[HA0.out];exact Nat.le_refl _))) (HL.out _ (.inr (by rw[HB0.out];exact Nat.le_refl _))) (val_dig _) (val_dig _) HB.out).mono ?_;rintro e w3 ⟨q,r,rfl,-,hr,x3⟩;go_wp2_with fail
   go_step3
   refine⟨rfl,b0,a0 % b0,_,_,_,_,_,_,_,_,_,_,_,_,_,_,_,_,_,_,_,_,_,_,_,_,rfl,h1.ext x3,hr.mono hx.size,?_,.inr (by rw[HB0.out];exact Nat.le_refl _),.inr (by rw[HB0.out];exact Nat.le_of_lt (Nat.mod_lt _ (Nat.pos_of_ne_zero HB.out))),hx.trans x3⟩;rw[gcd_step,←HG.out,HA0.out,HB0.out]
 ·rintro a' w' ⟨a,b,v0,v1,u2,u3,u5,u6,u7,u8,u9,u10,u11,u12,u13,u14,u15,u16,u17,u18,u19,u20,u21,u22,u23,u24,rfl,h0,h1,hg,hla,hlb,hx⟩;have HGG:=Hd hg;have HLA:=Hd hla;have HLB:=Hd hlb;clear hg hla hlb
  by_cases hb:b=0
  ·subst hb;rw[dig_zero]at h1;obtain⟨p1,c1,rfl,k1,k2,k3⟩:=h1.limbs.open;clear k1 k2 k3;go_wp2_with fail;simp only[Exit.jump];go_ret;exact⟨_,rfl,by rw[←HGG.out,Nat.gcd_zero_right];exact h0,hx⟩
  ·have hp:=dig_one_le hb;obtain⟨p1,c1,rfl,k1,k2,k3⟩:=h1.limbs.open;clear k1 k2 k3;have HB:=Hd hb;clear hb;go_wp2_with fail;refine (quodiv_nz h0.limbs h1.limbs (HL.out _ HLA.out) (HL.out _ HLB.out) (val_dig _) (val_dig _) HB.out).mono ?_;rintro e w3 ⟨q,r,rfl,-,hr,x3⟩;go_wp2_with fail
   go_step3
   have hl:a % b<b:=Nat.mod_lt _ (Nat.pos_of_ne_zero HB.out);refine⟨rfl,⟨b,a % b,_,_,_,_,_,_,_,_,_,_,_,_,_,_,_,_,_,_,_,_,_,_,_,_,rfl,h1.ext x3,hr.mono hx.size,?_,HLB.out,HLB.out.imp (fun h=>Nat.le_trans (Nat.le_of_lt hl) h) (fun h=>Nat.le_trans (Nat.le_of_lt hl) h),hx.trans x3⟩,?_⟩
   ·rw[gcd_step,HGG.out]
   ·show valOf _ r<valOf _ (.slice p1 (dig b).length c1)
    rw[valOf_eq hr.limbs,valOf_eq h1.limbs,val_dig,val_dig];exact hl
end Go.Proofs.YtfofjalebhajhaaGreatDoor
namespace Go.Proofs.YtfofjalebhajhaaGreatDoor
open Go Go.RowKit
def InN (w:World) (u:Value) (k n:Nat):Prop:=∃ B,Limbs w u B∧val B=n∧B.length≤k
theorem InN.ext {w w':World}{u:Value}{k n:Nat}(h:InN w u k n) (x:Ext w w'):InN w' u k n:=by obtain⟨B,h1,h2⟩:=h;exact⟨B,h1.ext x,h2⟩
theorem InN.gr {w w':World}{u:Value}{k n:Nat}(h:InN w u k n) (x:Gr w w'):InN w' u k n:=by obtain⟨B,h1,h2⟩:=h;exact⟨B,h1.gr x,h2⟩
theorem InN.lt {w:World}{u:Value}{k n:Nat}(h:InN w u k n):n<Bs^k:=by
 obtain⟨B,h1,h2,h3⟩:=h;rw[←h2];exact Nat.lt_of_lt_of_le (val_lt h1.2) (Nat.pow_le_pow_right Bs_pos h3)
theorem Limbs.inN {w:World}{u:Value}{k n:Nat}(h:Limbs w u (dig n)) (hk:n<Bs^k):InN w u k n:=⟨dig n,h,val_dig n,dig_len_le hk⟩
theorem InI.mag {w:World}{b:Bool}{v:Value}{k:Nat}{z:Int}(h:InI w b v k z):InN w v k z.natAbs:=by
 obtain⟨A,h1,rfl,h3⟩:=h;exact⟨A,h1,(iv_abs b A).symm,h3⟩
theorem IsI.mag {w:World}{b:Bool}{v:Value}{m:Nat}{z:Int}(h:IsI w b v m z):Limbs w v (dig z.natAbs):=by rw[h.2.1];exact h.2.2
theorem len0:0<Bs^1:=Nat.pow_pos Bs_pos
theorem inR_zero (w:World):InR w false (.slice none 0 0) (.slice none 0 0) 1 0:=⟨[],[],Limbs.nil w,Limbs.nil w,by rw[show val []=0 from rfl,Rat.mkRat_zero],by simp,by simp,Nat.le_refl _⟩
theorem lt_mul {a b k l:Nat}(h1:a<Bs^k) (h2:b<Bs^l):a*b<Bs^(k+l):=by rw[Nat.pow_add];exact Nat.mul_lt_mul'' h1 h2
theorem div_lt {a b k:Nat}(h1:a<Bs^k):a / b<Bs^k:=Nat.lt_of_le_of_lt (Nat.div_le_self _ _) h1
theorem gcd_lt {a b k:Nat}(h1:b<Bs^k) (h0:b≠0):Nat.gcd a b<Bs^k:=Nat.lt_of_le_of_lt (Nat.gcd_le_right _ (Nat.pos_of_ne_zero h0)) h1
theorem LenI.by {k l m:Nat}{z:Int}(h1:LenI k z) (h2:m<Bs^l):LenI (k+l) (z*(m:Nat)):=LenI.mul h1 (by unfold LenI;simpa using h2)
def sgI (b:Bool) (n:Nat):Int:=if b then -(n:Int) else n
theorem sgI_abs (b:Bool) (n:Nat):(sgI b n).natAbs=n:=by unfold sgI;split <;> omega
theorem LenI.sg {k n:Nat}{b:Bool}(h:n<Bs^k):LenI k (sgI b n):=by unfold LenI;rw[sgI_abs];exact h
theorem isR_mk {w:World}{b:Bool}{v u:Value}{m d:Nat}{q:Rat}(h1:IsI w b v m q.num) (h2:Limbs w u (dig d)) (h3:d=q.den):IsR w b v u m d q:=⟨h1.1,h1.2.1,h3.symm,h1.2.2,h2⟩
theorem InR.mk {w:World}{b:Bool}{v u:Value}{k l m n:Nat}{z:Int}{q:Rat}(h1:InI w b v k z) (h2:InN w u l n) (hq:mkRat z n=q) (hk:k≤m) (hl:l≤m) (hm:1≤m):InR w b v u m q:=by
 obtain⟨A,a1,rfl,a3⟩:=h1;obtain⟨B,b1,rfl,b3⟩:=h2;exact⟨A,B,a1,b1,hq,Nat.le_trans a3 hk,Nat.le_trans b3 hl,hm⟩
theorem OwnL.slice' {B:Nat}{w:World}{v:Value}{A:List Nat}(h:OwnL B w v A):∃ a n c,v = .slice a n c:=by
 obtain⟨a,c,h,-⟩:=h.limbs.open;exact⟨a,_,c,h⟩
theorem lmax_17 {n:Nat}(h:n≤65535):n≤Lmax:=by rw[Lmax_def];omega
theorem wmake_is {w:World}{v:Value}{k n:Nat}{z:Int}(h:InN w v k n) (b:Bool) (hk:k≤65535) (hz:sgI b n=z):Calls Tryz.prog 83 #[.bool b,v] w (RetZ w z):=by
 obtain⟨A,h1,rfl,h3⟩:=h;subst hz
 exact (make_calls h1 (by omega) b).mono fun _ _ h=>h.z
theorem nzero_n {w:World}{v:Value}{k n:Nat}(h:InN w v k n) (hk:k≤65535) (b:Bool) (hb:decide (n=0)=b):Calls Tryz.prog 100 #[v] w fun e w'=>e = .returned (.bool b)∧Ext w w':=by
 obtain⟨A,h1,rfl,h3⟩:=h;exact zero_ext h1 (by omega) b hb
theorem gcd_n {w:World}{v u:Value}{k l m n:Nat}(h:InN w v k m) (g:InN w u l n) (hk:k≤65535) (hl:l≤65535):Calls Tryz.prog 101 #[v,u] w (RetNat w (Nat.gcd m n)):=by
 obtain⟨A,h1,rfl,h3⟩:=h;obtain⟨B,g1,rfl,g3⟩:=g;exact gcd_calls h1 g1 (by omega) (by omega)
theorem div_n {w:World}{v u:Value}{k l m n:Nat}(h:InN w v k m) (g:InN w u l n) (hk:k≤65535) (hl:l≤65535) (h0:n≠0):Calls Tryz.prog 90 #[v,u] w fun e w' => ∃ q r,e = .returned (.tuple #[q,r,.int .i64 0])∧OwnL w.heap.size w' q (dig (m / n))∧OwnL w.heap.size w' r (dig (m % n))∧Ext w w':=by
 obtain⟨A,h1,h2,h3⟩:=h;obtain⟨B,g1,g2,g3⟩:=g;exact quodiv_nz h1 g1 (by omega) (by omega) h2 g2 h0
theorem nmul_n {w:World}{v u:Value}{k l m n:Nat}(h:InN w v k m) (g:InN w u l n) (hk:k+l≤65535):Calls Tryz.prog 73 #[v,u] w (RetNat w (m*n)):=by
 obtain⟨A,h1,rfl,h3⟩:=h;obtain⟨B,g1,rfl,g3⟩:=g;exact natmul_calls h1 g1 (by rw[Lmax_def];omega)
theorem wadd_z {w:World}{b1 b2:Bool}{v u:Value}{k l:Nat}{x y:Int}(hx:InI w b1 v k x) (hy:InI w b2 u l y) (hk:k≤65535) (hl:l≤65535) :
  Calls Tryz.prog 71 #[.agg #[.bool b1,v],.agg #[.bool b2,u]] w (RetZ w (x+y)):=by
 obtain⟨A,a1,rfl,a3⟩:=hx;obtain⟨B,c1,rfl,c3⟩:=hy
 exact (iadd_calls a1 c1 (by omega) (by omega) b1 b2).mono fun _ _ h=>h.z
theorem wmul_z {w:World}{b1 b2:Bool}{v u:Value}{k l:Nat}{x y:Int}(hx:InI w b1 v k x) (hy:InI w b2 u l y) (hk:k+l≤65535) :
  Calls Tryz.prog 75 #[.agg #[.bool b1,v],.agg #[.bool b2,u]] w (RetZ w (x*y)):=by
 obtain⟨A,a1,rfl,a3⟩:=hx;obtain⟨B,c1,rfl,c3⟩:=hy
 exact (imul_calls a1 c1 (by omega) b1 b2).mono fun _ _ h=>h.z
theorem wof_z (w:World) (n:Int) (h1:-9223372036854775808≤n) (h2:n≤9223372036854775807):Calls Tryz.prog 78 #[.int .i64 n] w (RetZ w n) :=
 (iof_calls w n h1 h2).mono fun _ _ h=>h.z
theorem lenN_raw {w:World}{v:Value}{A:List Nat}{k:Nat}(h:Limbs w v A) (hk:A.length≤k):val A<Bs^k:=Nat.lt_of_lt_of_le (val_lt h.2) (Nat.pow_le_pow_right Bs_pos hk)
theorem lenR_zero:LenR 1 0:=⟨by simpa using len0,one_lt_pow (by decide)⟩
theorem lenR_raw {w:World}{v u:Value}{A B:List Nat}{k:Nat}{b:Bool}{q:Rat}(h:Limbs w v A) (g:Limbs w u B) (hq:mkRat (iv b A) (val B)=q) (hk:A.length≤k) (hl:B.length≤k) (h1:1≤k):LenR k q :=
 InR.len ⟨A,B,h,g,hq,hk,hl,h1⟩
end Go.Proofs.YtfofjalebhajhaaGreatDoor
