/- What MassTotals asks of masses: their totals. -/
import Derived.Test.YtfofjalebhajhaaGreatDoorMass25
namespace Go.Proofs.YtfofjalebhajhaaGreatDoor
open Go Go.RowKit
def RetT (w:World) (q:Rat) (z:Ending) (w':World):Prop:=∃ (p:Option Addr) (n c:Nat),z = .returned (.slice p n c)∧(∀ X,Ext w' X→Calls Tryz.prog 16 #[.slice p n c] X (RetQ X q))∧Ext w w'
theorem GathRet.tot {w:World}{M:List Pt}{z:Ending}{w':World}(h:GathRet w M z w'){D X k:Nat}{q:Rat}(hp:∀ a∈M,0<a.2) (hq:totV M=q) (hdn:∀ a∈M,Dn D X a.2) (hD0:D≠0) (hD:D<Bs^k) (hX:M.length*(M.length*X)<Bs^k) (hk1:1≤k) (hk:k≤10000):RetT w q z w':=by
 obtain⟨v',out,rfl,h1,h2,h3⟩:=h;obtain⟨p,c,rfl⟩:=h2.shape;refine⟨_,_,_,rfl,fun X' hX'=>?_,h3⟩;have hd:=h1.dn hdn
 have hs:M.length*X<Bs^k:=by
  rcases Nat.eq_zero_or_pos M.length with e | e
  ·rw[e,Nat.zero_mul];exact Nat.pow_pos Bs_pos
  ·exact Nat.lt_of_le_of_lt (Nat.le_mul_of_pos_left _ e) hX
 have:=totalM_calls (h2.ext hX') (D:=D) (X:=M.length*X) (k:=k) (K:=k) hD0 hD (Nat.lt_of_le_of_lt (Nat.mul_le_mul_right _ h1.len) hX) hk1 hk hd hk hk1 fun a ha=>(hd a ha).len hD0 hD hs hk1
 rw[h1.tot hp,hq]at this;exact this
theorem pow_parts (a b c:Nat) (h:a+b=c):Bs^c=Bs^a*Bs^b:=by rw[←h,Nat.pow_add]
theorem pow_small {c n:Nat}(hc:c<Bs):c*Bs^n<Bs^(n+1):=by
 rw[Nat.pow_succ,Nat.mul_comm c];exact Nat.mul_lt_mul_of_pos_left hc (Nat.pow_pos Bs_pos)
theorem pow_small' {c n m:Nat}(hc:c<Bs) (hm:n+1≤m):c*Bs^n<Bs^m:=Nat.lt_of_lt_of_le (pow_small hc) (Nat.pow_le_pow_right Bs_pos hm)
theorem pow_mul_small {c Y n m:Nat}(hY:Y≤Bs^n) (hc:c<Bs) (hm:n+1≤m):c*Y<Bs^m:=Nat.lt_of_le_of_lt (Nat.mul_le_mul_left c hY) (pow_small' hc hm)
structure DB (D X:Nat):Prop where
 nz:D≠0
 le:D≤X
 hi:X≤Bs^240
theorem DB.big {D X:Nat}(h:DB D X){q:Nat}(hq:q≤1000000):q*X<Bs^241 :=
 Nat.lt_of_le_of_lt (Nat.mul_le_mul_left q h.hi) (pow_small (by rw[Bs_def];omega))
theorem DB.lt {D X:Nat}(h:DB D X):D<Bs^241:=by have:=h.big (q:=1) (by decide);have:=h.le;omega
structure MB (D X:Nat) (A:List Pt):Prop where
 mass:MassP A
 dn:∀ a∈A,Dn D (40*X) a.2
 len:A.length≤40
 sz:∀ a∈A,szV a.1≤6000
theorem MB.lens {D X:Nat}{A:List Pt}(h:MB D X A) (b:DB D X):∀ a∈A,LenR 241 a.2:=fun a ha=>(h.dn a ha).len b.nz b.lt (b.big (by decide)) (by decide)
theorem MB.tlen {D X:Nat}{A:List Pt}(h:MB D X A) (b:DB D X):LenR 241 (totV A):=(sumW_len h.dn).len b.nz b.lt (by
 rw[←Nat.mul_assoc]
 exact b.big (Nat.le_trans (Nat.mul_le_mul_right 40 h.len) (by decide))) (by decide)
theorem MB.filter {D X:Nat}{A:List Pt}(h:MB D X A) (P:Pt→Bool):MB D X (A.filter P) :=
 ⟨h.mass.filter P,fun a ha=>h.dn a (List.mem_filter.1 ha).1,Nat.le_trans (List.length_filter_le _ _) h.len,fun a ha=>h.sz a (List.mem_filter.1 ha).1⟩
theorem mb_total {D X:Nat}{A:List Pt}(h:MB D X A) (b:DB D X){w:World}{v:Value}(hs:SlM w v A):Calls Tryz.prog 16 #[v] w (RetQ w (totV A)) :=
 totalM_calls hs (D:=D) (X:=40*X) (k:=241) (K:=241) b.nz b.lt (by
  rw[←Nat.mul_assoc]
  exact b.big (Nat.le_trans (Nat.mul_le_mul_right 40 h.len) (by decide))) (by decide) (by decide) h.dn (by decide) (by decide) (h.lens b)
theorem app_of {A B:List Pt}{P:Pt→Prop}(h:∀ a∈A,P a) (g:∀ a∈B,P a):∀ a∈A ++ B,P a:=fun a ha=>by
 rcases List.mem_append.1 ha with h1 | h1
 ·exact h a h1
 ·exact g a h1
theorem mb_add0 {D X:Nat}{A B:List Pt}(h:MB D X A) (g:MB D X B) (b:DB D X) (hl:A.length+B.length≤40){w:World}{v u:Value}(hs:SlM w v A) (hs':SlM w u B):Calls Tryz.prog 30 #[v,u] w (GathRet w (A ++ B)) :=
 addM_calls hs hs' (D:=D) (X:=40*X) (k:=241) (K:=241) (by decide) (by decide) (app_of (h.lens b) (g.lens b)) (by omega) (app_of (fun a ha=>Nat.le_trans (h.sz a ha) (by decide)) (fun a ha=>Nat.le_trans (g.sz a ha) (by decide))) (app_of h.dn g.dn) b.nz b.lt (by
  rw[←Nat.mul_assoc]
  exact b.big (Nat.le_trans (Nat.mul_le_mul_right 40 hl) (by decide))) (by decide) (by decide)
theorem mb_add {D X:Nat}{A B:List Pt}(h:MB D X A) (g:MB D X B) (b:DB D X) (hl:A.length+B.length≤40){w:World}{v u:Value}(hs:SlM w v A) (hs':SlM w u B):Calls Tryz.prog 30 #[v,u] w (RetT w (totV A+totV B)):=by
 refine (mb_add0 h g b hl hs hs').mono fun z w' hz=>?_
 refine hz.tot (D:=D) (X:=40*X) (k:=241) (app_of h.mass.2 g.mass.2) (totV_app A B) (app_of h.dn g.dn) b.nz b.lt ?_ (by decide) (by decide);rw[List.length_append]
 have e:(A.length+B.length)*((A.length+B.length)*(40*X))=(A.length+B.length)*((A.length+B.length)*40)*X:=by rw[Nat.mul_assoc,Nat.mul_assoc]
 rw[e];exact b.big (Nat.le_trans (Nat.mul_le_mul hl (Nat.mul_le_mul_right 40 hl)) (by decide))
theorem mb_whole {D X:Nat}{A B M:List Pt}(h:MB D X A) (g:MB D X B) (b:DB D X) (hl:A.length+B.length≤40) (hp:(A ++ B).Perm M) (hM:MassP M){w:World}{v u:Value}(hs:SlM w v A) (hs':SlM w u B) :
  Calls Tryz.prog 30 #[v,u] w fun z w' => ∃ v',z = .returned v'∧SlM w' v' M∧Ext w w':=by
 refine (mb_add0 h g b hl hs hs').mono fun z w' hz=>?_
 obtain⟨v',out,rfl,h1,h2,h3⟩:=hz;rw[h1.of_perm hp hM]at h2;exact⟨v',rfl,h2,h3⟩
theorem mb_map {D X:Nat}{A:List Pt}(h:MB D X A) (b:DB D X){w:World}{v:Value}(hs:SlM w v A):Calls Tryz.prog 24 #[v,.func (.func 35) #[] #[]] w (RetT w (totV A)):=by
 have hX:A.length*(40*X)<Bs^241:=by
  rw[←Nat.mul_assoc];exact b.big (Nat.le_trans (Nat.mul_le_mul_right 40 h.len) (by decide))
 refine (mapM_calls hs mapn_how (D:=D) (X:=40*X) (k:=241) (K:=241) (by decide) (by decide) (h.lens b) (by have:=h.len;omega) (fun a ha=>Nat.le_trans (h.sz a ha) (by decide)) (fun a ha=>by simp [szV,szVs]) h.dn b.nz b.lt hX (by decide) (by decide)).mono fun z w' hz=>?_
 refine hz.tot (D:=D) (X:=40*X) (k:=241) (fun a ha=>?_) (totV_map A _) (fun a ha=>?_) b.nz b.lt ?_ (by decide) (by decide)
 ·obtain⟨t,ht,rfl⟩:=List.mem_map.1 ha;exact h.mass.2 t ht
 ·obtain⟨t,ht,rfl⟩:=List.mem_map.1 ha;exact h.dn t ht
 ·rw[List.length_map,show A.length*(A.length*(40*X))=A.length*(A.length*40)*X by rw[Nat.mul_assoc,Nat.mul_assoc]];exact b.big (Nat.le_trans (Nat.mul_le_mul h.len (Nat.mul_le_mul_right 40 h.len)) (by decide))
theorem mb_keep {D X:Nat}{A:List Pt}(h:MB D X A) (b:DB D X){w:World}{v:Value}(hs:SlM w v A){G c0:Nat}{P:VT→Bool}(hG:KeepFn G c0 w P) :
  Calls Tryz.prog 25 #[v,.func (.func G) #[] #[.pointer (some ⟨c0,0,none⟩)]] w fun z w' => ∃ v',z = .returned v'∧SlM w' v' (A.filter fun a=>P a.1)∧Ext w w':=by
 have hX:A.length*(40*X)<Bs^241:=by
  rw[←Nat.mul_assoc];exact b.big (Nat.le_trans (Nat.mul_le_mul_right 40 h.len) (by decide))
 refine (keepM_calls hs hG (D:=D) (X:=40*X) (k:=241) (K:=241) (by decide) (by decide) (h.lens b) (by have:=h.len;omega) (fun a ha=>Nat.le_trans (h.sz a ha) (by decide)) h.dn b.nz b.lt hX (by decide) (by decide)).mono fun z w' hz=>?_
 obtain⟨v',out,rfl,h1,h2,h3⟩:=hz;rw[h1.self (h.mass.filter _)]at h2;exact⟨v',rfl,h2,h3⟩
theorem pairsM_len (A B:List Pt):(pairsM A B).length=A.length*B.length:=by
 unfold pairsM
 induction A with
 | nil=>simp
 | cons a A ih=>rw[List.flatMap_cons,List.length_append,ih,List.length_map,List.length_cons,Nat.add_mul,Nat.one_mul,Nat.add_comm]
theorem mb_join {D X:Nat}{A B:List Pt}(h:MB D X A) (g:MB D X B) (b:DB D X){w:World}{v u:Value}(hs:SlM w v A) (hs':SlM w u B) :
  Calls Tryz.prog 26 #[v,u,.func (.func 32) #[] #[]] w (RetT w (totV A*totV B)):=by
 have hl:A.length*B.length≤1600:=Nat.mul_le_mul h.len g.len
 have hXX:X*X≤Bs^480:=by rw[pow_parts 240 240 480 rfl];exact Nat.mul_le_mul b.hi b.hi
 have hbig:∀ q,q≤4096000000→q*(X*X)<Bs^482:=fun q hq=>by
  exact pow_mul_small (c:=q) (Y:=X*X) (n:=480) (m:=482) hXX (by rw[Bs_def];omega) (by decide)
 have hD:D*D<Bs^482:=by
  have h1:=hbig 1 (by decide);have h2:=Nat.mul_le_mul b.le b.le;omega
 have hdn:∀ p∈pairsM A B,Dn (D*D) (1600*(X*X)) (p.1.2*p.2.2):=fun p hp=>by
  obtain⟨h1,h2⟩:=pairsM_mem hp;have:=(h.dn _ h1).mul (g.dn _ h2);rw[show 40*X*(40*X)=1600*(X*X) by rw[Nat.mul_mul_mul_comm]]at this;exact this
 refine (joinM_calls hs hs' pair_how (D:=D*D) (X:=1600*(X*X)) (k:=482) (K:=241) (by decide) (by decide) (h.lens b) (g.lens b) (by omega) (by have:=h.len;omega) (by have:=g.len;omega) (fun a ha=>Nat.le_trans (h.sz a ha) (by decide)) (fun a ha=>Nat.le_trans (g.sz a ha) (by decide)) (fun p hp=>?_) hdn (Nat.mul_ne_zero b.nz b.nz) hD ?_ (by decide) (by decide)).mono fun z w' hz=>?_
 ·obtain⟨h1,h2⟩:=pairsM_mem hp;have:=h.sz _ h1;have:=g.sz _ h2;simp only[szV,szVs];omega
 ·rw[←Nat.mul_assoc];exact hbig _ (Nat.le_trans (Nat.mul_le_mul_right 1600 hl) (by decide))
 ·refine hz.tot (D:=D*D) (X:=1600*(X*X)) (k:=482) (fun a ha=>?_) (totV_pairs A B fun t t' => .mk 3 0 [t,t']) (fun a ha=>?_) (Nat.mul_ne_zero b.nz b.nz) hD ?_ (by decide) (by decide)
  ·obtain⟨p,hp,rfl⟩:=List.mem_map.1 ha;obtain⟨h1,h2⟩:=pairsM_mem hp;exact Rat.mul_pos (h.mass.2 _ h1) (g.mass.2 _ h2)
  ·obtain⟨p,hp,rfl⟩:=List.mem_map.1 ha;exact hdn p hp
  ·rw[List.length_map,pairsM_len,show ∀ n:Nat,n*(n*(1600*(X*X)))=n*(n*1600)*(X*X) from fun n=>by rw[Nat.mul_assoc,Nat.mul_assoc]];exact hbig _ (Nat.le_trans (Nat.mul_le_mul hl (Nat.mul_le_mul_right 1600 hl)) (by decide))
theorem mb_scale0 {D X:Nat}{A:List Pt}(h:MB D X A) (b:DB D X){w:World}{v:Value}(hs:SlM w v A){s:Bool}{p1:Option Addr}{n1 c1:Nat}{p2:Option Addr}{n2 c2:Nat}{q:Rat}(hr:InR w s (.slice p1 n1 c1) (.slice p2 n2 c2) 6 q) :
  Calls Tryz.prog 37 #[v,.agg #[.bool s,.slice p1 n1 c1,.slice p2 n2 c2]] w fun z w'=>(0<q→RetT w (totV A*q) z w')∧(¬ 0<q → ∃ p c,z = .returned (.slice p 0 c)∧Ext w w'):=by
 have hq:=hr.len;have hn:q.num.natAbs≤Bs^6:=Nat.le_of_lt hq.1;have hd:q.den≤Bs^6:=Nat.le_of_lt hq.2
 have hbig:∀ c Y Z,c≤1000000→Y≤Bs^240→Z≤Bs^6→c*(Y*Z)<Bs^247:=fun c Y Z hc hY hZ=>by
  have h1:Y*Z≤Bs^246:=by rw[pow_parts 240 6 246 rfl];exact Nat.mul_le_mul hY hZ
  exact pow_mul_small h1 (by rw[Bs_def];omega) (by decide)
 have hD:D*q.den<Bs^247:=by
  have:=hbig 1 D q.den (by decide) (Nat.le_trans b.le b.hi) hd;omega
 have hD0:D*q.den≠0:=Nat.mul_ne_zero b.nz q.den_nz
 have hdn:∀ a∈A,Dn (D*q.den) (40*(X*q.num.natAbs)) (a.2*q):=fun a ha=>by
  have:=(h.dn a ha).mul (Dn.self q);rw[Nat.mul_assoc]at this;exact this
 have hX:A.length*(40*(X*q.num.natAbs))<Bs^247:=by
  rw[←Nat.mul_assoc];exact hbig _ _ _ (Nat.le_trans (Nat.mul_le_mul_right 40 h.len) (by decide)) b.hi hn
 refine (scaleM_calls hs hr (D:=D*q.den) (X:=40*(X*q.num.natAbs)) (k:=247) (K:=241) (K':=6) (by decide) (by decide) (by decide) (h.lens b) (by have:=h.len;omega) (fun a ha=>Nat.le_trans (h.sz a ha) (by decide)) hdn hD0 hD hX (by decide) (by decide)).mono fun z w' hz=>⟨fun h0=>?_,fun h0=>?_⟩
 ·refine hz.tot (D:=D*q.den) (X:=40*(X*q.num.natAbs)) (k:=247) (fun a ha=>?_) (totV_mapq A (fun a=>a.1) q) (fun a ha=>?_) hD0 hD ?_ (by decide) (by decide)
  ·obtain⟨t,ht,rfl⟩:=List.mem_map.1 ha;exact Rat.mul_pos (h.mass.2 t ht) h0
  ·obtain⟨t,ht,rfl⟩:=List.mem_map.1 ha;exact hdn t ht
  ·rw[List.length_map,show ∀ n Y:Nat,n*(n*(40*Y))=n*(n*40)*Y from fun n Y=>by rw[Nat.mul_assoc,Nat.mul_assoc]];exact hbig _ _ _ (Nat.le_trans (Nat.mul_le_mul h.len (Nat.mul_le_mul_right 40 h.len)) (by decide)) b.hi hn
 ·obtain⟨v',out,rfl,h1,h2,h3⟩:=hz
  have e:out = []:=h1.low fun a ha=>by
   obtain⟨t,ht,rfl⟩:=List.mem_map.1 ha;have h4:=h.mass.2 t ht;have h5:q≤0:=Rat.not_lt.1 h0
   show t.2*q≤0
   have h6:=Rat.mul_le_mul_of_nonneg_left h5 (Rat.le_of_lt h4)
   rwa [Rat.mul_zero]at h6
  obtain⟨p,c,rfl⟩:=h2.shape;rw[e];exact⟨p,c,rfl,h3⟩
end Go.Proofs.YtfofjalebhajhaaGreatDoor
