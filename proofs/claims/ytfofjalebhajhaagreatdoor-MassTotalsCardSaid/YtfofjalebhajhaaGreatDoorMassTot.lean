/- Totals of masses: plain facts. -/
import Derived.Test.YtfofjalebhajhaaGreatDoorMass18
namespace Go.Proofs.YtfofjalebhajhaaGreatDoor
open Go Go.RowKit
theorem totV_nil:totV []=0:=rfl
theorem totV_mapq (M:List Pt) (g:Pt→VT) (q:Rat):totV (M.map fun a=>(g a,a.2*q))=totV M*q:=by
 induction M with
 | nil=>rw[List.map_nil,totV_nil,Rat.zero_mul]
 | cons a M ih=>rw[List.map_cons,totV_cons,totV_cons,ih];grind
theorem totV_map (M:List Pt) (g:Pt→VT):totV (M.map fun a=>(g a,a.2))=totV M:=by
 induction M with
 | nil=>rfl
 | cons a M ih=>rw[List.map_cons,totV_cons,totV_cons,ih]
theorem totV_pairs (A B:List Pt) (f:VT→VT→VT):totV ((pairsM A B).map fun p=>(f p.1.1 p.2.1,p.1.2*p.2.2))=totV A*totV B:=by
 unfold pairsM
 induction A with
 | nil=>rw[List.flatMap_nil,List.map_nil,totV_nil,Rat.zero_mul]
 | cons a A ih =>
  rw[List.flatMap_cons,List.map_append,totV_app,ih,totV_cons,List.map_map]
  have e:totV (B.map ((fun p:Pt × Pt=>(f p.1.1 p.2.1,p.1.2*p.2.2)) ∘ fun b=>(a,b)))=a.2*totV B:=by
   have h:=totV_mapq B (fun b=>f a.1 b.1) a.2;rw[Rat.mul_comm a.2,←h]
   congr 1
   refine List.map_congr_left fun b _=>?_
   show (f a.1 b.1,a.2*b.2)=(f a.1 b.1,b.2*a.2)
   rw[Rat.mul_comm]
  rw[e];grind
theorem Gath.tot {M out:List Pt}(h:Gath M out) (hp:∀ a∈M,0<a.2):totV out=totV M:=h.sum hp cls_one
theorem Gath.szle {M out:List Pt}(h:Gath M out){z:Nat}(hz:∀ a∈M,szV a.1≤z):∀ a∈out,szV a.1≤z:=fun a ha=>by
 obtain⟨q,hq⟩:=h.mem ha;exact hz (a.1,q) hq
theorem MassP.filter {M:List Pt}(h:MassP M) (P:Pt→Bool):MassP (M.filter P):=⟨h.1.filter _,fun a ha=>h.2 a (List.mem_filter.1 ha).1⟩
theorem filt_perm (M:List Pt) (P:Pt→Bool):(M.filter P ++ M.filter fun a => !P a).Perm M:=by
 induction M with
 | nil=>exact List.Perm.refl _
 | cons a M ih =>
  cases hp:P a with
  | true=>simp only[List.filter_cons,hp,if_true,Bool.not_true,Bool.false_eq_true,if_false,List.cons_append];exact ih.cons a
  | false =>
   simp only[List.filter_cons,hp,Bool.false_eq_true,if_false,Bool.not_false,if_true];exact List.perm_middle.trans (ih.cons a)
theorem totV_perm {l m:List Pt}(h:l.Perm m):totV l=totV m:=sumW_perm h
theorem madeL_filter (L:List Pt) (P:Pt→Bool):madeL (fun i=>(L[i]?).bind fun a=>if P a then some a else none) L.length=L.filter P:=by
 have h:∀ n,n≤L.length→madeL (fun i=>(L[i]?).bind fun a=>if P a then some a else none) n=(L.take n).filter P:=by
  intro n
  induction n with
  | zero=>intro _;rfl
  | succ n ih =>
   intro hn;rw[madeL_succ,ih (by omega),List.take_add_one,List.getElem?_eq_getElem (show n<L.length by omega),List.filter_append]
   congr 1
   simp only[Option.bind_some,Option.toList_some,List.filter_cons,List.filter_nil]
   cases P L[n] <;> rfl
 rw[h _ (Nat.le_refl _),List.take_of_length_le (Nat.le_refl _)]
theorem sumW_len {D X:Nat}{M:List Pt}(h:∀ a∈M,Dn D X a.2):Dn D (M.length*X) (totV M):=sumW_dn (fun _ => .inr rfl) M h
end Go.Proofs.YtfofjalebhajhaaGreatDoor
