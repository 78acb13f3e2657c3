/- Facts and contracts, joined: Awake06. -/
import Derived.Test.YtfofjalebhajhaaGreatDoorPartF
namespace Go.Proofs.YtfofjalebhajhaaGreatDoor
open Go Go.RowKit
theorem mk_lowest {z:Int}{d:Nat}(h0:d≠0) (hg:Nat.gcd z.natAbs d=1):(mkRat z d).num=z∧(mkRat z d).den=d:=by
 rw[mk_num h0,mk_den h0,hg];simp
theorem showR_of {q:Rat}{l:List UInt8}(h:errQ l=0) (hq:readQ l=q):l=showR q:=by
 unfold readQ at hq;rw[if_neg (by simp [h])]at hq;unfold errQ at h
 rcases indexByte_range l 47 with hi | ⟨i,hi,hl⟩
 ·rw[if_pos hi]at h hq;subst hq;unfold showR;rw[Rat.num_intCast,Rat.den_intCast,if_pos rfl,List.append_nil,back_show h]
 ·rw[if_neg (by omega),hi]at h hq;simp only[Int.toNat_natCast]at h hq
  by_cases h1:errI (l.take i)≠0
  ·rw[if_pos h1]at h;exact absurd h h1
  rw[if_neg h1]at h
  by_cases h2:errR (l.drop (i+1))≠0
  ·rw[if_pos h2]at h;exact absurd h h2
  rw[if_neg h2]at h
  split at h
  ·rename_i h3
   obtain⟨e1,e2⟩:=mk_lowest h3.2.1 h3.2.2;subst hq;unfold showR;rw[e1,e2,if_neg h3.1,back_show (by omega),show_read (by omega)];have h47:=(Lib.indexByte_some hi).1;obtain⟨_,h47⟩:=List.getElem?_eq_some_iff.1 h47;rw[←h47,List.getElem_cons_drop,List.take_append_drop]
  ·omega
end Go.Proofs.YtfofjalebhajhaaGreatDoor
