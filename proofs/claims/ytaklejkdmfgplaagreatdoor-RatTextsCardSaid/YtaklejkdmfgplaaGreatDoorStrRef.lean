/- The contracts of the reference of dec, their texts by names. -/
import Derived.Test.YtaklejkdmfgplaaGreatDoorRef04R
import Derived.Test.YtaklejkdmfgplaaGreatDoorPartB
namespace Go.Proofs.YtaklejkdmfgplaaGreatDoor
open Go Go.RowKit

theorem refshow_str {w : World} {v : Value} {A : List Nat} (hA : Limbs w v A) (hln : A.length ≤ 65536) (s : ByteArray) (hs : s.data.toList = showL (val A)) :
    Calls Tryz.prog 86 #[v] w fun e w' => e = .returned (.string s) ∧ Ext w w' :=
  (refshow_calls hA hln).mono fun _ _ ⟨h1, h2⟩ => ⟨by rw [h1, mk_of hs], h2⟩

theorem refread_str (s : ByteArray) (w : World) (hs : s.size ≤ maxLen) (k : Int) (n : Nat) (hk : ((errR s.data.toList : Nat) : Int) = k) (hn : readN s.data.toList = n) :
    Calls Tryz.prog 81 #[.string s] w fun e w' => ∃ v, e = .returned (.tuple #[v, .int .i64 k]) ∧ OwnL w.heap.size w' v (dig n) ∧ Ext w w' :=
  (refread_calls s w hs).mono fun _ _ ⟨v, h1, h2, h3⟩ => ⟨v, by rw [h1, hk], by rw [← hn]; exact h2, h3⟩

end Go.Proofs.YtaklejkdmfgplaaGreatDoor
