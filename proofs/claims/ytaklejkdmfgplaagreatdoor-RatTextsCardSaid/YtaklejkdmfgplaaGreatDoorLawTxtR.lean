/- The contracts of tombolaref05.Show and Read by the numbers. -/
import Derived.Test.YtaklejkdmfgplaaGreatDoorPartC
import Derived.Test.YtaklejkdmfgplaaGreatDoorWholeRef
namespace Go.Proofs.YtaklejkdmfgplaaGreatDoor
open Go Go.RowKit

theorem refread_is (s : ByteArray) (w : World) (hs : s.size ≤ 500) (k : Int) (z : Int) (hk : ((errI s.data.toList : Nat) : Int) = k) (hz : readI s.data.toList = z) :
    Calls Tryz.prog 80 #[.string s] w fun e w' => ∃ b v m, e = .returned (.tuple #[.agg #[.bool b, v], .int .i64 k]) ∧ IsI w' b v m z ∧ Ext w w' := by
  subst hk hz
  exact (refiread_calls s w hs).mono fun _ _ ⟨v, h1, h2, h3⟩ => ⟨_, v, _, h1, ⟨rfl, rfl, h2.limbs⟩, h3⟩
end Go.Proofs.YtaklejkdmfgplaaGreatDoor
