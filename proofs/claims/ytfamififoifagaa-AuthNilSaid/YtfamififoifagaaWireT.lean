/- Contracts of wire: the reader's state. -/
import Derived.Test.YtfamififoifagaaWireS
namespace Go.Proofs.Ytfamififoifagaa
open Go.RowKit Words

set_option maxRecDepth 100000 in
theorem state_calls (b : Nat) (w : World) : Calls Try.prog 44 #[.pointer (some ⟨b, 0, none⟩)] w fun e w' => e = .returned (.pointer (some ⟨b, 0, none⟩)) ∧ w = w' := by
  go_enter Try.func44, Try.ntmps44
  go_wp2
  go_ret
  exact ⟨rfl, rfl⟩
end Go.Proofs.Ytfamififoifagaa
