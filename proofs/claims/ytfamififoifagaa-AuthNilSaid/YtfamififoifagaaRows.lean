/-
  No cell of these rows narrows 'for every input' (looked for: loops, veiled, ifaces, maps, wideKeys, modest, calm, conditions, laid).
  DERIVED. THE GIVEN ROWS OF THIS SEAT. 4 by the template 'for every input the law returns true; each argument reads behind the call as it read before'; 0 by the template 'total and deterministic' (their statements: YtfamififoifagaaTotals.lean).
  GIVEN WITH THE SEED: the statements are not yours to turn. If you find one false, say at which input.
  Laid BY PROGRAM, IN A SANDBOX (cutbox-rows.mjs): the forced cells as the released guide's own fill.sh prints them over the translation b34e116a04376f15… (all of the seat's roots in one cut). By AI agents, Wed Nov 11 2026. No macro, syntax, notation, axiom, sorry.
-/
import Derived.Test.YtfamififoifagaaChecked
import GoSem.Claim
import GoSem.ClaimJoined
import GoSem.ClaimMapViews
import Derived.JoinedTies
import Derived.KernelRfl
namespace Go.Proofs.Ytfamififoifagaa
/- THE CELL 'sum', in the pinned program and in every row, IS THE sha256 OF THE DUMP (.gsa) THAT YtfamififoifagaaProg.lean LOADS. Nothing in Lean hashes anything: it is a label: what it is worth is what the hold of that sum in a sandbox is worth. -/
noncomputable def Try.pinned : Pinned := { name := "ytfamififoifagaa", sum := "b34e116a04376f15a00415c343f35ad320366d16e82fcb57dca272c772ed73e0", checked := Try.checked }
namespace Rows
def none {H : Type} : Left H := { results := [], args := [] }

/-- 'capsulelaw38.AuthCompletes': WHATEVER THE INPUT: true; the input reads as it did. -/
def authCompletesSpec : ChangeSpec := { name := "authCompletes", fn := fun _ => fun
  | [d1, d2, d3, d4, d5, d6] => { results := [.lit (.bool true)], args := [d1, d2, d3, d4, d5, d6] }
  | _ => none }
def authCompletesRow : OpenClaim := { program := "ytfamififoifagaa", sum := "b34e116a04376f15a00415c343f35ad320366d16e82fcb57dca272c772ed73e0", func := "capsule/capsulelaw38.AuthCompletes", spec := "authCompletes", inPlace := ["internal/abi.NoEscape", "internal/bytealg.MakeNoZero", "math/bits.Add64"], unfollowed := true, recurses := true, apart := false }
def AuthCompletesSaid : Prop := authCompletesRow.holds Try.pinned (OpenSpec.ofChange authCompletesSpec)

/-- ITS FALSE NEIGHBOUR: 'it returns false'. Refute it at one input. -/
def authCompletesWrong : ChangeSpec := { name := "authCompletes", fn := fun _ => fun
  | [d1, d2, d3, d4, d5, d6] => { results := [.lit (.bool false)], args := [d1, d2, d3, d4, d5, d6] }
  | _ => none }
def AuthCompletesWrongFalsely : Prop := authCompletesRow.holds Try.pinned (OpenSpec.ofChange authCompletesWrong)

/-- 'capsulelaw38.AuthRejects': WHATEVER THE INPUT: true; the input reads as it did. -/
def authRejectsSpec : ChangeSpec := { name := "authRejects", fn := fun _ => fun
  | [d1, d2, d3, d4] => { results := [.lit (.bool true)], args := [d1, d2, d3, d4] }
  | _ => none }
def authRejectsRow : OpenClaim := { program := "ytfamififoifagaa", sum := "b34e116a04376f15a00415c343f35ad320366d16e82fcb57dca272c772ed73e0", func := "capsule/capsulelaw38.AuthRejects", spec := "authRejects", inPlace := ["internal/abi.NoEscape", "internal/bytealg.MakeNoZero", "math/bits.Add64"], unfollowed := true, recurses := true, apart := false }
def AuthRejectsSaid : Prop := authRejectsRow.holds Try.pinned (OpenSpec.ofChange authRejectsSpec)

/-- ITS FALSE NEIGHBOUR: 'it returns false'. Refute it at one input. -/
def authRejectsWrong : ChangeSpec := { name := "authRejects", fn := fun _ => fun
  | [d1, d2, d3, d4] => { results := [.lit (.bool false)], args := [d1, d2, d3, d4] }
  | _ => none }
def AuthRejectsWrongFalsely : Prop := authRejectsRow.holds Try.pinned (OpenSpec.ofChange authRejectsWrong)

/-- 'capsulelaw38.AuthCopies': WHATEVER THE INPUT: true; the input reads as it did. -/
def authCopiesSpec : ChangeSpec := { name := "authCopies", fn := fun _ => fun
  | [d1, d2, d3] => { results := [.lit (.bool true)], args := [d1, d2, d3] }
  | _ => none }
def authCopiesRow : OpenClaim := { program := "ytfamififoifagaa", sum := "b34e116a04376f15a00415c343f35ad320366d16e82fcb57dca272c772ed73e0", func := "capsule/capsulelaw38.AuthCopies", spec := "authCopies", inPlace := ["internal/abi.NoEscape", "internal/bytealg.MakeNoZero", "math/bits.Add64"], unfollowed := true, recurses := true, apart := false }
def AuthCopiesSaid : Prop := authCopiesRow.holds Try.pinned (OpenSpec.ofChange authCopiesSpec)

/-- ITS FALSE NEIGHBOUR: 'it returns false'. Refute it at one input. -/
def authCopiesWrong : ChangeSpec := { name := "authCopies", fn := fun _ => fun
  | [d1, d2, d3] => { results := [.lit (.bool false)], args := [d1, d2, d3] }
  | _ => none }
def AuthCopiesWrongFalsely : Prop := authCopiesRow.holds Try.pinned (OpenSpec.ofChange authCopiesWrong)

/-- 'capsulelaw38.AuthNil': WHATEVER THE INPUT: true; the input reads as it did. -/
def authNilSpec : ChangeSpec := { name := "authNil", fn := fun _ => fun
  | [d] => { results := [.lit (.bool true)], args := [d] }
  | _ => none }
def authNilRow : OpenClaim := { program := "ytfamififoifagaa", sum := "b34e116a04376f15a00415c343f35ad320366d16e82fcb57dca272c772ed73e0", func := "capsule/capsulelaw38.AuthNil", spec := "authNil", inPlace := ["math/bits.Add64", "internal/abi.NoEscape", "internal/bytealg.MakeNoZero"], unfollowed := true, recurses := true, apart := false }
def AuthNilSaid : Prop := authNilRow.holds Try.pinned (OpenSpec.ofChange authNilSpec)

/-- ITS FALSE NEIGHBOUR: 'it returns false'. Refute it at one input. -/
def authNilWrong : ChangeSpec := { name := "authNil", fn := fun _ => fun
  | [d] => { results := [.lit (.bool false)], args := [d] }
  | _ => none }
def AuthNilWrongFalsely : Prop := authNilRow.holds Try.pinned (OpenSpec.ofChange authNilWrong)

/- THE SECOND FORM. 'bulk': how many values and letters a reading holds, each counted each time it is reached (what is shared counts as often as it is met; a slice's spare places count too). A statement '..UptoSaid' is the law's where the arguments, and the package variables that the reading takes, are together of bulk at most 1048576: NARROWER than '..Said'. Prove '..Said' where nothing that the law and all that it calls make is longer than what came in: it says more and counts as full. Else prove '..UptoSaid'. A law counts once. -/
mutual
def uptoBulk {H : Type} : DataW H → Nat
  | .lit (.string bytes) => bytes.length + 1
  | .lit _ => 1
  | .nil => 1
  | .ptr d => uptoBulk d + 1
  | .slice elems spare => uptoBulkAll elems + uptoBulkAll spare + 1
  | .agg parts => uptoBulkAll parts + 1
  | .iface _ d => uptoBulk d + 1
  | .map entries => uptoBulkEntries entries + 1
  | .held _ => 1
def uptoBulkAll {H : Type} : List (DataW H) → Nat
  | [] => 0
  | d :: r => uptoBulk d + uptoBulkAll r
def uptoBulkEntries {H : Type} : List (Lit × DataW H) → Nat
  | [] => 0
  | x :: r => uptoBulkEntry x + uptoBulkEntries r
def uptoBulkEntry {H : Type} : Lit × DataW H → Nat
  | (.string bytes, d) => bytes.length + uptoBulk d + 1
  | (_, d) => uptoBulk d + 1
 end
def uptoSmall : (H : Type) → List (DataW H) → Bool := fun _ ds => decide (uptoBulkAll ds ≤ 1048576)
def OpenSpec.upto (s : _root_.Go.ChangeSpec) : _root_.Go.OpenSpec := { _root_.Go.OpenSpec.ofChange s with cond := some uptoSmall }

/-- 'capsulelaw38.AuthCompletes', WHERE WHAT IT READS IS OF BULK AT MOST 1048576: true; the input reads as it did. -/
def authCompletesUptoRow : OpenClaim := { program := "ytfamififoifagaa", sum := "b34e116a04376f15a00415c343f35ad320366d16e82fcb57dca272c772ed73e0", func := "capsule/capsulelaw38.AuthCompletes", spec := "authCompletes", inPlace := ["internal/abi.NoEscape", "internal/bytealg.MakeNoZero", "math/bits.Add64"], unfollowed := true, recurses := true, apart := false, narrowed := true }
def AuthCompletesUptoSaid : Prop := authCompletesUptoRow.holds Try.pinned (OpenSpec.upto authCompletesSpec)

/-- 'capsulelaw38.AuthRejects', WHERE WHAT IT READS IS OF BULK AT MOST 1048576: true; the input reads as it did. -/
def authRejectsUptoRow : OpenClaim := { program := "ytfamififoifagaa", sum := "b34e116a04376f15a00415c343f35ad320366d16e82fcb57dca272c772ed73e0", func := "capsule/capsulelaw38.AuthRejects", spec := "authRejects", inPlace := ["internal/abi.NoEscape", "internal/bytealg.MakeNoZero", "math/bits.Add64"], unfollowed := true, recurses := true, apart := false, narrowed := true }
def AuthRejectsUptoSaid : Prop := authRejectsUptoRow.holds Try.pinned (OpenSpec.upto authRejectsSpec)

/-- 'capsulelaw38.AuthCopies', WHERE WHAT IT READS IS OF BULK AT MOST 1048576: true; the input reads as it did. -/
def authCopiesUptoRow : OpenClaim := { program := "ytfamififoifagaa", sum := "b34e116a04376f15a00415c343f35ad320366d16e82fcb57dca272c772ed73e0", func := "capsule/capsulelaw38.AuthCopies", spec := "authCopies", inPlace := ["internal/abi.NoEscape", "internal/bytealg.MakeNoZero", "math/bits.Add64"], unfollowed := true, recurses := true, apart := false, narrowed := true }
def AuthCopiesUptoSaid : Prop := authCopiesUptoRow.holds Try.pinned (OpenSpec.upto authCopiesSpec)

/-- 'capsulelaw38.AuthNil', WHERE WHAT IT READS IS OF BULK AT MOST 1048576: true; the input reads as it did. -/
def authNilUptoRow : OpenClaim := { program := "ytfamififoifagaa", sum := "b34e116a04376f15a00415c343f35ad320366d16e82fcb57dca272c772ed73e0", func := "capsule/capsulelaw38.AuthNil", spec := "authNil", inPlace := ["math/bits.Add64", "internal/abi.NoEscape", "internal/bytealg.MakeNoZero"], unfollowed := true, recurses := true, apart := false, narrowed := true }
def AuthNilUptoSaid : Prop := authNilUptoRow.holds Try.pinned (OpenSpec.upto authNilSpec)

end Rows
end Go.Proofs.Ytfamififoifagaa
