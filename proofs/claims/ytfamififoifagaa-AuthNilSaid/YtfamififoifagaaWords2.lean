/- Words: conversions, bytes in memory. -/
import Derived.Test.YtfamififoifagaaWords
import Derived.Test.YtfamififoifagaaBase
namespace Go.Proofs.Ytfamififoifagaa.Words
open Go Go.Proofs.Ytfamififoifagaa
def V8 (x : UInt8) : Int := x.toNat
section
variable {P : Program} (w : World) (src dst : TypeId) (hs : (P.underlying src).isSome = true)
include hs
theorem cv8to32 (b : UInt8) (hd : P.underlying dst = some (.int .u32)) : (convert src dst (.int .u8 (b.toNat : Int))).run P w = .ok (.int .u32 (V32 b.toUInt32)) w := by
  have hk : P.intKind dst = .u32 := by simp [Program.intKind, hd]
  rw [run_convert_int w src dst .u8 _ hs (by rw [hk]; exact hd), hk]
  have h := b.toNat_lt
  rw [wrap32, Nat.mod_eq_of_lt (by omega)]; rfl
theorem cv32to8 (x : UInt32) (hd : P.underlying dst = some (.int .u8)) : (convert src dst (.int .u32 (V32 x))).run P w = .ok (.int .u8 (V8 x.toUInt8)) w := by
  have hk : P.intKind dst = .u8 := by simp [Program.intKind, hd]
  rw [run_convert_int w src dst .u32 _ hs (by rw [hk]; exact hd), hk]
  show Result.ok (Value.int .u8 (IntKind.u8.wrap ((x.toNat : Nat) : Int))) w = _
  rw [wrap8]; rfl
end
end Go.Proofs.Ytfamififoifagaa.Words
namespace Go.Proofs.Ytfamififoifagaa
open Words
/-- a word in memory -/
def v32 (x : UInt32) : Value := .int .u32 (V32 x)
/-- a byte in memory -/
def b8 (x : UInt8) : Value := .int .u8 (x.toNat : Int)
theorem b8_one (x : UInt8) : (b8 x).oneCell' = true := rfl
theorem v32_one (x : UInt32) : (v32 x).oneCell' = true := rfl
end Go.Proofs.Ytfamififoifagaa
