/- Words: what the machine's operators do on values that are written as Lean's unsigned words. No program in sight. -/
import Derived.WalkKit
namespace Go.Proofs.Ytfamififoifagaa.Words
open Go

theorem wrap32 (n : Nat) : IntKind.u32.wrap (n : Int) = ((n % 4294967296 : Nat) : Int) := by
  rw [IntKind.wrap_u32']; omega
theorem wrap64 (n : Nat) : IntKind.u64.wrap (n : Int) = ((n % 18446744073709551616 : Nat) : Int) := by
  rw [IntKind.wrap_u64]; omega
theorem wrap8 (n : Nat) : IntKind.u8.wrap (n : Int) = ((n % 256 : Nat) : Int) := by
  rw [IntKind.wrap_u8']; omega
theorem wrap16 (n : Nat) : IntKind.u16.wrap (n : Int) = ((n % 65536 : Nat) : Int) := by
  rw [IntKind.wrap_u16]; omega
theorem in32 (x : UInt32) : IntKind.u32.wrap (x.toNat : Int) = (x.toNat : Int) := by
  rw [wrap32, Nat.mod_eq_of_lt x.toNat_lt]
theorem in64 (x : UInt64) : IntKind.u64.wrap (x.toNat : Int) = (x.toNat : Int) := by
  rw [wrap64, Nat.mod_eq_of_lt x.toNat_lt]
theorem in8 (x : UInt8) : IntKind.u8.wrap (x.toNat : Int) = (x.toNat : Int) := by
  rw [wrap8, Nat.mod_eq_of_lt x.toNat_lt]

theorem ofInt32 (x : UInt32) : BitVec.ofInt 32 (x.toNat : Int) = x.toBitVec := by
  rw [BitVec.ofInt_natCast]; apply BitVec.eq_of_toNat_eq; simp
theorem ofInt64 (x : UInt64) : BitVec.ofInt 64 (x.toNat : Int) = x.toBitVec := by
  rw [BitVec.ofInt_natCast]; apply BitVec.eq_of_toNat_eq; simp
theorem ofInt8 (x : UInt8) : BitVec.ofInt 8 (x.toNat : Int) = x.toBitVec := by
  rw [BitVec.ofInt_natCast]; apply BitVec.eq_of_toNat_eq; simp
theorem back32 (r : BitVec 32) (x : UInt32) (h : r = x.toBitVec) : (pure (Value.int .u32 (IntKind.u32.wrap (r.toNat : Int))) : Sem Value) = pure (.int .u32 (x.toNat : Int)) := by
  subst h; rw [show x.toBitVec.toNat = x.toNat from rfl, in32]
theorem back64 (r : BitVec 64) (x : UInt64) (h : r = x.toBitVec) : (pure (Value.int .u64 (IntKind.u64.wrap (r.toNat : Int))) : Sem Value) = pure (.int .u64 (x.toNat : Int)) := by
  subst h; rw [show x.toBitVec.toNat = x.toNat from rfl, in64]
theorem back8 (r : BitVec 8) (x : UInt8) (h : r = x.toBitVec) : (pure (Value.int .u8 (IntKind.u8.wrap (r.toNat : Int))) : Sem Value) = pure (.int .u8 (x.toNat : Int)) := by
  subst h; rw [show x.toBitVec.toNat = x.toNat from rfl, in8]

section
variable (t : TypeId)
theorem add32 (x y : UInt32) : binOp .add t (.int .u32 (x.toNat : Int)) (.int .u32 (y.toNat : Int)) = pure (.int .u32 ((x + y).toNat : Int)) := by
  show (pure (Value.int .u32 (IntKind.u32.wrap ((x.toNat : Int) + (y.toNat : Int)))) : Sem Value) = _
  rw [show ((x.toNat : Int) + (y.toNat : Int)) = ((x.toNat + y.toNat : Nat) : Int) from by omega, wrap32, UInt32.toNat_add]
theorem add64 (x y : UInt64) : binOp .add t (.int .u64 (x.toNat : Int)) (.int .u64 (y.toNat : Int)) = pure (.int .u64 ((x + y).toNat : Int)) := by
  show (pure (Value.int .u64 (IntKind.u64.wrap ((x.toNat : Int) + (y.toNat : Int)))) : Sem Value) = _
  rw [show ((x.toNat : Int) + (y.toNat : Int)) = ((x.toNat + y.toNat : Nat) : Int) from by omega, wrap64, UInt64.toNat_add]
theorem mul64 (x y : UInt64) : binOp .mul t (.int .u64 (x.toNat : Int)) (.int .u64 (y.toNat : Int)) = pure (.int .u64 ((x * y).toNat : Int)) := by
  show (pure (Value.int .u64 (IntKind.u64.wrap ((x.toNat : Int) * (y.toNat : Int)))) : Sem Value) = _
  rw [show ((x.toNat : Int) * (y.toNat : Int)) = ((x.toNat * y.toNat : Nat) : Int) from by simp, wrap64, UInt64.toNat_mul]
theorem and32 (x y : UInt32) : binOp .and t (.int .u32 (x.toNat : Int)) (.int .u32 (y.toNat : Int)) = pure (.int .u32 ((x &&& y).toNat : Int)) :=
  back32 _ _ (by show BitVec.ofInt 32 _ &&& BitVec.ofInt 32 _ = _; rw [ofInt32, ofInt32]; rfl)
theorem or32 (x y : UInt32) : binOp .or t (.int .u32 (x.toNat : Int)) (.int .u32 (y.toNat : Int)) = pure (.int .u32 ((x ||| y).toNat : Int)) :=
  back32 _ _ (by show BitVec.ofInt 32 _ ||| BitVec.ofInt 32 _ = _; rw [ofInt32, ofInt32]; rfl)
theorem xor32 (x y : UInt32) : binOp .xor t (.int .u32 (x.toNat : Int)) (.int .u32 (y.toNat : Int)) = pure (.int .u32 ((x ^^^ y).toNat : Int)) :=
  back32 _ _ (by show BitVec.ofInt 32 _ ^^^ BitVec.ofInt 32 _ = _; rw [ofInt32, ofInt32]; rfl)
theorem or64 (x y : UInt64) : binOp .or t (.int .u64 (x.toNat : Int)) (.int .u64 (y.toNat : Int)) = pure (.int .u64 ((x ||| y).toNat : Int)) :=
  back64 _ _ (by show BitVec.ofInt 64 _ ||| BitVec.ofInt 64 _ = _; rw [ofInt64, ofInt64]; rfl)
theorem xor8 (x y : UInt8) : binOp .xor t (.int .u8 (x.toNat : Int)) (.int .u8 (y.toNat : Int)) = pure (.int .u8 ((x ^^^ y).toNat : Int)) :=
  back8 _ _ (by show BitVec.ofInt 8 _ ^^^ BitVec.ofInt 8 _ = _; rw [ofInt8, ofInt8]; rfl)
theorem not32 (x : UInt32) : Op.unary .xor (.int .u32 (x.toNat : Int)) = pure (.int .u32 ((~~~x).toNat : Int)) :=
  back32 _ _ (by
    show BitVec.ofInt 32 IntKind.u32.max ^^^ BitVec.ofInt 32 _ = _
    rw [ofInt32, show BitVec.ofInt 32 IntKind.u32.max = BitVec.allOnes 32 from by decide +kernel, BitVec.allOnes_xor]; rfl)

theorem shl32 (x : UInt32) (k : Nat) (hk : k < 32) (yk : IntKind) : binOp .shl t (.int .u32 (x.toNat : Int)) (.int yk (k : Int)) = pure (.int .u32 ((x <<< (UInt32.ofNat k)).toNat : Int)) := by
  have h2 : ((x.toNat : Int) * 2 ^ k) = ((x.toNat * 2 ^ k : Nat) : Int) := by simp
  have h1 : ¬ ((k : Int) < 0) := by omega
  have hm : min k IntKind.u32.bits = k := by simp [IntKind.bits]; omega
  have hx : (x <<< (UInt32.ofNat k)).toNat = x.toNat * 2 ^ k % 4294967296 := by
    rw [UInt32.toNat_shiftLeft, UInt32.toNat_ofNat', Nat.mod_eq_of_lt (by omega : k < 2 ^ 32), Nat.mod_eq_of_lt hk, Nat.shiftLeft_eq]
  simp only [binOp, Op.shift, h1, if_false, Int.toNat_natCast, hm, h2, wrap32, hx]
theorem shr32 (x : UInt32) (k : Nat) (hk : k < 32) (yk : IntKind) : binOp .shr t (.int .u32 (x.toNat : Int)) (.int yk (k : Int)) = pure (.int .u32 ((x >>> (UInt32.ofNat k)).toNat : Int)) := by
  have h1 : ¬ ((k : Int) < 0) := by omega
  have hm : min k IntKind.u32.bits = k := by simp [IntKind.bits]; omega
  have hx : (x >>> (UInt32.ofNat k)).toNat = x.toNat / 2 ^ k := by
    rw [UInt32.toNat_shiftRight, UInt32.toNat_ofNat', Nat.mod_eq_of_lt (by omega : k < 2 ^ 32), Nat.mod_eq_of_lt hk, Nat.shiftRight_eq_div_pow]
  have h2 : (x.toNat : Int).fdiv (2 ^ k) = ((x.toNat / 2 ^ k : Nat) : Int) := by
    rw [Int.fdiv_eq_ediv_of_nonneg _ (Int.pow_nonneg (by omega))]; simp
  simp only [binOp, Op.shift, h1, if_false, Int.toNat_natCast, hm, h2, hx]
theorem shl32i (x : UInt32) (k : Int) (h0 : 0 ≤ k) (h1 : k < 32) (yk : IntKind) : binOp .shl t (.int .u32 (x.toNat : Int)) (.int yk k) = pure (.int .u32 ((x <<< (UInt32.ofNat k.toNat)).toNat : Int)) := by
  obtain ⟨n, rfl⟩ := Int.eq_ofNat_of_zero_le h0
  exact shl32 t x n (by omega) yk
theorem shr32i (x : UInt32) (k : Int) (h0 : 0 ≤ k) (h1 : k < 32) (yk : IntKind) : binOp .shr t (.int .u32 (x.toNat : Int)) (.int yk k) = pure (.int .u32 ((x >>> (UInt32.ofNat k.toNat)).toNat : Int)) := by
  obtain ⟨n, rfl⟩ := Int.eq_ofNat_of_zero_le h0
  exact shr32 t x n (by omega) yk
end

/-- a word as the machine's number, under a name that the walk does not look behind -/
def V32 (x : UInt32) : Int := x.toNat
def V64 (x : UInt64) : Int := x.toNat
section
variable (t : TypeId)
theorem vadd32 (x y : UInt32) : binOp .add t (.int .u32 (V32 x)) (.int .u32 (V32 y)) = pure (.int .u32 (V32 (x + y))) := add32 t x y
theorem vand32 (x y : UInt32) : binOp .and t (.int .u32 (V32 x)) (.int .u32 (V32 y)) = pure (.int .u32 (V32 (x &&& y))) := and32 t x y
theorem vor32 (x y : UInt32) : binOp .or t (.int .u32 (V32 x)) (.int .u32 (V32 y)) = pure (.int .u32 (V32 (x ||| y))) := or32 t x y
theorem vxor32 (x y : UInt32) : binOp .xor t (.int .u32 (V32 x)) (.int .u32 (V32 y)) = pure (.int .u32 (V32 (x ^^^ y))) := xor32 t x y
theorem vadd64 (x y : UInt64) : binOp .add t (.int .u64 (V64 x)) (.int .u64 (V64 y)) = pure (.int .u64 (V64 (x + y))) := add64 t x y
theorem vmul64 (x y : UInt64) : binOp .mul t (.int .u64 (V64 x)) (.int .u64 (V64 y)) = pure (.int .u64 (V64 (x * y))) := mul64 t x y
theorem vor64 (x y : UInt64) : binOp .or t (.int .u64 (V64 x)) (.int .u64 (V64 y)) = pure (.int .u64 (V64 (x ||| y))) := or64 t x y
theorem vnot32 (x : UInt32) : Op.unary .xor (.int .u32 (V32 x)) = pure (.int .u32 (V32 (~~~x))) := not32 x
theorem vshl32 (x : UInt32) (k : Int) (h0 : 0 ≤ k) (h1 : k < 32) (yk : IntKind) : binOp .shl t (.int .u32 (V32 x)) (.int yk k) = pure (.int .u32 (V32 (x <<< (UInt32.ofNat k.toNat)))) := shl32i t x k h0 h1 yk
theorem vshr32 (x : UInt32) (k : Int) (h0 : 0 ≤ k) (h1 : k < 32) (yk : IntKind) : binOp .shr t (.int .u32 (V32 x)) (.int yk k) = pure (.int .u32 (V32 (x >>> (UInt32.ofNat k.toNat)))) := shr32i t x k h0 h1 yk
/-- a byte made a word -/
theorem v8to32 (b : UInt8) : Conv.intToInt .u32 (b.toNat : Int) = pure (.int .u32 (V32 b.toUInt32)) := by
  have h := b.toNat_lt
  show (pure (Value.int .u32 (IntKind.u32.wrap (b.toNat : Int))) : Sem Value) = _
  rw [wrap32, Nat.mod_eq_of_lt (by omega)]; rfl
/-- a word made a byte -/
theorem v32to8 (x : UInt32) : Conv.intToInt .u8 (V32 x) = pure (.int .u8 (x.toUInt8.toNat : Int)) := by
  show (pure (Value.int .u8 (IntKind.u8.wrap (x.toNat : Int))) : Sem Value) = _
  rw [wrap8]; rfl
theorem v64to32 (x : UInt64) : Conv.intToInt .u32 (V64 x) = pure (.int .u32 (V32 x.toUInt32)) := by
  show (pure (Value.int .u32 (IntKind.u32.wrap (x.toNat : Int))) : Sem Value) = _
  rw [wrap32]; rfl
end
end Go.Proofs.Ytfamififoifagaa.Words
