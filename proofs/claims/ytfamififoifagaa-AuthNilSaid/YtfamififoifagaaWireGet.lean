/- Contracts of wire: Get. -/
import Derived.Test.YtfamififoifagaaWirePad
import Derived.Laws.Bits64b
namespace Go.Proofs.Ytfamififoifagaa
open Go.RowKit Words

/-- the number whose bytes are the first i of l, the lowest first -/
def getN (l : List UInt8) : Nat → Nat
  | 0 => 0
  | i + 1 => getN l i ||| ((l.getD i 0).toNat <<< (8 * i))

theorem byte_shift (x : UInt8) (i : Nat) : x.toNat <<< (8 * i) < 2 ^ (8 * (i + 1)) := by
  have h := x.toNat_lt
  rw [Nat.shiftLeft_eq, show 8 * (i + 1) = 8 + 8 * i by omega, Nat.pow_add]
  exact Nat.mul_lt_mul_of_pos_right (by omega) (Nat.pow_pos (by omega))
theorem pow_le64 (i : Nat) (h : i ≤ 8) : 2 ^ (8 * i) ≤ 18446744073709551616 := Nat.le_trans (Nat.pow_le_pow_right (by omega) (by omega : 8 * i ≤ 64)) (by decide)
theorem getN_step (a i : Nat) (x : UInt8) (h8 : i < 8) (ha : a < 2 ^ (8 * i)) :
    bits BinOp.or IntKind.u64 (a : Int) (IntKind.u64.wrap (IntKind.u64.wrap (x.toNat : Int) * 2 ^ (8 * i))) = ((a ||| (x.toNat <<< (8 * i)) : Nat) : Int) ∧ a ||| (x.toNat <<< (8 * i)) < 2 ^ (8 * (i + 1)) := by
  have h1 := byte_shift x i
  have h2 := pow_le64 (i + 1) (by omega)
  have h3 : 2 ^ (8 * i) ≤ 2 ^ (8 * (i + 1)) := Nat.pow_le_pow_right (by omega) (by omega)
  have hx := x.toNat_lt
  refine ⟨?_, Nat.or_lt_two_pow (by omega) h1⟩
  rw [Words.wrap64, Nat.mod_eq_of_lt (by omega)]
  have e : ((x.toNat : Nat) : Int) * 2 ^ (8 * i) = ((x.toNat <<< (8 * i) : Nat) : Int) := by rw [Nat.shiftLeft_eq, Int.natCast_mul, Int.natCast_pow]; rfl
  rw [e, Words.wrap64, Nat.mod_eq_of_lt (by omega)]
  exact bits_or_u64_nat _ _ (by omega) (by omega)
set_option maxRecDepth 100000 in
set_option maxHeartbeats 1000000 in
theorem get_calls (l : List UInt8) (A : Option Addr) (n c : Nat) (w : World) (hn : n = l.length) (h1 : 1 ≤ n) (h8 : n ≤ 8) (hs : Sl w w.heap.size A (l.map b8)) :
    Calls Try.prog 54 #[.slice A n c] w fun e w' => e = .returned (.tuple #[.int .u64 (getN l n : Int), .int .i64 0]) ∧ w = w' := by
  have hn1 : ¬ (n : Int) < 1 := by omega
  have hn8 : ¬ 8 < (n : Int) := by omega
  have HS := Lib.hid hs
  have HN := Lib.hid hn
  clear hs hn
  go_enter Try.func54, Try.ntmps54
  go_wp2_with fail
  go_loopw [16, 2] (fun j v wr => ∃ i : Nat, i ≤ n ∧ j = .int .i64 (i : Nat) ∧ v = .int .u64 (getN l i : Int) ∧ getN l i < 2 ^ (8 * i) ∧ wr = w) (fun j _ _ => n - (intOf j).toNat)
  case atStart => exact ⟨0, by omega, rfl, rfl, by simp [getN], rfl⟩
  case round =>
    obtain ⟨i, hi, rfl, rfl, hlt, rfl⟩ := hrel
    rcases Nat.lt_or_ge i n with hin | hin
    · have hi0 : (i : Int) < (n : Int) := by omega
      obtain ⟨b, o, rfl, _, hc⟩ := HS.out.at_ (k := i) (by rw [List.length_map, ← HN.out]; exact hin)
      simp only [List.getElem_map, b8] at hc
      go_wp2_with fail
      have E := getN_step (getN l i) i l[i] (by omega) hlt
      have e : l.getD i 0 = l[i] := getD_get _ _ _ _
      rw [E.1]
      go_roundw
      case rel => exact ⟨i + 1, by omega, by go_num, by rw [getN, e], by rw [getN, e]; exact E.2, trivial⟩
      case measure => simp [intOf]; omega
    · obtain rfl : i = n := by omega
      go_wp2_with fail
      go_ret2
      exact ⟨rfl, rfl⟩
end Go.Proofs.Ytfamififoifagaa
