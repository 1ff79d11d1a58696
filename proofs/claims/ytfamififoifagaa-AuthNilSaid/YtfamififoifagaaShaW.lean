/- Contracts of sha's small functions: rotations. -/
import Derived.Test.YtfamififoifagaaRows
import Derived.Test.YtfamififoifagaaWords
import Derived.Test.YtfamififoifagaaBase
import Derived.WalkKit
import Derived.WalkSpells
import Derived.WalkLawsBesides
import Derived.Lib.Hide
namespace Go.Proofs.Ytfamififoifagaa
open Go.RowKit Words

attribute [local go_sem high] Words.vadd32 Words.vand32 Words.vor32 Words.vxor32 Words.vnot32 Words.vshl32 Words.vshr32

def rr (x : UInt32) (n : Nat) : UInt32 := x <<< (UInt32.ofNat (32 - n)) ||| x >>> (UInt32.ofNat n)

theorem amt2 : bits BinOp.and IntKind.u64 (IntKind.u64.wrap (-2)) 31 = 30 := by decide +kernel
theorem amt6 : bits BinOp.and IntKind.u64 (IntKind.u64.wrap (-6)) 31 = 26 := by decide +kernel
theorem amt7 : bits BinOp.and IntKind.u64 (IntKind.u64.wrap (-7)) 31 = 25 := by decide +kernel
theorem amt11 : bits BinOp.and IntKind.u64 (IntKind.u64.wrap (-11)) 31 = 21 := by decide +kernel
theorem amt13 : bits BinOp.and IntKind.u64 (IntKind.u64.wrap (-13)) 31 = 19 := by decide +kernel
theorem amt17 : bits BinOp.and IntKind.u64 (IntKind.u64.wrap (-17)) 31 = 15 := by decide +kernel
theorem amt18 : bits BinOp.and IntKind.u64 (IntKind.u64.wrap (-18)) 31 = 14 := by decide +kernel
theorem amt19 : bits BinOp.and IntKind.u64 (IntKind.u64.wrap (-19)) 31 = 13 := by decide +kernel
theorem amt22 : bits BinOp.and IntKind.u64 (IntKind.u64.wrap (-22)) 31 = 10 := by decide +kernel
theorem amt25 : bits BinOp.and IntKind.u64 (IntKind.u64.wrap (-25)) 31 = 7 := by decide +kernel

attribute [local go_sem] amt2 amt6 amt7 amt11 amt13 amt17 amt18 amt19 amt22 amt25

set_option maxHeartbeats 400000 in
theorem rotl_any (x : UInt32) (n : Nat) (hn : n ∈ [2,6,7,11,13,17,18,19,22,25]) (w : World) :
    Calls Try.prog 86 #[.int .u32 (V32 x), .int .i64 (-(n : Int))] w fun e w' => e = .returned (.int .u32 (V32 (rr x n))) ∧ w = w' := by
  simp only [List.mem_cons, List.not_mem_nil, or_false] at hn
  rcases hn with rfl | rfl | rfl | rfl | rfl | rfl | rfl | rfl | rfl | rfl
  all_goals
    go_enter Try.func86, Try.ntmps86
    go_wp2
    go_ret
    exact ⟨rfl, rfl⟩

def rots (x : UInt32) (ks : List Nat) : UInt32 := ks.foldl (fun a k => a ^^^ rr x k) 0

theorem rots_snoc (x : UInt32) (ks : List Nat) (k : Nat) (h : k < ks.length) : rots x (ks.take (k + 1)) = rots x (ks.take k) ^^^ rr x ks[k] := by
  unfold rots; rw [List.take_succ_eq_append_getElem h, List.foldl_append]; rfl

set_option maxHeartbeats 400000 in
theorem rotr_any (x : UInt32) (A : Option Addr) (c : Nat) (ks : List Nat) (hks : ∀ k ∈ ks, k ∈ [2,6,7,11,13,17,18,19,22,25]) (hlen : ks.length ≤ 100) (w : World)
    (hs : Sl w w.heap.size A (ks.map fun k : Nat => Value.int .i64 (k : Int))) :
    Calls Try.prog 81 #[.int .u32 (V32 x), .slice A ks.length c] w fun e w' => e = .returned (.int .u32 (V32 (rots x ks))) ∧ w = w' := by
  have Hs := Lib.hid hs
  have Hks := Lib.hid hks
  clear hs hks
  go_enter Try.func81, Try.ntmps81
  go_wp2
  go_loop [4, 9] (fun o i => ∃ k : Nat, k ≤ ks.length ∧ i = .int .i64 k ∧ o = .int .u32 (V32 (rots x (ks.take k)))) (fun _ i => ks.length - (intOf i).toNat)
  case atStart => exact ⟨0, Nat.zero_le _, rfl, rfl⟩
  case round =>
    obtain ⟨k, hk, rfl, rfl⟩ := hrel
    by_cases hlt : k < ks.length
    · obtain ⟨b, o, rfl, _, hc⟩ := Hs.out.at_ (k := k) (by simpa using hlt)
      simp only [List.getElem_map] at hc
      have hm := Hks.out _ (List.getElem_mem hlt)
      have H := rots_snoc x ks k hlt
      generalize ks[k] = n at hc hm H
      have hn : n ≤ 31 := by simp only [List.mem_cons, List.not_mem_nil, or_false] at hm; omega
      have Hm := Lib.hid hm
      have H := Lib.hid H
      clear hm
      go_wp2_with (go_at_call 86; refine (rotl_any x n Hm.out _).mono ?_; rintro e w' ⟨rfl, rfl⟩)
      go_round
      case rel => exact ⟨k + 1, by omega, by go_num, by rw [H.out]⟩
      case measure => simp [intOf]; omega
    · go_wp2
      go_ret
      exact ⟨by rw [List.take_of_length_le (by omega)]; rfl, rfl⟩

end Go.Proofs.Ytfamififoifagaa
