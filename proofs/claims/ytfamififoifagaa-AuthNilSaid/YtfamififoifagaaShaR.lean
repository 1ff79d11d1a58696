/- Contracts of sha's root, at the cube and at the square. -/
import Derived.Test.YtfamififoifagaaShaC
import Derived.Deep.RegionWith
namespace Go.Proofs.Ytfamififoifagaa
open Go.RowKit Words

theorem or64n (t : TypeId) (x y : Nat) (hx : W64 x) (hy : W64 y) : binOp .or t (.int .u64 (x : Nat)) (.int .u64 (y : Nat)) = pure (.int .u64 ((x ||| y : Nat) : Int)) := by
  have h := or64 t (UInt64.ofNat x) (UInt64.ofNat y)
  unfold W64 at hx hy
  rw [UInt64.toNat_or, UInt64.toNat_ofNat', UInt64.toNat_ofNat', Nat.mod_eq_of_lt hx, Nat.mod_eq_of_lt hy] at h
  exact h
attribute [local go_sem high] or64n

/-- the bit that is tried when k bits are left -/
def bitV (k : Nat) : Nat := 2 ^ k / 2
theorem bitV_succ (k : Nat) : bitV (k + 1) = 2 ^ k := by unfold bitV; rw [Nat.pow_succ]; omega
theorem bitV_half (k : Nat) : bitV (k + 1) / 2 = bitV k := by rw [bitV_succ]; rfl
theorem bitV_lt (k : Nat) (h : k ≤ 36) : bitV k < 68719476736 := by
  have : 2 ^ k ≤ 2 ^ 36 := Nat.pow_le_pow_right (by omega) h
  unfold bitV; omega
theorem bitV_pos (k : Nat) : 0 < bitV (k + 1) := by rw [bitV_succ]; exact Nat.pow_pos (by omega)
theorem small64 {n : Nat} (h : n < 68719476736) : W64 n := by unfold W64; omega
theorem or_small {x y : Nat} (hx : x < 68719476736) (hy : y < 68719476736) : x ||| y < 68719476736 := Nat.or_lt_two_pow (n := 36) hx hy

def rootStep (pw : Nat → Wd) (l : Wd) (k x : Nat) : Nat := if aboveB (pw (x ||| bitV (k + 1))) l then x else x ||| bitV (k + 1)
def rootLoop (pw : Nat → Wd) (l : Wd) : Nat → Nat → Nat
  | 0, x => x
  | k + 1, x => rootLoop pw l k (rootStep pw l k x)
def rootF (pw : Nat → Wd) (l : Wd) : Nat := rootLoop pw l 36 0

set_option maxHeartbeats 1000000 in
theorem root_cube (l : Wd) (w : World) :
    Calls Try.prog 78 #[.agg #[.int .u64 (l.a : Nat), .int .u64 (l.b : Nat), .int .u64 (l.c : Nat)], .func (.func 76) #[] #[]] w fun e w' =>
      e = .returned (.int .u64 (rootF cubeF l : Nat)) ∧ Below w.heap.size w w' := by
  go_enter Try.func78, Try.ntmps78
  go_wp2
  go_loopw [4, 5] (fun x b wr => ∃ k n : Nat, k ≤ 36 ∧ n < 68719476736 ∧ x = .int .u64 (n : Nat) ∧ b = .int .u64 (bitV k : Nat) ∧ Hid (rootLoop cubeF l k n = rootF cubeF l) ∧
      Below w.heap.size w wr ∧ Blk wr w.heap.size 152 #[.int .u64 (l.a : Nat), .int .u64 (l.b : Nat), .int .u64 (l.c : Nat)]) (fun _ b _ => (intOf b).toNat)
  case atStart => exact ⟨36, 0, by omega, by omega, rfl, by rw [show bitV 36 = 34359738368 from by decide +kernel]; rfl, rfl, (Below.refl _ _).alloc (Nat.le_refl _) _, Blk.new _ _ _⟩
  case round =>
    obtain ⟨k, n, hk, hn, rfl, rfl, H, hb, hB⟩ := hrel
    rcases k with _ | k
    · have h0 : Hid (bitV 0 = 0) := (by decide : bitV 0 = 0)
      have h1 : ¬ (0 : Int) < (bitV 0 : Nat) := by rw [h0.out]; omega
      go_wp2
      go_ret
      exact ⟨by rw [← H.out]; rfl, hb⟩
    · have hp := bitV_pos k
      have hs := bitV_lt (k + 1) hk
      have w1 := small64 hn
      have w2 := small64 hs
      have w3 := small64 (or_small hn hs)
      have hc := hB.cell
      have hf := hB.frozen
      have hlt := hB.lt
      have hh := Lib.hid (bitV_half k)
      cases ha : aboveB (cubeF (n ||| bitV (k + 1))) l
      all_goals
        first
        | (have H' : Hid (rootLoop cubeF l k (n ||| bitV (k + 1)) = rootF cubeF l) := by
            have h := H.out
            rw [show rootLoop cubeF l (k + 1) n = rootLoop cubeF l k (rootStep cubeF l k n) from rfl, rootStep, ha] at h
            exact h)
        | (have H' : Hid (rootLoop cubeF l k n = rootF cubeF l) := by
            have h := H.out
            rw [show rootLoop cubeF l (k + 1) n = rootLoop cubeF l k (rootStep cubeF l k n) from rfl, rootStep, ha] at h
            exact h)
        clear H
        go_wp2
        go_region_with (first
          | (go_at_call 76; refine (cube_calls _ w3 _).mono ?_; rintro e w1 ⟨rfl, hb1⟩; have B1 := Blk.below (w := wr.drew) hB hb1 hlt; have c1 := B1.cell; have hb3 := below_step hb.drew hb1)
          | (go_at_call 85; refine (above_calls (cubeF (n ||| bitV (k + 1))) l _).mono ?_; rintro e w2 ⟨rfl, hb2⟩))
        all_goals
          have B2 := Blk.below B1 hb2 B1.lt
          have hb4 := below_step hb3 hb2
          go_wp2
          go_roundw
          case rel => exact ⟨k, _, by omega, by first | exact hn | exact or_small hn hs, rfl, by rw [← hh.out]; simp, H', hb4, B2⟩
          case measure => have := hh.out; simp [intOf]; omega

set_option maxHeartbeats 1000000 in
theorem root_square (l : Wd) (w : World) :
    Calls Try.prog 78 #[.agg #[.int .u64 (l.a : Nat), .int .u64 (l.b : Nat), .int .u64 (l.c : Nat)], .func (.func 79) #[] #[]] w fun e w' =>
      e = .returned (.int .u64 (rootF squareF l : Nat)) ∧ Below w.heap.size w w' := by
  go_enter Try.func78, Try.ntmps78
  go_wp2
  go_loopw [4, 5] (fun x b wr => ∃ k n : Nat, k ≤ 36 ∧ n < 68719476736 ∧ x = .int .u64 (n : Nat) ∧ b = .int .u64 (bitV k : Nat) ∧ Hid (rootLoop squareF l k n = rootF squareF l) ∧
      Below w.heap.size w wr ∧ Blk wr w.heap.size 152 #[.int .u64 (l.a : Nat), .int .u64 (l.b : Nat), .int .u64 (l.c : Nat)]) (fun _ b _ => (intOf b).toNat)
  case atStart => exact ⟨36, 0, by omega, by omega, rfl, by rw [show bitV 36 = 34359738368 from by decide +kernel]; rfl, rfl, (Below.refl _ _).alloc (Nat.le_refl _) _, Blk.new _ _ _⟩
  case round =>
    obtain ⟨k, n, hk, hn, rfl, rfl, H, hb, hB⟩ := hrel
    rcases k with _ | k
    · have h0 : Hid (bitV 0 = 0) := (by decide : bitV 0 = 0)
      have h1 : ¬ (0 : Int) < (bitV 0 : Nat) := by rw [h0.out]; omega
      go_wp2
      go_ret
      exact ⟨by rw [← H.out]; rfl, hb⟩
    · have hp := bitV_pos k
      have hs := bitV_lt (k + 1) hk
      have w1 := small64 hn
      have w2 := small64 hs
      have w3 := small64 (or_small hn hs)
      have hc := hB.cell
      have hf := hB.frozen
      have hlt := hB.lt
      have hh := Lib.hid (bitV_half k)
      cases ha : aboveB (squareF (n ||| bitV (k + 1))) l
      all_goals
        first
        | (have H' : Hid (rootLoop squareF l k (n ||| bitV (k + 1)) = rootF squareF l) := by
            have h := H.out
            rw [show rootLoop squareF l (k + 1) n = rootLoop squareF l k (rootStep squareF l k n) from rfl, rootStep, ha] at h
            exact h)
        | (have H' : Hid (rootLoop squareF l k n = rootF squareF l) := by
            have h := H.out
            rw [show rootLoop squareF l (k + 1) n = rootLoop squareF l k (rootStep squareF l k n) from rfl, rootStep, ha] at h
            exact h)
        clear H
        go_wp2
        go_region_with (first
          | (go_at_call 79; refine (square_calls _ w3 _).mono ?_; rintro e w1 ⟨rfl, hb1⟩; have B1 := Blk.below (w := wr.drew) hB hb1 hlt; have c1 := B1.cell; have hb3 := below_step hb.drew hb1)
          | (go_at_call 85; refine (above_calls (squareF (n ||| bitV (k + 1))) l _).mono ?_; rintro e w2 ⟨rfl, hb2⟩))
        all_goals
          have B2 := Blk.below B1 hb2 B1.lt
          have hb4 := below_step hb3 hb2
          go_wp2
          go_roundw
          case rel => exact ⟨k, _, by omega, by first | exact hn | exact or_small hn hs, rfl, by rw [← hh.out]; simp, H', hb4, B2⟩
          case measure => have := hh.out; simp [intOf]; omega

end Go.Proofs.Ytfamififoifagaa
