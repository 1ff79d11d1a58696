/- Contracts of wire: the reader's state, Take. -/
import Derived.Test.YtfamififoifagaaWireT
namespace Go.Proofs.Ytfamififoifagaa
open Go.RowKit Words

theorem sl_none {w : World} {B : Nat} {A : Option Addr} {xs : List Value} (h : Sl w B A xs) (hA : A = none) : xs = [] := by
  subst hA
  rcases List.eq_nil_or_concat xs with h0 | ⟨x, y, h0⟩
  · exact h0
  · obtain ⟨_, _, h1, _⟩ := h (by rw [h0]; simp)
    cases h1
set_option maxRecDepth 100000 in
theorem rTake_calls (l : List UInt8) (p k q b : Nat) (w : World) (hD : RdIs w q b l p) (hk3 : 1 ≤ k) (hk : k ≤ l.length) (hl : l.length ≤ 1048576) (hp : p ≤ 1048576) :
    Calls Try.prog 36 #[.pointer (some ⟨b, 0, none⟩), .int .i64 (k : Int)] w fun e w' => ∃ s, e = .returned (.tuple #[s, .int .i64 0]) ∧ w.grownBy w' (some b) ∧ RdIs w' q b (l.drop k) (p + k) ∧ OwnAt w' w.heap.size 5 s ((l.take k).map b8) := by
  have hlt : b < w.heap.size := by obtain ⟨v, hB, _⟩ := hD; exact hB.lt
  have C := Lib.hid (take_calls l p k q b w hD hk3 hk hl hp)
  have hln : (l.take k).length = k := by rw [List.length_take]; omega
  have HL := Lib.hid hln
  clear hD hln
  go_enter Try.func36, Try.ntmps36
  go_wp2_with (first
    | (go_at_call 44; refine (state_calls b w).mono ?_; rintro e w0 ⟨rfl, rfl⟩)
    | (go_at_call 47; refine C.out.mono ?_; rintro e w1 ⟨A, rfl, hb1, hD1, hS1⟩)
    | (go_at_call 30; refine (clone_calls (l.take k) A k k w1 hS1 HL.out.symm (fun hA => by have h := congrArg List.length (sl_none hS1 hA); rw [List.length_map, HL.out] at h; exact h) (by rw [HL.out]; omega)).mono ?_; rintro e w2 ⟨s, rfl, hO2, hb2⟩))
  go_ret2
  have hz := hb1.size
  obtain ⟨v, hB, hO⟩ := hD1
  exact ⟨_, rfl, Lib.grownBy_below hb1 hb2, ⟨v, hB.below hb2 hB.lt, hO.below hb2 (Nat.le_refl _)⟩, hO2.base (by omega)⟩
end Go.Proofs.Ytfamififoifagaa
