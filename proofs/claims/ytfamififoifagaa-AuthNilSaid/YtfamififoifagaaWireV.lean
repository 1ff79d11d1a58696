/- Contracts of wire: the reader's fields. -/
import Derived.Test.YtfamififoifagaaWirePadB
namespace Go.Proofs.Ytfamififoifagaa
open Go.RowKit Words

def u64 (n : Nat) : Value := .int .u64 (n : Nat)
def i64 (n : Nat) : Value := .int .i64 (n : Nat)
theorem RdIs.lt {w : World} {q b : Nat} {l : List UInt8} {p : Nat} (h : RdIs w q b l p) : b < w.heap.size := by obtain ⟨v, hB, _⟩ := h; exact hB.lt
theorem RdIs.below {w w' : World} {q b : Nat} {l : List UInt8} {p : Nat} (h : RdIs w q b l p) (hb : Below w.heap.size w w') : RdIs w' q b l p := by
  obtain ⟨v, hB, hO⟩ := h
  exact ⟨v, hB.below hb hB.lt, hO.below hb (Nat.le_refl _)⟩

set_option maxRecDepth 100000 in
theorem field_calls (l : List UInt8) (p k q b : Nat) (w : World) (hD : RdIs w q b l p) (hk3 : 1 ≤ k) (hk8 : k ≤ 8) (hk : k ≤ l.length) (hl : l.length ≤ 1048576) (hp : p ≤ 1048576) :
    Calls Try.prog 46 #[.pointer (some ⟨b, 0, none⟩), .int .i64 (k : Int)] w fun e w' => ∃ A, e = .returned (.tuple #[.slice A 1 1, .int .i64 0]) ∧ w.grownBy w' (some b) ∧ RdIs w' q b (l.drop k) (p + k) ∧ Sl w' w'.heap.size A [u64 (getN (l.take k) k)] := by
  have hlt := hD.lt
  have hn1 : ¬ (k : Int) < 1 := by omega
  have hn8 : ¬ 8 < (k : Int) := by omega
  have C := Lib.hid (take_calls l p k q b w hD hk3 hk hl hp)
  have hln : (l.take k).length = k := by rw [List.length_take]; omega
  have HL := Lib.hid hln
  clear hD hln
  go_enter Try.func46, Try.ntmps46
  go_wp2_with (first
    | (go_at_call 47; refine C.out.mono ?_; rintro e w1 ⟨A, rfl, hb1, hD1, hS1⟩; have C2 := Lib.hid (get_calls (l.take k) A k k w1 HL.out.symm hk3 hk8 hS1))
    | (go_at_call 54; refine C2.out.mono ?_; rintro e w2 ⟨rfl, rfl⟩))
  go_ret2
  refine ⟨_, rfl, Lib.grownBy_below hb1 ((Below.refl _ _).alloc (Nat.le_refl _) _), hD1.below ((Below.refl _ _).alloc (Nat.le_refl _) _), fun _ => ⟨_, 0, rfl, by simp, fun j v hj => ?_⟩⟩
  rw [Nat.zero_add]
  have h2 := (Blk.new_ (w := w1) (t := 74) (cs := #[.int .u64 (getN (l.take k) k : Int)]) rfl).cell j
  exact h2.trans (by rw [← List.getElem?_toArray] at hj; exact hj)
end Go.Proofs.Ytfamififoifagaa
