/- Contracts of wire: Pad's test of a text. -/
import Derived.Test.YtfamififoifagaaWireB
namespace Go.Proofs.Ytfamififoifagaa
open Go.RowKit Words

/-- a byte that may not be part of a text -/
def nplB (x : UInt8) : Bool := !(decide (32 ≤ x.toNat) && decide (x.toNat ≤ 126))

set_option maxRecDepth 100000 in
theorem npl_calls (x : UInt8) (w : World) :
    Calls Try.prog 51 #[.int .u8 (x.toNat : Int)] w fun e w' => e = .returned (.bool (nplB x)) ∧ w = w' := by
  unfold nplB
  generalize x.toNat = n
  rcases Nat.lt_or_ge n 32 with h | h
  · have h1 : ¬ (32 : Int) ≤ (n : Int) := by omega
    have e1 : (!(decide (32 ≤ n) && decide (n ≤ 126))) = true := by simp; omega
    rw [e1]
    go_enter Try.func51, Try.ntmps51
    go_wp2
    go_ret
    exact ⟨rfl, rfl⟩
  · rcases Nat.lt_or_ge 126 n with h2 | h2
    · have h1 : (32 : Int) ≤ (n : Int) := by omega
      have h3 : ¬ (n : Int) ≤ 126 := by omega
      have e1 : (!(decide (32 ≤ n) && decide (n ≤ 126))) = true := by simp; omega
      rw [e1]
      go_enter Try.func51, Try.ntmps51
      go_wp2
      go_ret
      exact ⟨rfl, rfl⟩
    · have h1 : (32 : Int) ≤ (n : Int) := by omega
      have h3 : (n : Int) ≤ 126 := by omega
      have e1 : (!(decide (32 ≤ n) && decide (n ≤ 126))) = false := by simp; omega
      rw [e1]
      go_enter Try.func51, Try.ntmps51
      go_wp2
      go_ret
      exact ⟨rfl, rfl⟩

set_option maxHeartbeats 400000 in
theorem npl_index (l : List UInt8) (A : Option Addr) (n c : Nat) (hn : n = l.length) (hl : l.length ≤ 1000000) (w : World) (hs : Sl w w.heap.size A (l.map b8)) :
    Calls Try.prog 57 #[.slice A n c, .func (.func 51) #[] #[]] w fun e w' => e = .returned (.int .i64 (firstI nplB l)) ∧ w = w' := by
  subst hn
  have Hs := Lib.hid hs
  clear hs
  go_enter Try.func57, Try.ntmps57
  go_wp2
  go_loop [8] (fun i => ∃ k : Nat, k ≤ l.length ∧ i = .int .i64 k ∧ Hid (∀ j, (h : j < l.length) → j < k → nplB l[j] = false)) (fun i => l.length - (intOf i).toNat)
  case atStart => exact ⟨0, Nat.zero_le _, rfl, fun j _ hj => absurd hj (by omega)⟩
  case round =>
    obtain ⟨k, hk, rfl, H⟩ := hrel
    by_cases hlt : k < l.length
    · obtain ⟨b, o, rfl, _, hc⟩ := Hs.out.at_ (k := k) (by simpa using hlt)
      simp only [List.getElem_map, b8] at hc
      have C := Lib.hid (npl_calls l[k] w)
      cases hp : nplB l[k] with
      | true =>
        have E := Lib.hid (firstI_at hlt hp H.out)
        have HP := Lib.hid hp
        clear hp
        go_wp2_with (go_at_call 51; refine C.out.mono ?_; rintro e w' ⟨rfl, rfl⟩; rw [HP.out])
        go_ret
        exact ⟨by rw [E.out]; rfl, rfl⟩
      | false =>
        have HP := Lib.hid hp
        clear hp
        go_wp2_with (go_at_call 51; refine C.out.mono ?_; rintro e w' ⟨rfl, rfl⟩; rw [HP.out])
        go_round
        case rel => exact ⟨k + 1, by omega, by go_num, fun j h hj => by
          rcases Nat.lt_or_ge j k with h' | h'
          · exact H.out j h h'
          · obtain rfl : j = k := by omega
            exact HP.out⟩
        case measure => simp [intOf]; omega
    · have E := Lib.hid (firstI_none (fun j h => H.out j h (by omega)))
      go_wp2
      go_ret
      exact ⟨by rw [E.out]; rfl, rfl⟩

set_option maxHeartbeats 400000 in
theorem npl_contains (l : List UInt8) (A : Option Addr) (n c : Nat) (hn : n = l.length) (hl : l.length ≤ 1000000) (w : World) (hs : Sl w w.heap.size A (l.map b8)) :
    Calls Try.prog 50 #[.slice A n c, .func (.func 51) #[] #[]] w fun e w' => e = .returned (.bool (l.any nplB)) ∧ w = w' := by
  have C := Lib.hid (npl_index l A n c hn hl w hs)
  have E := Lib.hid (firstI_any nplB l)
  clear hs hn
  go_enter Try.func50, Try.ntmps50
  go_wp2_with (go_at_call 57; refine C.out.mono ?_; rintro e w' ⟨rfl, rfl⟩)
  go_ret
  exact ⟨congrArg (fun b => Ending.returned (Value.bool b)) E.out, rfl⟩
end Go.Proofs.Ytfamififoifagaa
