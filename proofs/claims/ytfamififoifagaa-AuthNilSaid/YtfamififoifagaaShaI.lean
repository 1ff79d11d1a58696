/- Contracts of sha: the closure of HMAC. -/
import Derived.Test.YtfamififoifagaaShaH
namespace Go.Proofs.Ytfamififoifagaa
open Go.RowKit Words

theorem OwnAt.set {w : World} {base g o n c i : Nat} {e : TypeId} {xs : List Value} (h : OwnAt w base e (.slice (some ⟨g, o, none⟩) n c) xs) (u : Value) (hi : i < n) :
    OwnAt (w.setCell ⟨g, o + i, none⟩ u) base e (.slice (some ⟨g, o, none⟩) n c) (xs.set i u) := by
  rcases h with ⟨h, _⟩ | ⟨g', o', cap, cur, hv, hb, hB, hnc, hcm, hcs, htake⟩
  · cases h
  · injection hv with ha hn hc
    injection ha with ha
    injection ha with h1 h2
    subst h1 h2 hn hc
    refine .inr ⟨g, o, c, cur.setIfInBounds (o + i) u, by rw [List.length_set], hb, hB.set_ _ _, by rw [List.length_set]; exact hnc, hcm, by simpa using hcs, ?_⟩
    rw [List.length_set, Array.toList_setIfInBounds]
    conv => rhs; rw [← htake]
    apply List.ext_getElem?
    intro j
    simp only [List.getElem?_take, List.getElem?_drop, List.getElem?_set, List.length_take, List.length_drop, Array.length_toList]
    by_cases hj : i = j
    · subst hj
      rw [if_pos hi, if_pos rfl, if_pos (by omega), if_pos rfl, if_pos (by omega)]
    · simp [hj]
theorem OwnAt.frozen {w : World} {base g o n c : Nat} {e : TypeId} {xs : List Value} (h : OwnAt w base e (.slice (some ⟨g, o, none⟩) n c) xs) (i : Nat) : w.frozen? ⟨g, i, none⟩ = false := by
  rcases h with ⟨h, _⟩ | ⟨g', o', cap, cur, hv, hb, hB, hnc, hcm, hcs, htake⟩
  · cases h
  · injection hv with ha hn hc
    injection ha with ha
    injection ha with h1 h2
    subst h1
    exact hB.frozen i

/-- the first i bytes mixed with x -/
def mixL (x : UInt8) (P : List UInt8) (i : Nat) : List UInt8 := (P.take i).map (· ^^^ x) ++ P.drop i
theorem mixL_len (x : UInt8) (P : List UInt8) (i : Nat) : (mixL x P i).length = P.length := by unfold mixL; simp; omega
theorem mixL_get (x : UInt8) (P : List UInt8) (i : Nat) (h : i < P.length) : (mixL x P i)[i]? = some P[i] := by
  unfold mixL
  rw [List.getElem?_append_right (by simp; omega), List.length_map, List.length_take, List.getElem?_drop]
  rw [show i + (i - min i P.length) = i by omega]
  exact List.getElem?_eq_getElem h
theorem mixL_set (x : UInt8) (P : List UInt8) (i : Nat) (h : i < P.length) : (mixL x P i).set i (P[i] ^^^ x) = mixL x P (i + 1) := by
  unfold mixL
  rw [List.set_append_right _ _ (by simp; omega), List.length_map, List.length_take, show i - min i P.length = 0 by omega, List.drop_eq_getElem_cons h, List.set_cons_zero, List.take_succ_eq_append_getElem h, List.map_append]
  simp
theorem mixL_all (x : UInt8) (P : List UInt8) : mixL x P P.length = P.map (· ^^^ x) := by unfold mixL; simp

attribute [local go_sem high] Words.xor8

set_option maxRecDepth 100000 in
set_option maxHeartbeats 1000000 in
theorem mixed_calls (P : List UInt8) (x : UInt8) (p : Nat) (w : World) (hP : P.length = 64) (hB : Blk w p 104 (arrC b8 P)) :
    Calls Try.prog 49 #[.int .u8 (x.toNat : Int), .pointer (some ⟨p, 0, none⟩)] w fun e w' => ∃ v, e = .returned v ∧ OwnAt w' w.heap.size 5 v ((P.map (· ^^^ x)).map b8) ∧ Below w.heap.size w w' := by
  have hs : Sl w w.heap.size (some ⟨p, 0, none⟩) (P.map b8) := fun _ => ⟨p, 0, rfl, hB.lt, fun j v hj => by rw [hB.cell, Nat.zero_add]; unfold arrC; rw [List.getElem?_toArray]; exact hj⟩
  have C := clone_calls P (some ⟨p, 0, none⟩) 64 64 w hs hP.symm (fun h => by cases h) (by omega)
  have C := Lib.hid C
  have hP' := Lib.hid hP
  clear hs hB hP
  go_enter Try.func49, Try.ntmps49
  go_wp2_with (go_at_call 30; refine C.out.mono ?_; rintro e w1 ⟨v, rfl, hO, hb⟩; obtain ⟨A, c, rfl, hc, hm, hs⟩ := hO.form8; obtain ⟨g, o, rfl, hg, _⟩ := hs (by intro h; have := congrArg List.length h; rw [List.length_map, hP'.out] at this; cases this); rw [hP'.out] at hO hc ⊢)
  have H1 := Lib.hid hO
  have H2 := Lib.hid hb
  clear hO hb hs
  go_loopw [10] (fun j wr => ∃ i : Nat, i ≤ 64 ∧ j = .int .i64 (i : Nat) ∧ OwnAt wr w.heap.size 5 (.slice (some ⟨g, o, none⟩) 64 c) ((mixL x P i).map b8) ∧ Below w.heap.size w wr) (fun j _ => 64 - (intOf j).toNat)
  case atStart => exact ⟨0, by omega, rfl, by simpa [mixL] using H1.out, H2.out⟩
  case round =>
    clear H1 H2
    obtain ⟨i, hi, rfl, hO, hb⟩ := hrel
    rcases Nat.lt_or_ge i 64 with h64 | h64
    · have hi0 : (i : Int) < 64 := by omega
      have hip : i < P.length := by rw [hP'.out]; exact h64
      have c1 : wr.cell? ⟨g, o + i, none⟩ = some (.int .u8 (P[i].toNat : Int)) := hO.range i _ (by rw [List.getElem?_map, mixL_get x P i hip]; rfl)
      have f1 := hO.frozen
      have S := Lib.hid (mixL_set x P i hip)
      generalize P[i] = y at c1 S
      have HO := Lib.hid hO
      have HB := Lib.hid hb
      clear hO hb hip
      go_wp2_with fail
      rw [show ((y.toNat ^^^ x.toNat : Nat) : Int) = ((y ^^^ x).toNat : Int) by rw [UInt8.toNat_xor]]
      go_roundw
      case rel =>
        refine ⟨i + 1, by omega, by go_num, ?_, HB.out.setCell (HO.out.lt g rfl).1 _⟩
        have h := HO.out.set (b8 (y ^^^ x)) h64
        rw [← List.map_set, S.out] at h
        exact h
      case measure => simp [intOf]; omega
    · obtain rfl : i = 64 := by omega
      have HO := Lib.hid hO
      have HB := Lib.hid hb
      clear hO hb
      go_wp2_with fail
      go_ret
      refine ⟨_, rfl, ?_, HB.out⟩
      have h := HO.out
      rw [← mixL_all, hP'.out]
      exact h
end Go.Proofs.Ytfamififoifagaa
