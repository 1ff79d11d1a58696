/- Plain laws of messages; how ends and slices outlast other ends; the law's own helpers short, Own, Same. -/
import Derived.Test.YtfamififoifagaaAuthG
import Derived.Laws.IdiomStrings
import Derived.Lib.BufferRead
namespace Go.Proofs.Ytfamififoifagaa
open Go.RowKit Words

theorem getN_append (l m : List UInt8) : ∀ i, i ≤ l.length → getN (l ++ m) i = getN l i
  | 0, _ => rfl
  | i + 1, h => by
    rw [getN, getN, getN_append l m i (by omega)]
    congr 3
    rw [List.getD_eq_getElem?_getD, List.getD_eq_getElem?_getD, List.getElem?_append_left (by omega)]
theorem getN_leB (v n : Nat) : ∀ i, i ≤ n → getN (leB v n) i = v % 2 ^ (8 * i)
  | 0, _ => by simp [getN, Nat.mod_one]
  | i + 1, h => by
    rw [getN, getN_leB v n i (by omega)]
    have e : (leB v n).getD i 0 = byteAt v i := by
      rw [List.getD_eq_getElem?_getD, leB, List.getElem?_map, List.getElem?_range (by omega)]; rfl
    rw [e]
    unfold byteAt
    rw [UInt8.toNat_ofNat']
    apply Nat.eq_of_testBit_eq
    intro j
    rw [Nat.testBit_or, Nat.testBit_mod_two_pow, Nat.testBit_shiftLeft, show (2 : Nat) ^ 8 = 2 ^ 8 from rfl, Nat.testBit_mod_two_pow, Nat.testBit_shiftRight, Nat.testBit_mod_two_pow]
    by_cases h1 : j < 8 * i
    · have h2 : ¬ (8 * i ≤ j) := by omega
      have h3 : j < 8 * (i + 1) := by omega
      simp [h1, h2, h3]
    · have h2 : 8 * i ≤ j := by omega
      rw [show 8 * i + (j - 8 * i) = j by omega]
      by_cases h3 : j < 8 * (i + 1)
      · have h4 : j - 8 * i < 8 := by omega
        simp [h1, h2, h3, h4]
      · have h4 : ¬ (j - 8 * i < 8) := by omega
        simp [h1, h3, h4]
theorem getN_of (v n : Nat) (m : List UInt8) (h : v < 2 ^ (8 * n)) : getN (leB v n ++ m) n = v := by
  rw [getN_append _ _ _ (by rw [leB_len]; omega), getN_leB v n n (by omega), Nat.mod_eq_of_lt h]
theorem getN_take (l : List UInt8) : ∀ n i, i ≤ n → getN (l.take n) i = getN l i
  | n, 0, _ => rfl
  | n, i + 1, h => by
    rw [getN, getN, getN_take l n i (by omega)]
    congr 3
    rw [List.getD_eq_getElem?_getD, List.getD_eq_getElem?_getD, List.getElem?_take_of_lt (by omega)]
theorem parH_msg (h : Hd) (ps : List (List UInt8)) (hh : h.ok) : parH (msgB h ps) = h := by
  obtain ⟨h1, h2, h3, h4⟩ := hh
  have e : msgB h ps = leB h.kind 1 ++ (leB h.flags 1 ++ (leB h.queue 2 ++ (leB h.seq 4 ++ ps.flatten))) := by
    simp [msgB, hdB, hdF, fldB]
  unfold parH
  rw [e]
  have l1 := leB_len h.kind 1
  have l2 := leB_len h.flags 1
  have l3 := leB_len h.queue 2
  have d1 : ∀ m, (leB h.kind 1 ++ m).drop 1 = m := fun m => List.drop_left' l1
  have d2 : ∀ m, (leB h.flags 1 ++ m).drop 1 = m := fun m => List.drop_left' l2
  have d3 : ∀ m, (leB h.queue 2 ++ m).drop 2 = m := fun m => List.drop_left' l3
  rw [show (2 : Nat) = 1 + 1 from rfl, show (4 : Nat) = 1 + 1 + 2 from rfl, ← List.drop_drop, ← List.drop_drop, ← List.drop_drop, d1, d2, d3]
  rw [getN_take _ _ _ (Nat.le_refl _), getN_take _ _ _ (Nat.le_refl _), getN_take _ _ _ (Nat.le_refl _), getN_take _ _ _ (Nat.le_refl _)]
  rw [getN_of _ _ _ h1, getN_of _ _ _ h2, getN_of _ _ _ h3, getN_of _ _ _ h4]
theorem msg_len1 (h : Hd) (N : List UInt8) (hN : N.length = 32) : (msgB h [N]).length = 40 := by simp [msgB, hdB_len, hN]
theorem msg_len2 (h : Hd) (N M : List UInt8) (hN : N.length = 32) (hM : M.length = 32) : (msgB h [N, M]).length = 72 := by simp [msgB, hdB_len, hN, hM]
theorem parP_one (h : Hd) (N : List UInt8) (hN : N.length = 32) : parP (msgB h [N]) 0 = N := by
  unfold parP msgB
  rw [List.drop_left' (hdB_len h)]
  rw [List.flatten_cons, List.flatten_nil, List.append_nil]
  exact List.take_of_length_le (by omega)
theorem parP_two0 (h : Hd) (N M : List UInt8) (hN : N.length = 32) : parP (msgB h [N, M]) 0 = N := by
  unfold parP msgB
  rw [List.drop_left' (hdB_len h)]
  simp only [List.flatten_cons, List.flatten_nil, List.append_nil]
  exact List.take_left' hN
theorem parP_two1 (h : Hd) (N M : List UInt8) (hN : N.length = 32) (hM : M.length = 32) : parP (msgB h [N, M]) 1 = M := by
  unfold parP msgB
  rw [show 8 + 32 * 1 = 8 + 32 from rfl, ← List.drop_drop, List.drop_left' (hdB_len h)]
  simp only [List.flatten_cons, List.flatten_nil, List.append_nil]
  rw [List.drop_left' hN]
  exact List.take_of_length_le (by omega)
theorem parE_one (h : Hd) (N : List UInt8) (kind flags : Nat) (hh : h.ok) (hN : N.length = 32) (hk : h.kind = kind) (hf : h.flags ≤ flags) (hz : 0 < flags → h.flags = 0 → N = zero32) : parE (msgB h [N]) kind flags 1 = 0 := by
  have hl := msg_len1 h N hN
  unfold parE
  rw [if_neg (by omega), if_neg (by omega), if_neg]
  unfold parBad
  rw [parH_msg h _ hh, show 1 - 1 = 0 from rfl, parP_one h N hN]
  have h1 : ¬ flags < h.flags := by omega
  by_cases h2 : 0 < flags
  · by_cases h3 : h.flags = 0
    · rw [hz h2 h3]
      simp [hk, sameB, zero32]
      omega
    · simp [hk, h1, h3]
  · simp [hk, h1, h2]
theorem parE_two (h : Hd) (N M : List UInt8) (kind flags : Nat) (hh : h.ok) (hN : N.length = 32) (hM : M.length = 32) (hk : h.kind = kind) (hf : h.flags ≤ flags) (hz : 0 < flags → h.flags = 0 → M = zero32) : parE (msgB h [N, M]) kind flags 2 = 0 := by
  have hl := msg_len2 h N M hN hM
  unfold parE
  rw [if_neg (by omega), if_neg (by omega), if_neg]
  unfold parBad
  rw [parH_msg h _ hh, show 2 - 1 = 1 from rfl, parP_two1 h N M hN hM]
  have h1 : ¬ flags < h.flags := by omega
  by_cases h2 : 0 < flags
  · by_cases h3 : h.flags = 0
    · rw [hz h2 h3]
      simp [hk, sameB, zero32]
      omega
    · simp [hk, h1, h3]
  · simp [hk, h1, h2]
theorem same_refl (a : List UInt8) : sameB a a = true := by simp [sameB]
theorem zero32_len : zero32.length = 32 := List.length_replicate

section
variable {t t' : TypeId} {w w' : World} {b g : Nat} {K K' N N' : List UInt8} {H S H' S' : ByteArray} {h h' : Hd} {o d o' d' : Bool}
theorem EndIs.other (hE : EndIs t w b K H S h N o d) (hF : EndIs t' w g K' H' S' h' N' o' d') (hne : g ≠ b) (ht : t' ≠ 5) (hg : w.grownBy w' (some g)) : EndIs t w' b K H S h N o d := by
  obtain ⟨v, hB, hO⟩ := hE
  obtain ⟨u, hC, _⟩ := hF
  exact ⟨v, hB.grown hg (fun e => hne (by injection e with e; exact e.symm)), hO.grown hg (Or.inr (hO.ne hC (fun e => ht e.symm)))⟩
theorem EndIs.below (hE : EndIs t w b K H S h N o d) (hb : Below w.heap.size w w') : EndIs t w' b K H S h N o d := by
  obtain ⟨v, hB, hO⟩ := hE
  exact ⟨v, hB.below hb hB.lt, hO.below hb (Nat.le_refl _)⟩
theorem EndIs.ne (hE : EndIs t w b K H S h N o d) (hF : EndIs t' w g K' H' S' h' N' o' d') (ht : t ≠ t') : g ≠ b := by
  obtain ⟨v, hB, _⟩ := hE
  obtain ⟨u, hC, _⟩ := hF
  rintro rfl
  unfold Blk at hB hC
  rw [hB] at hC
  injection hC with hC
  injection hC with _ h1
  exact ht h1
theorem OwnAt.other {base : Nat} {v : Value} {xs : List Value} (hO : OwnAt w base 5 v xs) (hF : EndIs t' w g K' H' S' h' N' o' d') (ht : t' ≠ 5) (hg : w.grownBy w' (some g)) : OwnAt w' base 5 v xs := by
  obtain ⟨u, hC, _⟩ := hF
  exact hO.grown hg (Or.inr (hO.ne hC (fun e => ht e.symm)))
end

def shortB (n : Nat) (H S : ByteArray) : Bool := decide (n ≤ 80) && (decide (H.size ≤ 240) && decide (S.size ≤ 240))
set_option maxRecDepth 100000 in
theorem short_yes (A : Option Addr) (n c : Nat) (H S : ByteArray) (w : World) (h1 : n ≤ 80) (h2 : H.size ≤ 240) (h3 : S.size ≤ 240) :
    Calls Try.prog 7 #[.agg #[.slice A n c, .string H, .string S]] w (RetBool true w) := by
  have g1 : (n : Int) ≤ 80 := by omega
  have g2 : (H.size : Int) ≤ 240 := by omega
  have g3 : (S.size : Int) ≤ 240 := by omega
  go_enter Try.func7, Try.ntmps7
  go_wp2_with fail
  go_ret
  exact ⟨rfl, (Below.refl _ _).alloc (Nat.le_refl _) _⟩
set_option maxRecDepth 100000 in
theorem short_no (A : Option Addr) (n c : Nat) (H S : ByteArray) (w : World) (h : ¬ (n ≤ 80 ∧ H.size ≤ 240 ∧ S.size ≤ 240)) :
    Calls Try.prog 7 #[.agg #[.slice A n c, .string H, .string S]] w (RetBool false w) := by
  by_cases h1 : n ≤ 80
  · have g1 : (n : Int) ≤ 80 := by omega
    by_cases h2 : H.size ≤ 240
    · have g2 : (H.size : Int) ≤ 240 := by omega
      have g3 : ¬ (S.size : Int) ≤ 240 := by omega
      clear h
      go_enter Try.func7, Try.ntmps7
      go_wp2_with fail
      go_ret
      exact ⟨rfl, (Below.refl _ _).alloc (Nat.le_refl _) _⟩
    · have g2 : ¬ (H.size : Int) ≤ 240 := by omega
      clear h
      go_enter Try.func7, Try.ntmps7
      go_wp2_with fail
      go_ret
      exact ⟨rfl, (Below.refl _ _).alloc (Nat.le_refl _) _⟩
  · have g1 : ¬ (n : Int) ≤ 80 := by omega
    clear h
    go_enter Try.func7, Try.ntmps7
    go_wp2_with fail
    go_ret
    exact ⟨rfl, (Below.refl _ _).alloc (Nat.le_refl _) _⟩

set_option maxRecDepth 100000 in
theorem own_calls (l : List UInt8) (A : Option Addr) (n c : Nat) (w : World) (hs : Sl w w.heap.size A (l.map b8)) (hn : n = l.length) (hl : l.length ≤ 1000000) :
    Calls Try.prog 18 #[.slice A n c] w fun e w' => ∃ v, e = .returned v ∧ OwnAt w' w.heap.size 5 v (l.map b8) ∧ Below w.heap.size w w' := by
  have HS := Lib.hid hs
  have HN := Lib.hid hn
  clear hs hn
  go_enter Try.func18, Try.ntmps18
  go_wp2_with (at_builtin; refine wpList_append_u8 rfl (.const (.slice none 0 0)) (.tmp 3) rfl w.heap.size (.slice none 0 0) [] rfl (OwnAt.nil _ _ _) w.heap.size A n c (l.map b8) rfl HS.out (by rw [List.length_map]; exact HN.out.symm) (arr8_one l) (by rw [List.length_nil, HN.out]; omega) (Nat.le_refl _) ?_; intro v1 w1 ho hg hh)
  go_ret
  exact ⟨_, rfl, by simpa using ho, (Below.refl _ _).grown hg (Nat.le_refl _) (by simp [Value.ownBlock])⟩

/-- a slice of bytes made a string -/
theorem conv_sl {w : World} (l : List UInt8) (A : Option Addr) (n c B : Nat) (hs : Sl w B A (l.map b8)) (hn : n = l.length) :
    (convert 22 9 (.slice A n c)).run Try.prog w = .ok (.string ⟨l.toArray⟩) w := by
  subst hn
  cases A with
  | none =>
    have h0 := sl_none hs rfl
    rw [List.map_eq_nil_iff] at h0
    subst h0
    exact Lib.run_convert_nil_bytes w 22 9 5 c Try.underlying22 Try.underlying5 Try.underlying9
  | some a =>
    refine run_convert_bytes_back w 22 9 5 a c l Try.underlying22 Try.underlying5 Try.underlying9 (fun j hj => ?_)
    obtain ⟨b, o, h1, _, h2⟩ := hs (by intro e; rw [List.map_eq_nil_iff] at e; subst e; simp at hj)
    injection h1 with h1
    subst h1
    rw [add_mk]
    exact h2 j _ (by rw [List.getElem?_map, List.getElem?_eq_getElem hj]; rfl)
set_option maxRecDepth 100000 in
theorem same_calls (l : List UInt8) (A A' : Option Addr) (n n' c c' : Nat) (w : World) (hs : Sl w w.heap.size A (l.map b8)) (hn : n = l.length) (hs' : Sl w w.heap.size A' (l.map b8)) (hn' : n' = l.length) :
    Calls Try.prog 20 #[.slice A n c, .slice A' n' c'] w fun e w' => e = .returned (.bool true) ∧ w = w' := by
  have h1 := conv_sl (w := w) l A n c w.heap.size hs hn
  have h2 := conv_sl (w := w) l A' n' c' w.heap.size hs' hn'
  generalize (⟨l.toArray⟩ : ByteArray) = s at h1 h2
  clear hs hs' hn hn'
  go_enter Try.func20, Try.ntmps20
  go_wp2_with fail
  go_ret
  exact ⟨by simp, rfl⟩
end Go.Proofs.Ytfamififoifagaa
