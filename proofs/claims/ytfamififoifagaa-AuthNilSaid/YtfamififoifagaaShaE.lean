/- Contracts of sha's digest: Write. -/
import Derived.Test.YtfamififoifagaaShaD
import Derived.Test.YtfamififoifagaaClone
import Derived.Deep.LoopGhost
import Derived.StillTailTactics
namespace Go.Proofs.Ytfamififoifagaa
open Go.RowKit Words

theorem blkOf_app (l m : List UInt8) (k : Nat) (h : 64 * k + 64 ≤ l.length) : blkOf (l ++ m) k = blkOf l k := by
  unfold blkOf
  rw [List.drop_append_of_le_length (by omega), List.take_append_of_le_length (by simp; omega)]
theorem chainS_app (l m : List UInt8) : ∀ k : Nat, 64 * k ≤ l.length → chainS (l ++ m) k = chainS l k
  | 0, _ => rfl
  | k + 1, h => by
    rw [show chainS (l ++ m) (k + 1) = steppedF (chainS (l ++ m) k) (blkOf (l ++ m) k) RK from rfl, chainS_app l m k (by omega), blkOf_app l m k (by omega)]
    rfl
theorem dC_app (l m : List UInt8) (k : Nat) (rest : Value) (n : Nat) (h : 64 * k ≤ l.length) : dC (l ++ m) k rest n = dC l k rest n := by
  unfold dC stC
  rw [chainS_app l m k h]
theorem dC_set (l : List UInt8) (k : Nat) (rest rest' : Value) (n : Nat) : (dC l k rest n).setIfInBounds 73 rest' = dC l k rest' n := by
  unfold dC
  rw [List.setIfInBounds_toArray, List.set_append_right _ _ (by simp [stC_len, rkC_len])]
  simp [stC_len, rkC_len]
theorem dC_setn (l : List UInt8) (k : Nat) (rest : Value) (n n' : Nat) : (dC l k rest n).setIfInBounds 74 (.int .i64 (n' : Nat)) = dC l k rest n' := by
  unfold dC
  rw [List.setIfInBounds_toArray, List.set_append_right _ _ (by simp [stC_len, rkC_len])]
  simp [stC_len, rkC_len]

/-- the digest at block b has received the bytes l -/
def DigIs (w : World) (base b : Nat) (l : List UInt8) : Prop :=
  ∃ v, Blk w b 117 (dC l (l.length / 64) v l.length) ∧ OwnAt w base 5 v ((l.drop (64 * (l.length / 64))).map b8)

theorem OwnAt.setCell {w : World} {base g i : Nat} {e t : TypeId} {v : Value} {xs : List Value} {cs : Array Value} (h : OwnAt w base e v xs) (hg : Blk w g t cs) (hne : e ≠ t) (u : Value) : OwnAt (w.setCell ⟨g, i, none⟩ u) base e v xs :=
  h.keep fun k hk => Below.heap_setCell w _ u k (fun he => h.ne hg hne (by rw [hk]; exact congrArg some he))

theorem sl_apart {w : World} {b i B : Nat} {A : Option Addr} {xs : List Value} {u : Value} (hs : Sl w B A xs) (hA : xs ≠ [] → ∀ a, A = some a → a.block ≠ b) : Sl (w.setCell ⟨b, i, none⟩ u) B A xs := fun hx => by
  obtain ⟨bs, os, rfl, hb, hr⟩ := hs hx
  exact ⟨bs, os, rfl, hb, rangeAt_keep hr (Below.heap_setCell w _ u bs (hA hx _ rfl))⟩
theorem OwnAt.form8 {w : World} {base : Nat} {e : TypeId} {v : Value} {l : List UInt8} (h : OwnAt w base e v (l.map b8)) :
    ∃ A c, v = .slice A l.length c ∧ l.length ≤ c ∧ c ≤ maxLen ∧ Sl w w.heap.size A (l.map b8) := by
  obtain ⟨A, c, h1, h2, h3, h4⟩ := h.form
  rw [List.length_map] at h1 h2
  exact ⟨A, c, h1, h2, h3, h4⟩
theorem rangeAt_take64 {w : World} {bs os k : Nat} {L : List UInt8} (h : w.rangeAt bs os ((L.drop (64 * k)).map b8)) : w.drew.rangeAt bs os ((blkOf L k).map b8) := fun j v hv => by
  refine h j v ?_
  unfold blkOf at hv
  rw [List.map_take, List.getElem?_take] at hv
  split at hv
  · exact hv
  · cases hv
theorem cut64 {w : World} {base bs os n c k : Nat} {e : TypeId} {L : List UInt8} (h : OwnAt w base e (.slice (some ⟨bs, os, none⟩) n c) ((L.drop (64 * k)).map b8)) (hn : 64 ≤ n) :
    OwnAt w base e (.slice (some ⟨bs, if c = 64 then os else os + 64, none⟩) (n - 64) (c - 64)) ((L.drop (64 * (k + 1))).map b8) := by
  have h1 := h.cut (k := 64) (by omega) hn
  rw [← List.map_drop, List.drop_drop] at h1
  rw [show 64 * (k + 1) = 64 * k + 64 by omega]
  split at h1 <;> rename_i hc
  · rw [if_pos hc]; exact h1
  · rw [if_neg hc]; simpa [add_mk] using h1
theorem rest_app (l m : List UInt8) : (l.drop (64 * (l.length / 64))).map b8 ++ m.map b8 = ((l ++ m).drop (64 * (l.length / 64))).map b8 := by
  rw [← List.map_append, List.drop_append_of_le_length (by omega)]
set_option maxRecDepth 100000 in
set_option maxHeartbeats 1000000 in
theorem write_calls (l m : List UInt8) (base b c : Nat) (A : Option Addr) (w : World) (hD : DigIs w base b l) (hs : Sl w w.heap.size A (m.map b8)) (hA : m ≠ [] → ∀ a, A = some a → a.block ≠ b) (hb : base ≤ b) (hlen : l.length + m.length ≤ 70368744177664) :
    Calls Try.prog 55 #[.pointer (some ⟨b, 0, none⟩), .slice A m.length c] w fun e w' => e = .returned (.int .i64 0) ∧ Below base w w' ∧ DigIs w' base b (l ++ m) := by
  obtain ⟨v, hB, hO⟩ := hD
  have hlt := hB.lt
  have hn : w.cell? ⟨b, 74, none⟩ = some (.int .i64 (l.length : Nat)) := by rw [hB.cell, dC_n]
  have hr : w.cell? ⟨b, 73, none⟩ = some v := by rw [hB.cell, dC_rest]
  have hf := hB.frozen
  have hadd : IntKind.i64.wrap ((l.length : Int) + (m.length : Int)) = ((l.length + m.length : Nat) : Int) := by rw [IntWalk.i64_in _ (by omega)]; omega
  have hB0 : Blk (w.setCell ⟨b, 74, none⟩ (.int .i64 ((l.length : Int) + (m.length : Int)))) b 117 (dC l (l.length / 64) v (l.length + m.length)) := Blk.of_eq (hB.set_ 74 _) (dC_setn l _ v l.length (l.length + m.length))
  have hO0 := hO.setCell (i := 74) hB (by decide) (.int .i64 ((l.length : Int) + (m.length : Int)))
  have hs0 : Sl (w.setCell ⟨b, 74, none⟩ (.int .i64 ((l.length : Int) + (m.length : Int)))) w.heap.size A (m.map b8) := sl_apart hs (fun hx => hA (fun h => hx (by rw [h]; rfl)))
  have hb0 : Below base w (w.setCell ⟨b, 74, none⟩ (.int .i64 ((l.length : Int) + (m.length : Int)))) := (Below.refl _ _).setCell hb _
  have hsz : (w.setCell ⟨b, 74, none⟩ (.int .i64 ((l.length : Int) + (m.length : Int)))).heap.size = w.heap.size := by simp
  have HB := Lib.hid hB0
  have HO := Lib.hid hO0
  clear hB hB0 hO hO0
  go_enter Try.func55, Try.ntmps55
  go_wp2_with (at_builtin; refine wpList_append_u8 rfl (.tmp 20) (.tmp 21) rfl base v ((l.drop (64 * (l.length / 64))).map b8) rfl HO.out w.heap.size A m.length c (m.map b8) rfl hs0 (by simp) (arr8_one m) (by simp; omega) (by omega) ?_; intro v1 w1 ho hg hh; rw [rest_app] at ho; obtain ⟨A1, c1, rfl, hc1, hm1, hs1⟩ := ho.form8; generalize ((l ++ m).drop (64 * (l.length / 64))).length = n1 at ho hc1 hs1 ⊢; have HB1 := HB.out.grown hg (fun e => HO.out.ne HB.out (by decide) e.symm); have hf1 := HB1.frozen; have hr1 : w1.cell? ⟨b, 73, none⟩ = some v := (by rw [HB1.cell, dC_rest]))
  have hb1 : Below base w w1 := hb0.grown hg (by rw [hsz]; omega) (fun k hk => (HO.out.lt k hk).1)
  have HB2 : Blk (w1.setCell ⟨b, 73, none⟩ (.slice A1 n1 c1)) b 117 (dC (l ++ m) (l.length / 64) (.slice A1 n1 c1) (l ++ m).length) :=
    Blk.of_eq (HB1.set_ 73 _) (by rw [dC_set, dC_app l m _ _ _ (by omega), List.length_append])
  have hb2 := hb1.setCell (p := ⟨b, 73, none⟩) hb (.slice A1 n1 c1)
  have ho2 := ho.setCell (i := 73) HB1 (by decide) (.slice A1 n1 c1)
  have hk0 : l.length / 64 ≤ (l ++ m).length / 64 := by rw [List.length_append]; omega
  have hN : (l ++ m).length ≤ 70368744177664 := by rw [List.length_append]; exact hlen
  generalize w1.setCell ⟨b, 73, none⟩ (.slice A1 n1 c1) = w2 at HB2 hb2 ho2 ⊢
  generalize Value.slice A1 n1 c1 = v2 at HB2 ho2 ⊢
  generalize hL : l ++ m = L at HB2 ho2 hk0 hN ⊢
  have HL := Lib.hid hL
  clear hL
  have H2 := Lib.hid HB2
  have H3 := Lib.hid hb2
  have H4 := Lib.hid ho2
  clear HB HO hs hs0 hb0 hsz hr hn hf hadd hg hh hs1 HB1 hf1 hr1 hb1 HB2 hb2 ho2 ho hm1 hc1
  go_loopg [] (L.length / 64 - l.length / 64) (fun g wr => ∃ k v, g + k = L.length / 64 ∧ Blk wr b 117 (dC L k v L.length) ∧ OwnAt wr base 5 v ((L.drop (64 * k)).map b8) ∧ Below base w wr)
  case atStart => exact ⟨l.length / 64, v2, by omega, H2.out, H4.out, H3.out⟩
  case round =>
    clear H2 H3 H4
    obtain ⟨k, v, hgk, hB, hO, hbr⟩ := hrel
    obtain ⟨A3, c3, rfl, hc3, hm3, hs3⟩ := hO.form8
    have hlen3 : (L.drop (64 * k)).length = L.length - 64 * k := List.length_drop
    generalize (L.drop (64 * k)).length = n3 at hB hO hc3 hs3 hlen3
    have hr := hB.cell 73
    rw [dC_rest] at hr
    have HB := Lib.hid hB
    have HO := Lib.hid hO
    clear hB hO
    rcases Nat.eq_zero_or_pos gk with h0 | h0
    · have hlt3 : ¬ (64 : Int) ≤ (n3 : Nat) := by omega
      obtain rfl : k = L.length / 64 := by omega
      clear hgk h0 hlen3 hs3
      go_wp2_with fail
      go_ret
      rw [HL.out]
      exact ⟨rfl, hbr, _, HB.out, HO.out⟩
    · have hge3 : (64 : Int) ≤ (n3 : Nat) := by omega
      have hc4 : (64 : Int) ≤ (c3 : Nat) := by omega
      obtain ⟨bs, os, rfl, hbs, hrr⟩ := hs3 (by intro hx; have := congrArg List.length hx; rw [List.length_map, List.length_drop, List.length_nil] at this; omega)
      have C := Lib.hid (absorb_calls L k (.slice (some ⟨bs, os, none⟩) n3 c3) L.length b bs os c3 (by omega) wr.drew HB.out (rangeAt_take64 hrr) hbs (fun hx => HO.out.ne HB.out (by decide) (congrArg some hx)))
      clear hrr
      go_wp2_with fail
      refine wp_region_still_tail 8 (by kernel_rfl) (by kernel_rfl) ?_
      change wpStill _ _ (World.drew _) (fun a' => wpList _ _ _ _ a' (World.drew _)) _ _
      simp only [List.take_succ_cons, List.take_zero, List.drop_succ_cons, List.drop_zero]
      repeat still_step
      refine wpStill_nil ?_
      go_wp2_with (go_at_call 64; refine C.out.mono ?_; rintro e w2 ⟨rfl, hg2, hB2⟩; have hf2 := hB2.frozen; have hr2 : w2.cell? ⟨b, 73, none⟩ = some (.slice (some ⟨bs, os, none⟩) n3 c3) := (by rw [hB2.cell, dC_rest]); have HB2 := Lib.hid hB2)
      all_goals
        subst hlen3
        have hcut := cut64 HO.out (by omega)
        simp only [reduceIte, *] at hcut
        have hcut2 := (OwnAt.grown (w := wr.drew) hcut hg2 (Or.inr (OwnAt.ne (w := wr.drew) hcut HB.out (by decide)))).setCell (i := 73) HB2.out (by decide)
        go_roundg (gk - 1)
        case measure => omega
        case rel => exact ⟨k + 1, _, by omega, Blk.of_eq (HB2.out.set_ 73 _) (dC_set _ _ _ _ _), hcut2 _, (hbr.drew.grown hg2 (Nat.le_trans hb (Nat.le_of_lt HB.out.lt)) (fun x hx => by injection hx with hx; omega)).setCell hb _⟩
end Go.Proofs.Ytfamififoifagaa
