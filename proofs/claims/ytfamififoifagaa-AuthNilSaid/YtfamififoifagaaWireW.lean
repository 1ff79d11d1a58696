/- Contracts of wire: the writer. -/
import Derived.Test.YtfamififoifagaaWirePut
namespace Go.Proofs.Ytfamififoifagaa
open Go.RowKit Words

/-- the writer at block b holds the bytes l -/
def WrIs (w : World) (base b : Nat) (l : List UInt8) : Prop := ∃ v, Blk w b 72 #[v] ∧ OwnAt w base 5 v (l.map b8)
theorem WrIs.lt {w : World} {base b : Nat} {l : List UInt8} (h : WrIs w base b l) : b < w.heap.size := by
  obtain ⟨v, hB, _⟩ := h
  exact hB.lt
theorem WrIs.below {w w' : World} {base b : Nat} {l : List UInt8} (h : WrIs w base b l) (hb : Below w.heap.size w w') : WrIs w' base b l := by
  obtain ⟨v, hB, hO⟩ := h
  exact ⟨v, hB.below hb hB.lt, hO.below hb (Nat.le_refl _)⟩

set_option maxRecDepth 100000 in
set_option maxHeartbeats 1000000 in
theorem wadd_calls (l m : List UInt8) (base b n c : Nat) (A : Option Addr) (w : World) (hD : WrIs w base b l) (hs : Sl w w.heap.size A (m.map b8)) (hn : n = m.length) (hb : base ≤ b) (hlen : l.length + m.length ≤ 1048576) :
    Calls Try.prog 40 #[.pointer (some ⟨b, 0, none⟩), .slice A n c, .int .i64 0] w fun e w' => e = .returned (.int .i64 0) ∧ Below base w w' ∧ WrIs w' base b (l ++ m) := by
  obtain ⟨v, hB, hO⟩ := hD
  obtain ⟨A1, c1, rfl, hc1, hm1, hs1⟩ := hO.form8
  generalize hl : l.length = n1 at hB hO hc1 hlen
  have hr := hB.cell 0
  have hr' : w.cell? ⟨b, 0, none⟩ = some (.slice A1 n1 c1) := by rw [hr]; rfl
  have hlt := hB.lt
  have hcmp : ¬ (1048576 - (n1 : Int)) < (n : Int) := by omega
  have hw : IntKind.i64.wrap (1048576 - (n1 : Int)) = 1048576 - (n1 : Int) := IntWalk.i64_in _ (by omega)
  have HB := Lib.hid hB
  have HO := Lib.hid hO
  have HS := Lib.hid hs
  have HN := Lib.hid hn
  have HL := Lib.hid hl
  clear hB hO hs hn hl hr hs1
  go_enter Try.func40, Try.ntmps40
  go_wp2_with (at_builtin; refine wpList_append_u8 rfl (.tmp 28) (.tmp 29) rfl base (.slice A1 n1 c1) (l.map b8) rfl HO.out w.heap.size A n c (m.map b8) rfl HS.out (by rw [List.length_map]; exact HN.out.symm) (arr8_one m) (by rw [List.length_map, HL.out, HN.out]; omega) (by omega) ?_; intro v2 w2 ho hg hh; rw [← List.map_append] at ho; obtain ⟨A2, c2, rfl, hc2, hm2, hs2⟩ := ho.form8; generalize hn2 : (l ++ m).length = n2 at ho hc2 ⊢; have hB2 := HB.out.grown hg (fun e => HO.out.ne HB.out (by decide) e.symm); have hf2 := hB2.frozen; have hr2 : w2.cell? ⟨b, 0, none⟩ = some (.slice A1 n1 c1) := (by rw [hB2.cell]; rfl); have HB2 := Lib.hid hB2; have HO2 := Lib.hid ho; have HN2 := Lib.hid hn2; clear hB2 ho hn2 hs2 hh hr')
  go_ret
  exact ⟨rfl, ((Below.refl base w).grown hg (by omega) (fun k hk => (HO.out.lt k hk).1)).setCell hb _, _, Blk.of_eq (HB2.out.set_ 0 _) rfl, HO2.out.setCell HB2.out (by decide) _⟩

set_option maxRecDepth 100000 in
theorem addBytes_calls (l m : List UInt8) (base b n c : Nat) (A : Option Addr) (w : World) (hD : WrIs w base b l) (hs : Sl w w.heap.size A (m.map b8)) (hn : n = m.length) (hb : base ≤ b) (hlen : l.length + m.length ≤ 1048576) :
    Calls Try.prog 32 #[.pointer (some ⟨b, 0, none⟩), .slice A n c] w fun e w' => e = .returned (.int .i64 0) ∧ Below base w w' ∧ WrIs w' base b (l ++ m) := by
  have C := Lib.hid (wadd_calls l m base b n c A w hD hs hn hb hlen)
  clear hD hs hn
  go_enter Try.func32, Try.ntmps32
  go_wp2_with (go_at_call 40; refine C.out.mono ?_; rintro e w1 ⟨rfl, h1, h2⟩)
  go_ret
  exact ⟨rfl, h1, h2⟩

set_option maxRecDepth 100000 in
theorem wAdd_calls (l : List UInt8) (v k base b : Nat) (h1 : 1 ≤ k) (h8 : k ≤ 8) (hv : v < 2 ^ (8 * k)) (w : World) (hD : WrIs w base b l) (hb : base ≤ b) (hlen : l.length + k ≤ 1048576) :
    Calls Try.prog 37 #[.pointer (some ⟨b, 0, none⟩), .int .u64 (v : Int), .int .i64 (k : Int)] w fun e w' => e = .returned (.int .i64 0) ∧ Below base w w' ∧ WrIs w' base b (l ++ leB v k) := by
  have hlt := hD.lt
  have HD := Lib.hid hD
  have hl8 := leB_len v k
  have C := Lib.hid (put_calls v k h1 h8 hv w)
  have HL := Lib.hid hl8
  have HV := Lib.hid hv
  clear hD hl8 hv
  go_enter Try.func37, Try.ntmps37
  go_wp2_with (first
    | (go_at_call 43; refine C.out.mono ?_; rintro e w1 ⟨s, rfl, hO, hb1⟩; obtain ⟨A, c, rfl, hc, hm, hs⟩ := hO.form8; rw [HL.out] at hc ⊢; have C2 := Lib.hid (wadd_calls l (leB v k) base b k c A w1 (HD.out.below hb1) hs HL.out.symm hb (by rw [HL.out]; exact hlen)))
    | (go_at_call 40; refine C2.out.mono ?_; rintro e w2 ⟨rfl, h3, h4⟩))
  go_ret
  exact ⟨rfl, (hb1.mono (by omega)).trans h3, h4⟩

set_option maxRecDepth 100000 in
theorem bytes_calls (l : List UInt8) (base b : Nat) (w : World) (hD : WrIs w base b l) (hlen : l.length ≤ 1048576) :
    Calls Try.prog 33 #[.pointer (some ⟨b, 0, none⟩)] w fun e w' => ∃ s, e = .returned s ∧ OwnAt w' w.heap.size 5 s (l.map b8) ∧ Below w.heap.size w w' := by
  obtain ⟨v, hB, hO⟩ := hD
  obtain ⟨A1, c1, rfl, hc1, hm1, hs1⟩ := hO.form8
  have hz : A1 = none → l.length = 0 := by
    intro hA
    rcases List.eq_nil_or_concat l with h0 | ⟨x, y, h0⟩
    · rw [h0]; rfl
    · obtain ⟨_, _, h1, _⟩ := hs1 (by rw [h0]; simp)
      rw [hA] at h1; cases h1
  have C := Lib.hid (clone_calls l A1 _ c1 w hs1 rfl hz (by omega))
  generalize l.length = n1 at hB hO hc1 hlen C
  have hr' : w.cell? ⟨b, 0, none⟩ = some (.slice A1 n1 c1) := by rw [hB.cell]; rfl
  clear hB hO hs1 hz hc1
  go_enter Try.func33, Try.ntmps33
  go_wp2_with (go_at_call 30; refine C.out.mono ?_; rintro e w1 ⟨s, rfl, h1, h2⟩)
  go_ret
  exact ⟨_, rfl, h1, h2⟩
end Go.Proofs.Ytfamififoifagaa
