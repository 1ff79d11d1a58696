/- Contracts of wire: Put. -/
import Derived.Test.YtfamififoifagaaShaJ
namespace Go.Proofs.Ytfamififoifagaa
open Go.RowKit Words

/-- byte i of a number -/
def byteAt (v i : Nat) : UInt8 := UInt8.ofNat (v >>> (8 * i))
/-- the n lowest bytes of a number -/
def leB (v n : Nat) : List UInt8 := (List.range n).map (byteAt v)
theorem leB_len (v n : Nat) : (leB v n).length = n := by unfold leB; simp
theorem leB_succ (v n : Nat) : leB v (n + 1) = leB v n ++ [byteAt v n] := by unfold leB; rw [List.range_succ, List.map_append]; rfl
theorem byteAt_val (v i : Nat) : (v : Int) / 2 ^ (8 * i) % 256 = ((byteAt v i).toNat : Int) := by
  unfold byteAt
  rw [UInt8.toNat_ofNat', Nat.shiftRight_eq_div_pow, Int.natCast_emod, Int.natCast_ediv, Int.natCast_pow]
  rfl

theorem OwnAt.of_blk {w : World} {base g : Nat} {e : TypeId} {l : List UInt8} (h : Blk w g e (arrC b8 l)) (hb : base ≤ g) (hm : l.length ≤ maxLen) : OwnAt w base e (.slice (some ⟨g, 0, none⟩) l.length l.length) (l.map b8) :=
  .inr ⟨g, 0, l.length, _, by rw [List.length_map], hb, h, by rw [List.length_map]; exact Nat.le_refl _, hm, by rw [arrC_size]; omega, by unfold arrC; exact List.take_of_length_le (by simp)⟩
set_option maxRecDepth 100000 in
set_option maxHeartbeats 1000000 in
theorem put_calls (v n : Nat) (h1 : 1 ≤ n) (h8 : n ≤ 8) (hv : v < 2 ^ (8 * n)) (w : World) :
    Calls Try.prog 43 #[.int .u64 (v : Int), .int .i64 (n : Int)] w fun e w' => ∃ s, e = .returned (.tuple #[s, .int .i64 0]) ∧ OwnAt w' w.heap.size 5 s ((leB v n).map b8) ∧ Below w.heap.size w w' := by
  have hn1 : ¬ (n : Int) < 1 := by omega
  have hn8 : ¬ 8 < (n : Int) := by omega
  have hd : v / 2 ^ (8 * n) = 0 := Nat.div_eq_of_lt hv
  have hd2 : (v : Int) / 2 ^ (8 * n) = 0 := by
    have h : ((v / 2 ^ (8 * n) : Nat) : Int) = 0 := by rw [hd]; rfl
    rw [Int.natCast_ediv, Int.natCast_pow] at h
    exact h
  have HM := make_u8 w n (by omega)
  go_enter Try.func43, Try.ntmps43
  go_wp2_with fail
  all_goals
    clear hd hd2 hv HM
    have hfr : Blk (w.alloc (.cells (Array.replicate n (b8 0)) 5)) w.heap.size 5 (fillC b8 0 n (leB v 0)) := Blk.of_eq (Blk.new_ rfl) (by rw [zeros_arr]; unfold fillC leB; simp)
    have hbl : Below w.heap.size w (w.alloc (.cells (Array.replicate n (b8 0)) 5)) := by go_grown
    generalize w.alloc (.cells (Array.replicate n (b8 0)) 5) = w1 at hfr hbl ⊢
    have H1 := Lib.hid hfr
    have H2 := Lib.hid hbl
    clear hfr hbl
    go_loopw [29] (fun j wr => ∃ i : Nat, i ≤ n ∧ j = .int .i64 (i : Nat) ∧ Blk wr w.heap.size 5 (fillC b8 0 n (leB v i)) ∧ Below w.heap.size w wr) (fun j _ => n - (intOf j).toNat)
    case atStart => exact ⟨0, by omega, rfl, H1.out, H2.out⟩
    case round =>
      clear H1 H2
      obtain ⟨i, hi, rfl, hO, hb⟩ := hrel
      rcases Nat.lt_or_ge i n with hin | hin
      · have hi0 : (i : Int) < (n : Int) := by omega
        have hln := leB_len v i
        have c1 : wr.cell? ⟨w.heap.size, i, none⟩ = some (.int .u8 0) := by
          have h := fillC_at (f := b8) (z := 0) (n := n) (l := leB v i) (by rw [hln]; exact hin)
          rw [hln] at h
          rw [hO.cell]; exact h
        have f1 := hO.frozen
        have HO := Lib.hid hO
        have HB := Lib.hid hb
        have HN := Lib.hid hln
        clear hO hb hln
        go_wp2_with fail
        rw [byteAt_val]
        go_roundw
        case rel =>
          refine ⟨i + 1, by omega, by go_num, ?_, HB.out.setCell (Nat.le_refl _) _⟩
          rw [leB_succ]
          have h := fillC_set (f := b8) (z := 0) (n := n) (l := leB v i) (byteAt v i) (by rw [HN.out]; exact hin)
          rw [HN.out] at h
          exact Blk.of_eq (HO.out.set_ i _) h
        case measure => simp [intOf]; omega
      · obtain rfl : i = n := by omega
        have hO' := OwnAt.of_blk (base := w.heap.size) (Blk.of_eq hO (fillC_full (leB_len v i))) (Nat.le_refl _) (by rw [leB_len]; unfold maxLen; omega)
        rw [leB_len] at hO'
        have HO := Lib.hid hO'
        have HB := Lib.hid hb
        clear hO' hO hb
        go_wp2_with fail
        go_ret2
        exact ⟨_, rfl, HO.out, HB.out⟩
end Go.Proofs.Ytfamififoifagaa
