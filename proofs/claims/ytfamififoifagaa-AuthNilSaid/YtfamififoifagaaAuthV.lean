/- Contracts of auth: whether a party is valid. -/
import Derived.Test.YtfamififoifagaaWireY
namespace Go.Proofs.Ytfamififoifagaa
open Go.RowKit Words

/-- the error of Pad -/
def padE (l : List UInt8) (n : Nat) : Int := if l.any nplB then 2 else if n < l.length then 5 else 0
theorem pad_any (s : ByteArray) (n : Nat) (w : World) (hs : s.size ≤ 1000000) (hn : n ≤ 1000000) :
    Calls Try.prog 39 #[.string s, .int .i64 (n : Int)] w (PadErr (padE s.data.toList n) w) := by
  unfold padE
  cases hp : s.data.toList.any nplB with
  | true => exact pad_bad s n w hs hn hp
  | false =>
    rcases Nat.lt_or_ge n s.size with h | h
    · rw [if_neg Bool.false_ne_true, if_pos (by rw [size_list]; exact h)]
      exact pad_long s n w hs hn hp h
    · rw [if_neg Bool.false_ne_true, if_neg (by rw [size_list]; omega)]
      refine (pad_ok s n w hn hp h).mono ?_
      rintro e w' ⟨A, c, rfl, _, hb⟩
      exact ⟨_, rfl, hb⟩
theorem pad_223 (s : ByteArray) (w : World) (hs : s.size ≤ 1000000) : Calls Try.prog 39 #[.string s, .int .i64 223] w (PadErr (padE s.data.toList 223) w) := pad_any s 223 w hs (by omega)
def nameB (s : ByteArray) : Bool := decide (padE s.data.toList 223 = 0) && !s.toList.isEmpty
def validB (n : Nat) (H S : ByteArray) : Bool := nameB H && (nameB S && (decide (1 ≤ n) && decide (n ≤ 64)))
def RetB (b : Bool) (w : World) (e : Ending) (w' : World) : Prop := e = .returned (.bool b) ∧ Below w.heap.size w w'

section
variable (n c : Nat) (A : Option Addr) (H S : ByteArray) (w : World) (hH : H.size ≤ 1000000) (hS : S.size ≤ 1000000)
include hH hS
set_option maxRecDepth 100000 in
set_option maxHeartbeats 1000000 in
theorem valid_h1 (h1 : ¬ padE H.data.toList 223 = 0) :
    Calls Try.prog 29 #[.agg #[.slice A n c, .string H, .string S]] w (RetB false w) := by
  have i0 : ∀ wx, (Instr.index 85 (.agg #[.string H, .string S]) (.int .i64 0)).run Try.prog wx = .ok (.string H) wx := fun _ => by kernel_rfl
  have i1 : ∀ wx, (Instr.index 85 (.agg #[.string H, .string S]) (.int .i64 1)).run Try.prog wx = .ok (.string S) wx := fun _ => by kernel_rfl
  have CH := Lib.hid fun wx => pad_223 H wx hH
  have CS := Lib.hid fun wx => pad_223 S wx hS
  go_enter Try.func29, Try.ntmps29
  go_wp2_with fail
  refine wp_loop_rounds 1 ?_; rw [rounds_succ]
  go_wp2_with (go_at_call 39; (with_reducible refine (CH.out _).mono ?_); rintro e w1 ⟨v1, rfl, hb1⟩)
  go_ret
  exact ⟨rfl, below_step ((Below.refl _ _).alloc (Nat.le_refl _) _) hb1⟩
set_option maxRecDepth 100000 in
set_option maxHeartbeats 1000000 in
theorem valid_h2 (h1 : padE H.data.toList 223 = 0) (h2 : H.toList.isEmpty = true) :
    Calls Try.prog 29 #[.agg #[.slice A n c, .string H, .string S]] w (RetB false w) := by
  have i0 : ∀ wx, (Instr.index 85 (.agg #[.string H, .string S]) (.int .i64 0)).run Try.prog wx = .ok (.string H) wx := fun _ => by kernel_rfl
  have i1 : ∀ wx, (Instr.index 85 (.agg #[.string H, .string S]) (.int .i64 1)).run Try.prog wx = .ok (.string S) wx := fun _ => by kernel_rfl
  have CH := Lib.hid fun wx => pad_223 H wx hH
  have CS := Lib.hid fun wx => pad_223 S wx hS
  go_enter Try.func29, Try.ntmps29
  go_wp2_with fail
  refine wp_loop_rounds 1 ?_; rw [rounds_succ]
  go_wp2_with (go_at_call 39; (with_reducible refine (CH.out _).mono ?_); rintro e w1 ⟨v1, rfl, hb1⟩)
  go_ret
  exact ⟨rfl, below_step ((Below.refl _ _).alloc (Nat.le_refl _) _) hb1⟩
set_option maxRecDepth 100000 in
set_option maxHeartbeats 1000000 in
theorem valid_s1 (h1 : padE H.data.toList 223 = 0) (h2 : H.toList.isEmpty = false) (h3 : ¬ padE S.data.toList 223 = 0) :
    Calls Try.prog 29 #[.agg #[.slice A n c, .string H, .string S]] w (RetB false w) := by
  have i0 : ∀ wx, (Instr.index 85 (.agg #[.string H, .string S]) (.int .i64 0)).run Try.prog wx = .ok (.string H) wx := fun _ => by kernel_rfl
  have i1 : ∀ wx, (Instr.index 85 (.agg #[.string H, .string S]) (.int .i64 1)).run Try.prog wx = .ok (.string S) wx := fun _ => by kernel_rfl
  have CH := Lib.hid fun wx => pad_223 H wx hH
  have CS := Lib.hid fun wx => pad_223 S wx hS
  go_enter Try.func29, Try.ntmps29
  go_wp2_with fail
  refine wp_loop_rounds 2 ?_; rw [rounds_succ]
  go_wp2_with (go_at_call 39; (with_reducible refine (CH.out _).mono ?_); rintro e w1 ⟨v1, rfl, hb1⟩)
  have hz1 := hb1.size
  have c10 : w1.cell? ⟨w.heap.size, 0, none⟩ = some (.slice A n c) := by rw [hb1.cell (p := ⟨w.heap.size, 0, none⟩) (by simp)]; rw [(Blk.new_ (w := w) (t := 52) (cs := #[.slice A n c, .string H, .string S]) rfl).cell]; rfl
  have c11 : w1.cell? ⟨w.heap.size, 1, none⟩ = some (.string H) := by rw [hb1.cell (p := ⟨w.heap.size, 1, none⟩) (by simp)]; rw [(Blk.new_ (w := w) (t := 52) (cs := #[.slice A n c, .string H, .string S]) rfl).cell]; rfl
  have c12 : w1.cell? ⟨w.heap.size, 2, none⟩ = some (.string S) := by rw [hb1.cell (p := ⟨w.heap.size, 2, none⟩) (by simp)]; rw [(Blk.new_ (w := w) (t := 52) (cs := #[.slice A n c, .string H, .string S]) rfl).cell]; rfl
  rw [rounds_succ]
  go_wp2_with (go_at_call 39; (with_reducible refine (CS.out _).mono ?_); rintro e w2 ⟨v2, rfl, hb2⟩)
  go_ret
  exact ⟨rfl, below_step (below_step ((Below.refl _ _).alloc (Nat.le_refl _) _) hb1) hb2⟩
set_option maxRecDepth 100000 in
set_option maxHeartbeats 1000000 in
theorem valid_s2 (h1 : padE H.data.toList 223 = 0) (h2 : H.toList.isEmpty = false) (h3 : padE S.data.toList 223 = 0) (h4 : S.toList.isEmpty = true) :
    Calls Try.prog 29 #[.agg #[.slice A n c, .string H, .string S]] w (RetB false w) := by
  have i0 : ∀ wx, (Instr.index 85 (.agg #[.string H, .string S]) (.int .i64 0)).run Try.prog wx = .ok (.string H) wx := fun _ => by kernel_rfl
  have i1 : ∀ wx, (Instr.index 85 (.agg #[.string H, .string S]) (.int .i64 1)).run Try.prog wx = .ok (.string S) wx := fun _ => by kernel_rfl
  have CH := Lib.hid fun wx => pad_223 H wx hH
  have CS := Lib.hid fun wx => pad_223 S wx hS
  go_enter Try.func29, Try.ntmps29
  go_wp2_with fail
  refine wp_loop_rounds 2 ?_; rw [rounds_succ]
  go_wp2_with (go_at_call 39; (with_reducible refine (CH.out _).mono ?_); rintro e w1 ⟨v1, rfl, hb1⟩)
  have hz1 := hb1.size
  have c10 : w1.cell? ⟨w.heap.size, 0, none⟩ = some (.slice A n c) := by rw [hb1.cell (p := ⟨w.heap.size, 0, none⟩) (by simp)]; rw [(Blk.new_ (w := w) (t := 52) (cs := #[.slice A n c, .string H, .string S]) rfl).cell]; rfl
  have c11 : w1.cell? ⟨w.heap.size, 1, none⟩ = some (.string H) := by rw [hb1.cell (p := ⟨w.heap.size, 1, none⟩) (by simp)]; rw [(Blk.new_ (w := w) (t := 52) (cs := #[.slice A n c, .string H, .string S]) rfl).cell]; rfl
  have c12 : w1.cell? ⟨w.heap.size, 2, none⟩ = some (.string S) := by rw [hb1.cell (p := ⟨w.heap.size, 2, none⟩) (by simp)]; rw [(Blk.new_ (w := w) (t := 52) (cs := #[.slice A n c, .string H, .string S]) rfl).cell]; rfl
  rw [rounds_succ]
  go_wp2_with (go_at_call 39; (with_reducible refine (CS.out _).mono ?_); rintro e w2 ⟨v2, rfl, hb2⟩)
  go_ret
  exact ⟨rfl, below_step (below_step ((Below.refl _ _).alloc (Nat.le_refl _) _) hb1) hb2⟩
set_option maxRecDepth 100000 in
set_option maxHeartbeats 1000000 in
theorem valid_n1 (h1 : padE H.data.toList 223 = 0) (h2 : H.toList.isEmpty = false) (h3 : padE S.data.toList 223 = 0) (h4 : S.toList.isEmpty = false) (h5 : n < 1) :
    Calls Try.prog 29 #[.agg #[.slice A n c, .string H, .string S]] w (RetB false w) := by
  have i0 : ∀ wx, (Instr.index 85 (.agg #[.string H, .string S]) (.int .i64 0)).run Try.prog wx = .ok (.string H) wx := fun _ => by kernel_rfl
  have i1 : ∀ wx, (Instr.index 85 (.agg #[.string H, .string S]) (.int .i64 1)).run Try.prog wx = .ok (.string S) wx := fun _ => by kernel_rfl
  have CH := Lib.hid fun wx => pad_223 H wx hH
  have CS := Lib.hid fun wx => pad_223 S wx hS
  have g5 : ¬ 1 ≤ (n : Int) := by omega
  go_enter Try.func29, Try.ntmps29
  go_wp2_with fail
  refine wp_loop_rounds 3 ?_; rw [rounds_succ]
  go_wp2_with (go_at_call 39; (with_reducible refine (CH.out _).mono ?_); rintro e w1 ⟨v1, rfl, hb1⟩)
  have hz1 := hb1.size
  have c10 : w1.cell? ⟨w.heap.size, 0, none⟩ = some (.slice A n c) := by rw [hb1.cell (p := ⟨w.heap.size, 0, none⟩) (by simp)]; rw [(Blk.new_ (w := w) (t := 52) (cs := #[.slice A n c, .string H, .string S]) rfl).cell]; rfl
  have c11 : w1.cell? ⟨w.heap.size, 1, none⟩ = some (.string H) := by rw [hb1.cell (p := ⟨w.heap.size, 1, none⟩) (by simp)]; rw [(Blk.new_ (w := w) (t := 52) (cs := #[.slice A n c, .string H, .string S]) rfl).cell]; rfl
  have c12 : w1.cell? ⟨w.heap.size, 2, none⟩ = some (.string S) := by rw [hb1.cell (p := ⟨w.heap.size, 2, none⟩) (by simp)]; rw [(Blk.new_ (w := w) (t := 52) (cs := #[.slice A n c, .string H, .string S]) rfl).cell]; rfl
  rw [rounds_succ]
  go_wp2_with (go_at_call 39; (with_reducible refine (CS.out _).mono ?_); rintro e w2 ⟨v2, rfl, hb2⟩)
  have hz2 := hb2.size
  have c20 : w2.cell? ⟨w.heap.size, 0, none⟩ = some (.slice A n c) := by rw [hb2.cell (p := ⟨w.heap.size, 0, none⟩) (by show w.heap.size < _; simp at hz1; omega)]; exact c10
  have c21 : w2.cell? ⟨w.heap.size, 1, none⟩ = some (.string H) := by rw [hb2.cell (p := ⟨w.heap.size, 1, none⟩) (by show w.heap.size < _; simp at hz1; omega)]; exact c11
  have c22 : w2.cell? ⟨w.heap.size, 2, none⟩ = some (.string S) := by rw [hb2.cell (p := ⟨w.heap.size, 2, none⟩) (by show w.heap.size < _; simp at hz1; omega)]; exact c12
  rw [rounds_succ]
  go_wp2_with fail
  go_ret
  exact ⟨rfl, below_step (below_step ((Below.refl _ _).alloc (Nat.le_refl _) _) hb1) hb2⟩
set_option maxRecDepth 100000 in
set_option maxHeartbeats 1000000 in
theorem valid_n2 (h1 : padE H.data.toList 223 = 0) (h2 : H.toList.isEmpty = false) (h3 : padE S.data.toList 223 = 0) (h4 : S.toList.isEmpty = false) (_h5 : 1 ≤ n) (h6 : 64 < n) :
    Calls Try.prog 29 #[.agg #[.slice A n c, .string H, .string S]] w (RetB false w) := by
  have i0 : ∀ wx, (Instr.index 85 (.agg #[.string H, .string S]) (.int .i64 0)).run Try.prog wx = .ok (.string H) wx := fun _ => by kernel_rfl
  have i1 : ∀ wx, (Instr.index 85 (.agg #[.string H, .string S]) (.int .i64 1)).run Try.prog wx = .ok (.string S) wx := fun _ => by kernel_rfl
  have CH := Lib.hid fun wx => pad_223 H wx hH
  have CS := Lib.hid fun wx => pad_223 S wx hS
  have g5 : 1 ≤ (n : Int) := by omega
  have g6 : ¬ (n : Int) ≤ 64 := by omega
  go_enter Try.func29, Try.ntmps29
  go_wp2_with fail
  refine wp_loop_rounds 3 ?_; rw [rounds_succ]
  go_wp2_with (go_at_call 39; (with_reducible refine (CH.out _).mono ?_); rintro e w1 ⟨v1, rfl, hb1⟩)
  have hz1 := hb1.size
  have c10 : w1.cell? ⟨w.heap.size, 0, none⟩ = some (.slice A n c) := by rw [hb1.cell (p := ⟨w.heap.size, 0, none⟩) (by simp)]; rw [(Blk.new_ (w := w) (t := 52) (cs := #[.slice A n c, .string H, .string S]) rfl).cell]; rfl
  have c11 : w1.cell? ⟨w.heap.size, 1, none⟩ = some (.string H) := by rw [hb1.cell (p := ⟨w.heap.size, 1, none⟩) (by simp)]; rw [(Blk.new_ (w := w) (t := 52) (cs := #[.slice A n c, .string H, .string S]) rfl).cell]; rfl
  have c12 : w1.cell? ⟨w.heap.size, 2, none⟩ = some (.string S) := by rw [hb1.cell (p := ⟨w.heap.size, 2, none⟩) (by simp)]; rw [(Blk.new_ (w := w) (t := 52) (cs := #[.slice A n c, .string H, .string S]) rfl).cell]; rfl
  rw [rounds_succ]
  go_wp2_with (go_at_call 39; (with_reducible refine (CS.out _).mono ?_); rintro e w2 ⟨v2, rfl, hb2⟩)
  have hz2 := hb2.size
  have c20 : w2.cell? ⟨w.heap.size, 0, none⟩ = some (.slice A n c) := by rw [hb2.cell (p := ⟨w.heap.size, 0, none⟩) (by show w.heap.size < _; simp at hz1; omega)]; exact c10
  have c21 : w2.cell? ⟨w.heap.size, 1, none⟩ = some (.string H) := by rw [hb2.cell (p := ⟨w.heap.size, 1, none⟩) (by show w.heap.size < _; simp at hz1; omega)]; exact c11
  have c22 : w2.cell? ⟨w.heap.size, 2, none⟩ = some (.string S) := by rw [hb2.cell (p := ⟨w.heap.size, 2, none⟩) (by show w.heap.size < _; simp at hz1; omega)]; exact c12
  rw [rounds_succ]
  go_wp2_with fail
  go_ret
  exact ⟨congrArg (fun b => Ending.returned (.bool b)) (decide_eq_false (p := (n : Int) ≤ 64) (by omega)), below_step (below_step ((Below.refl _ _).alloc (Nat.le_refl _) _) hb1) hb2⟩
set_option maxRecDepth 100000 in
set_option maxHeartbeats 1000000 in
theorem valid_ok (h1 : padE H.data.toList 223 = 0) (h2 : H.toList.isEmpty = false) (h3 : padE S.data.toList 223 = 0) (h4 : S.toList.isEmpty = false) (h5 : 1 ≤ n) (h6 : n ≤ 64) :
    Calls Try.prog 29 #[.agg #[.slice A n c, .string H, .string S]] w (RetB true w) := by
  have i0 : ∀ wx, (Instr.index 85 (.agg #[.string H, .string S]) (.int .i64 0)).run Try.prog wx = .ok (.string H) wx := fun _ => by kernel_rfl
  have i1 : ∀ wx, (Instr.index 85 (.agg #[.string H, .string S]) (.int .i64 1)).run Try.prog wx = .ok (.string S) wx := fun _ => by kernel_rfl
  have CH := Lib.hid fun wx => pad_223 H wx hH
  have CS := Lib.hid fun wx => pad_223 S wx hS
  have g5 : 1 ≤ (n : Int) := by omega
  have g6 : (n : Int) ≤ 64 := by omega
  go_enter Try.func29, Try.ntmps29
  go_wp2_with fail
  refine wp_loop_rounds 3 ?_; rw [rounds_succ]
  go_wp2_with (go_at_call 39; (with_reducible refine (CH.out _).mono ?_); rintro e w1 ⟨v1, rfl, hb1⟩)
  have hz1 := hb1.size
  have c10 : w1.cell? ⟨w.heap.size, 0, none⟩ = some (.slice A n c) := by rw [hb1.cell (p := ⟨w.heap.size, 0, none⟩) (by simp)]; rw [(Blk.new_ (w := w) (t := 52) (cs := #[.slice A n c, .string H, .string S]) rfl).cell]; rfl
  have c11 : w1.cell? ⟨w.heap.size, 1, none⟩ = some (.string H) := by rw [hb1.cell (p := ⟨w.heap.size, 1, none⟩) (by simp)]; rw [(Blk.new_ (w := w) (t := 52) (cs := #[.slice A n c, .string H, .string S]) rfl).cell]; rfl
  have c12 : w1.cell? ⟨w.heap.size, 2, none⟩ = some (.string S) := by rw [hb1.cell (p := ⟨w.heap.size, 2, none⟩) (by simp)]; rw [(Blk.new_ (w := w) (t := 52) (cs := #[.slice A n c, .string H, .string S]) rfl).cell]; rfl
  rw [rounds_succ]
  go_wp2_with (go_at_call 39; (with_reducible refine (CS.out _).mono ?_); rintro e w2 ⟨v2, rfl, hb2⟩)
  have hz2 := hb2.size
  have c20 : w2.cell? ⟨w.heap.size, 0, none⟩ = some (.slice A n c) := by rw [hb2.cell (p := ⟨w.heap.size, 0, none⟩) (by show w.heap.size < _; simp at hz1; omega)]; exact c10
  have c21 : w2.cell? ⟨w.heap.size, 1, none⟩ = some (.string H) := by rw [hb2.cell (p := ⟨w.heap.size, 1, none⟩) (by show w.heap.size < _; simp at hz1; omega)]; exact c11
  have c22 : w2.cell? ⟨w.heap.size, 2, none⟩ = some (.string S) := by rw [hb2.cell (p := ⟨w.heap.size, 2, none⟩) (by show w.heap.size < _; simp at hz1; omega)]; exact c12
  rw [rounds_succ]
  go_wp2_with fail
  go_ret
  exact ⟨rfl, below_step (below_step ((Below.refl _ _).alloc (Nat.le_refl _) _) hb1) hb2⟩
theorem valid_calls : Calls Try.prog 29 #[.agg #[.slice A n c, .string H, .string S]] w (RetB (validB n H S) w) := by
  unfold validB nameB
  by_cases h1 : padE H.data.toList 223 = 0
  · cases h2 : H.toList.isEmpty with
    | true => simpa [h1] using valid_h2 n c A H S w hH hS h1 h2
    | false =>
      by_cases h3 : padE S.data.toList 223 = 0
      · cases h4 : S.toList.isEmpty with
        | true => simpa [h1, h3] using valid_s2 n c A H S w hH hS h1 h2 h3 h4
        | false =>
          by_cases h5 : 1 ≤ n
          · by_cases h6 : n ≤ 64
            · simpa [h1, h3, h5, h6] using valid_ok n c A H S w hH hS h1 h2 h3 h4 h5 h6
            · simpa [h1, h3, h5, h6] using valid_n2 n c A H S w hH hS h1 h2 h3 h4 h5 (by omega)
          · simpa [h1, h3, h5] using valid_n1 n c A H S w hH hS h1 h2 h3 h4 (by omega)
      · simpa [h1, h3] using valid_s1 n c A H S w hH hS h1 h2 h3
  · simpa [h1] using valid_h1 n c A H S w hH hS h1
end
end Go.Proofs.Ytfamififoifagaa
