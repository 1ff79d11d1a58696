/- Contracts of sha's wide integers. -/
import Derived.Test.YtfamififoifagaaRows
import Derived.Test.YtfamififoifagaaWords
import Derived.Test.YtfamififoifagaaBase
import Derived.Test.YtfamififoifagaaShelf
import Derived.WalkKit
import Derived.WalkSpells
import Derived.WalkLawsBesides
import Derived.Lib.Hide
import Derived.Handy
import Derived.StillTailTactics
namespace Go.Proofs.Ytfamififoifagaa
open Go.RowKit Words

/-- a number of 64 bits -/
def W64 (n : Nat) : Prop := n < 18446744073709551616
def mulHi (x n : Nat) : Nat := x * n / 18446744073709551616
def mulLo (x n : Nat) : Nat := x * n % 18446744073709551616
def addC (x n c : Nat) : Nat := (mulLo x n + c) / 18446744073709551616
def tC (x n c : Nat) : Nat := (x * n + c) / 18446744073709551616
def tO (x n c : Nat) : Nat := (x * n + c) % 18446744073709551616

theorem tC_eq (x n c : Nat) : mulHi x n + addC x n c = tC x n c := by unfold addC mulHi mulLo tC; generalize x * n = p; omega
theorem tO_eq (x n c : Nat) : (mulLo x n + c) % 18446744073709551616 = tO x n c := by unfold mulLo tO; generalize x * n = p; omega
theorem tO_lt (x n c : Nat) : W64 (tO x n c) := Nat.mod_lt _ (by omega)
theorem tC_lt (x n c : Nat) (hx : W64 x) (hn : W64 n) (hc : W64 c) : W64 (tC x n c) := by
  unfold W64 at *
  have h1 : x * n ≤ 18446744073709551615 * 18446744073709551615 := Nat.mul_le_mul (by omega) (by omega)
  unfold tC
  generalize x * n = p at *
  omega

theorem mul_calls (x y : Nat) (hx : W64 x) (hy : W64 y) (w : World) :
    Calls Try.prog 67 #[.int .u64 x, .int .u64 y] w fun e w' => e = .returned (.tuple #[.int .u64 (mulHi x y : Nat), .int .u64 (mulLo x y : Nat)]) ∧ w = w' :=
  (Try.bits_Mul64 x y hx hy w).mono fun _ _ h => ⟨h.1, h.2.symm⟩

theorem add_call (x n c : Nat) (w : World) :
    (callFunc 84 #[.int .u64 (mulLo x n : Nat), .int .u64 (c : Nat), .int .u64 0]).run Try.prog w = .ok (.value (.tuple #[.int .u64 (tO x n c : Nat), .int .u64 (addC x n c : Nat)])) w := by
  rw [run_callFunc_extern (e := add64Entry) Try.func84 (by kernel_rfl) (by kernel_rfl) (by kernel_rfl) (by kernel_rfl), run_add64 _ _ _ (by omega) (by omega) (by omega) (by omega)]
  simp only [Result.andThen_ok]
  have h1 : ((mulLo x n : Nat) : Int) + (c : Nat) + 0 = ((mulLo x n + c : Nat) : Int) := by omega
  rw [h1, ← tO_eq]
  rfl
theorem add_call0 (x n : Nat) (w : World) :
    (callFunc 84 #[.int .u64 (mulLo x n : Nat), .int .u64 0, .int .u64 0]).run Try.prog w = .ok (.value (.tuple #[.int .u64 (tO x n 0 : Nat), .int .u64 (addC x n 0 : Nat)])) w := add_call x n 0 w
theorem add_carry (t : TypeId) (x n c : Nat) (hx : W64 x) (hn : W64 n) (hc : W64 c) :
    binOp .add t (.int .u64 (mulHi x n : Nat)) (.int .u64 (addC x n c : Nat)) = pure (.int .u64 (tC x n c : Nat)) := by
  show (pure (Value.int .u64 (IntKind.u64.wrap (((mulHi x n : Nat) : Int) + ((addC x n c : Nat) : Int)))) : Sem Value) = _
  rw [show (((mulHi x n : Nat) : Int) + ((addC x n c : Nat) : Int)) = ((tC x n c : Nat) : Int) from by rw [← tC_eq]; omega, Words.wrap64, Nat.mod_eq_of_lt (tC_lt x n c hx hn hc)]

attribute [local go_sem high] add_call add_call0 add_carry

theorem ix3 (x0 x1 x2 : Value) (w : World) : (Instr.index 152 (.agg #[x0, x1, x2]) (.int .i64 0)).run Try.prog w = .ok x0 w ∧
    (Instr.index 152 (.agg #[x0, x1, x2]) (.int .i64 1)).run Try.prog w = .ok x1 w ∧ (Instr.index 152 (.agg #[x0, x1, x2]) (.int .i64 2)).run Try.prog w = .ok x2 w :=
  ⟨by kernel_rfl, by kernel_rfl, by kernel_rfl⟩

def wide (a b c : Nat) : Value := .agg #[.int .u64 (a : Nat), .int .u64 (b : Nat), .int .u64 (c : Nat)]

set_option maxHeartbeats 400000 in
theorem times_any (a0 a1 a2 n : Nat) (h0 : W64 a0) (h1 : W64 a1) (h2 : W64 a2) (hn : W64 n) (w : World) :
    Calls Try.prog 77 #[.agg #[.int .u64 (a0 : Nat), .int .u64 (a1 : Nat), .int .u64 (a2 : Nat)], .int .u64 (n : Nat)] w fun e w' =>
      e = .returned (.agg #[.int .u64 (tO a0 n 0 : Nat), .int .u64 (tO a1 n (tC a0 n 0) : Nat), .int .u64 (tO a2 n (tC a1 n (tC a0 n 0)) : Nat)]) ∧ Below w.heap.size w w' := by
  have hz : W64 0 := by unfold W64; omega
  have k1 := tC_lt a0 n 0 h0 hn hz
  have k2 := tC_lt a1 n _ h1 hn k1
  have ix := fun x0 x1 x2 w => (ix3 x0 x1 x2 w).1
  have iy := fun x0 x1 x2 w => (ix3 x0 x1 x2 w).2.1
  have iz := fun x0 x1 x2 w => (ix3 x0 x1 x2 w).2.2
  go_enter Try.func77, Try.ntmps77
  go_wp2
  refine wp_loop_rounds 4 ?_
  rw [rounds_succ]
  go_wp2_with (go_at_call 67; refine (mul_calls a0 n h0 hn _).mono ?_; rintro e w' ⟨rfl, rfl⟩)
  rw [rounds_succ]
  go_wp2_with (go_at_call 67; refine (mul_calls a1 n h1 hn _).mono ?_; rintro e w' ⟨rfl, rfl⟩)
  rw [rounds_succ]
  go_wp2_with (go_at_call 67; refine (mul_calls a2 n h2 hn _).mono ?_; rintro e w' ⟨rfl, rfl⟩)
  rw [rounds_succ]
  go_wp2
  go_returns
  exact ⟨rfl, by go_grown⟩

/-- the number of a wide integer -/
structure Wd where
  a : Nat
  b : Nat
  c : Nat
def timesF (x : Wd) (n : Nat) : Wd := ⟨tO x.a n 0, tO x.b n (tC x.a n 0), tO x.c n (tC x.b n (tC x.a n 0))⟩
def Wd.ok (x : Wd) : Prop := W64 x.a ∧ W64 x.b ∧ W64 x.c
theorem timesF_ok (x : Wd) (n : Nat) : (timesF x n).ok := ⟨tO_lt _ _ _, tO_lt _ _ _, tO_lt _ _ _⟩
theorem times_calls (x : Wd) (n : Nat) (hx : x.ok) (hn : W64 n) (w : World) :
    Calls Try.prog 77 #[.agg #[.int .u64 (x.a : Nat), .int .u64 (x.b : Nat), .int .u64 (x.c : Nat)], .int .u64 (n : Nat)] w fun e w' =>
      e = .returned (.agg #[.int .u64 ((timesF x n).a : Nat), .int .u64 ((timesF x n).b : Nat), .int .u64 ((timesF x n).c : Nat)]) ∧ Below w.heap.size w w' :=
  times_any x.a x.b x.c n hx.1 hx.2.1 hx.2.2 hn w

def cubeF (x : Nat) : Wd := timesF (timesF ⟨x, 0, 0⟩ x) x
def squareF (x : Nat) : Wd := timesF ⟨x, 0, 0⟩ x
theorem zero64 : W64 0 := by unfold W64; omega
theorem cubeF_ok (x : Nat) : (cubeF x).ok := timesF_ok _ _
theorem squareF_ok (x : Nat) : (squareF x).ok := timesF_ok _ _

set_option maxHeartbeats 400000 in
theorem cube_calls (x : Nat) (hx : W64 x) (w : World) :
    Calls Try.prog 76 #[.int .u64 (x : Nat)] w fun e w' =>
      e = .returned (.agg #[.int .u64 ((cubeF x).a : Nat), .int .u64 ((cubeF x).b : Nat), .int .u64 ((cubeF x).c : Nat)]) ∧ Below w.heap.size w w' := by
  go_enter Try.func76, Try.ntmps76
  go_wp2_with fail
  refine (times_calls ⟨x, 0, 0⟩ x ⟨hx, zero64, zero64⟩ hx _).mono ?_
  rintro e w1 ⟨rfl, hb1⟩
  have B1 := (Blk.new w _ _).below hb1 (by simp)
  have hz : w.heap.size < w1.heap.size := B1.lt
  go_wp2_with fail
  refine (times_calls _ x (timesF_ok _ _) hx _).mono ?_
  rintro e w2 ⟨rfl, hb2⟩
  have B2 := B1.below hb2 hz
  have c2 := B2.cell
  have f2 := B2.frozen
  clear B1
  have hb := below_step (below_step ((Below.refl _ w).alloc (Nat.le_refl _) _) hb1) hb2
  go_wp2_with fail
  refine ret_row rfl rfl (((B2.set_ 0 _).set_ 1 _).set_ 2 _) Try.underlying152 rfl (by kernel_rfl) ⟨rfl, ?_⟩ rfl
  go_grown

set_option maxHeartbeats 400000 in
theorem square_calls (x : Nat) (hx : W64 x) (w : World) :
    Calls Try.prog 79 #[.int .u64 (x : Nat)] w fun e w' =>
      e = .returned (.agg #[.int .u64 ((squareF x).a : Nat), .int .u64 ((squareF x).b : Nat), .int .u64 ((squareF x).c : Nat)]) ∧ Below w.heap.size w w' := by
  go_enter Try.func79, Try.ntmps79
  go_wp2_with fail
  refine (times_calls ⟨x, 0, 0⟩ x ⟨hx, zero64, zero64⟩ hx _).mono ?_
  rintro e w1 ⟨rfl, hb1⟩
  have B1 := (Blk.new w _ _).below hb1 (by simp)
  have hz : w.heap.size < w1.heap.size := B1.lt
  have c1 := B1.cell
  have f1 := B1.frozen
  have hb := below_step ((Below.refl _ w).alloc (Nat.le_refl _) _) hb1
  go_wp2_with fail
  refine ret_row rfl rfl (((B1.set_ 0 _).set_ 1 _).set_ 2 _) Try.underlying152 rfl (by kernel_rfl) ⟨rfl, ?_⟩ rfl
  go_grown

/-- a exceeds b -/
def aboveB (x y : Wd) : Bool := decide (y.c < x.c) || (x.c == y.c && (decide (y.b < x.b) || (x.b == y.b && decide (y.a < x.a))))
def cmpI (x y : Nat) : Int := if x < y then -1 else if y < x then 1 else 0

set_option maxHeartbeats 400000 in
theorem cmp_calls (x y : Nat) (w : World) :
    Calls Try.prog 89 #[.int .u64 (x : Nat), .int .u64 (y : Nat)] w fun e w' => e = .returned (.int .i64 (cmpI x y)) ∧ w' = w := by
  by_cases h1 : x < y
  · have h : cmpI x y = -1 := by simp [cmpI, h1]
    have H := Lib.hid h
    clear h
    go_enter Try.func89, Try.ntmps89
    go_wp2
    go_ret
    exact ⟨by rw [H.out]; rfl, rfl⟩
  · by_cases h2 : y < x
    · have h : cmpI x y = 1 := by simp [cmpI, h1, h2]
      have H := Lib.hid h
      clear h
      go_enter Try.func89, Try.ntmps89
      go_wp2
      go_ret
      exact ⟨by rw [H.out]; rfl, rfl⟩
    · have h : cmpI x y = 0 := by simp [cmpI, h1, h2]
      have H := Lib.hid h
      clear h
      go_enter Try.func89, Try.ntmps89
      go_wp2
      go_ret
      exact ⟨by rw [H.out]; rfl, rfl⟩

def orI (a b c : Int) : Int := if a ≠ 0 then a else if b ≠ 0 then b else c
theorem above_or (x y : Wd) : decide (0 < orI (cmpI x.c y.c) (cmpI x.b y.b) (cmpI x.a y.a)) = aboveB x y := by
  have d : ∀ p q : Nat, (p < q ∧ cmpI p q = -1) ∨ (p = q ∧ cmpI p q = 0) ∨ (q < p ∧ cmpI p q = 1) := by
    intro p q; unfold cmpI; omega
  unfold orI aboveB
  rcases d x.c y.c with ⟨h, e⟩ | ⟨h, e⟩ | ⟨h, e⟩ <;> rw [e] <;>
    rcases d x.b y.b with ⟨h', e'⟩ | ⟨h', e'⟩ | ⟨h', e'⟩ <;> rw [e'] <;>
    rcases d x.a y.a with ⟨h2, e2⟩ | ⟨h2, e2⟩ | ⟨h2, e2⟩ <;> rw [e2] <;> simp <;> omega

set_option maxHeartbeats 400000 in
theorem or_calls (a b c : Int) (g : Nat) (w : World) (h0 : w.cell? ⟨g, 0, none⟩ = some (.int .i64 a)) (h1 : w.cell? ⟨g, 1, none⟩ = some (.int .i64 b)) (h2 : w.cell? ⟨g, 2, none⟩ = some (.int .i64 c)) :
    Calls Try.prog 88 #[.slice (some ⟨g, 0, none⟩) 3 3] w fun e w' => e = .returned (.int .i64 (orI a b c)) ∧ w' = w := by
  have h : orI a b c = if a ≠ 0 then a else if b ≠ 0 then b else c := rfl
  have H := Lib.hid h
  clear h
  cases ha : (a != 0) with
  | true =>
    have E : Hid (orI a b c = a) := by rw [H.out, if_pos (by simpa using ha)]; rfl
    go_enter Try.func88, Try.ntmps88
    go_wp2
    refine wp_loop_rounds 4 ?_
    rw [rounds_succ]
    go_wp2
    go_ret
    exact ⟨by rw [E.out]; rfl, rfl⟩
  | false =>
    have ha0 : a = 0 := by simpa using ha
    cases hb : (b != 0) with
    | true =>
      have E : Hid (orI a b c = b) := by rw [H.out, if_neg (by simpa using ha), if_pos (by simpa using hb)]; rfl
      clear ha0
      go_enter Try.func88, Try.ntmps88
      go_wp2
      refine wp_loop_rounds 4 ?_
      rw [rounds_succ]
      go_wp2
      rw [rounds_succ]
      go_wp2
      go_ret
      exact ⟨by rw [E.out]; rfl, rfl⟩
    | false =>
      have E : Hid (orI a b c = c) := by rw [H.out, if_neg (by simpa using ha), if_neg (by simpa using hb)]; rfl
      clear ha0
      cases hc : (c != 0) with
      | true =>
        go_enter Try.func88, Try.ntmps88
        go_wp2
        refine wp_loop_rounds 4 ?_
        rw [rounds_succ]
        go_wp2
        rw [rounds_succ]
        go_wp2
        rw [rounds_succ]
        go_wp2
        go_ret
        exact ⟨by rw [E.out]; rfl, rfl⟩
      | false =>
        have hc0 := Lib.hid (show c = 0 by simpa using hc)
        go_enter Try.func88, Try.ntmps88
        go_wp2
        refine wp_loop_rounds 4 ?_
        rw [rounds_succ]
        go_wp2
        rw [rounds_succ]
        go_wp2
        rw [rounds_succ]
        go_wp2
        rw [rounds_succ]
        go_wp2
        go_ret
        exact ⟨by rw [E.out, hc0.out]; rfl, rfl⟩

set_option maxRecDepth 100000 in
set_option maxHeartbeats 400000 in
theorem above_calls (x y : Wd) (w : World) :
    Calls Try.prog 85 #[.agg #[.int .u64 (x.a : Nat), .int .u64 (x.b : Nat), .int .u64 (x.c : Nat)], .agg #[.int .u64 (y.a : Nat), .int .u64 (y.b : Nat), .int .u64 (y.c : Nat)]] w fun e w' =>
      e = .returned (.bool (aboveB x y)) ∧ Below w.heap.size w w' := by
  have H := Lib.hid (above_or x y)
  go_enter Try.func85, Try.ntmps85
  go_wp2_with fail
  refine wp_region_still_tail 15 (by kernel_rfl) (by kernel_rfl) ?_
  change wpStill _ _ (World.drew _) (fun a' => wpList _ _ _ _ a' (World.drew _)) _ _
  simp only [List.take_succ_cons, List.take_zero, List.drop_succ_cons, List.drop_zero]
  repeat (first | still_step | still_call (cmp_calls _ _ _))
  refine wpStill_nil ?_
  go_wp2_with fail
  refine (or_calls (cmpI x.c y.c) (cmpI x.b y.b) (cmpI x.a y.a) _ _ ?_ ?_ ?_).mono ?_
  · go_simp
  · go_simp
  · go_simp
  rintro e w' ⟨rfl, rfl⟩
  go_wp2
  go_ret
  exact ⟨congrArg (fun b => Ending.returned (Value.bool b)) H.out, by go_grown⟩

end Go.Proofs.Ytfamififoifagaa
