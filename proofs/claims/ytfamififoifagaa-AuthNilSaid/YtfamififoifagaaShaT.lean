/- Contracts of sha's stepped. -/
import Derived.Test.YtfamififoifagaaShaS
namespace Go.Proofs.Ytfamififoifagaa
open Go.RowKit Words

/-- a state of eight words -/
structure S8 where
  (a b c d e f g h : UInt32)
def S8.list (s : S8) : List UInt32 := [s.a, s.b, s.c, s.d, s.e, s.f, s.g, s.h]
def t1F (s : S8) (k w : UInt32) : UInt32 := s.h + rots s.e [6, 11, 25] + ((s.e &&& s.f) ^^^ (~~~s.e &&& s.g)) + k + w
def t2F (s : S8) : UInt32 := rots s.a [2, 13, 22] + ((s.a &&& s.b) ^^^ (s.a &&& s.c) ^^^ (s.b &&& s.c))
def roundF (s : S8) (k w : UInt32) : S8 := ⟨t1F s k w + t2F s, s.a, s.b, s.c, s.d + t1F s k w, s.e, s.f, s.g⟩
def roundsF (s : S8) (ks ws : List UInt32) : Nat → S8
  | 0 => s
  | i + 1 => roundF (roundsF s ks ws i) (ks.getD i 0) (ws.getD i 0)
def addS (s t : S8) : S8 := ⟨s.a + t.a, s.b + t.b, s.c + t.c, s.d + t.d, s.e + t.e, s.f + t.f, s.g + t.g, s.h + t.h⟩
def steppedF (s : S8) (b : List UInt8) (ks : List UInt32) : S8 := addS s (roundsF s ks (schedL b 64) 64)

attribute [local go_sem low] frozen?_alloc_cells World.cell?_alloc_some
attribute [local go_sem high] Words.vadd32 Words.vand32 Words.vor32 Words.vxor32 Words.vnot32 Words.vshl32 Words.vshr32

theorem Blk.set8 {w : World} {g : Nat} {t : TypeId} {x0 x1 x2 x3 x4 x5 x6 x7 y0 y1 y2 y3 y4 y5 y6 y7 : Value} (h : Blk w g t #[x0, x1, x2, x3, x4, x5, x6, x7]) : Blk ((((((((w.setCell ⟨g, 0, none⟩ y0).setCell ⟨g, 1, none⟩ y1).setCell ⟨g, 2, none⟩ y2).setCell ⟨g, 3, none⟩ y3).setCell ⟨g, 4, none⟩ y4).setCell ⟨g, 5, none⟩ y5).setCell ⟨g, 6, none⟩ y6).setCell ⟨g, 7, none⟩ y7) g t #[y0, y1, y2, y3, y4, y5, y6, y7] := by
  have h8 := (((((((h.set_ 0 y0).set_ 1 y1).set_ 2 y2).set_ 3 y3).set_ 4 y4).set_ 5 y5).set_ 6 y6).set_ 7 y7
  simp only [List.setIfInBounds_toArray, List.set_cons_zero, List.set_cons_succ] at h8
  exact h8
theorem ix8_0 (x0 x1 x2 x3 x4 x5 x6 x7 : Value) (w : World) : (Instr.index 112 (.agg #[x0, x1, x2, x3, x4, x5, x6, x7]) (.int .i64 0)).run Try.prog w = .ok x0 w := by kernel_rfl
theorem ix8_1 (x0 x1 x2 x3 x4 x5 x6 x7 : Value) (w : World) : (Instr.index 112 (.agg #[x0, x1, x2, x3, x4, x5, x6, x7]) (.int .i64 1)).run Try.prog w = .ok x1 w := by kernel_rfl
theorem ix8_2 (x0 x1 x2 x3 x4 x5 x6 x7 : Value) (w : World) : (Instr.index 112 (.agg #[x0, x1, x2, x3, x4, x5, x6, x7]) (.int .i64 2)).run Try.prog w = .ok x2 w := by kernel_rfl
theorem ix8_3 (x0 x1 x2 x3 x4 x5 x6 x7 : Value) (w : World) : (Instr.index 112 (.agg #[x0, x1, x2, x3, x4, x5, x6, x7]) (.int .i64 3)).run Try.prog w = .ok x3 w := by kernel_rfl
theorem ix8_4 (x0 x1 x2 x3 x4 x5 x6 x7 : Value) (w : World) : (Instr.index 112 (.agg #[x0, x1, x2, x3, x4, x5, x6, x7]) (.int .i64 4)).run Try.prog w = .ok x4 w := by kernel_rfl
theorem ix8_5 (x0 x1 x2 x3 x4 x5 x6 x7 : Value) (w : World) : (Instr.index 112 (.agg #[x0, x1, x2, x3, x4, x5, x6, x7]) (.int .i64 5)).run Try.prog w = .ok x5 w := by kernel_rfl
theorem ix8_6 (x0 x1 x2 x3 x4 x5 x6 x7 : Value) (w : World) : (Instr.index 112 (.agg #[x0, x1, x2, x3, x4, x5, x6, x7]) (.int .i64 6)).run Try.prog w = .ok x6 w := by kernel_rfl
theorem ix8_7 (x0 x1 x2 x3 x4 x5 x6 x7 : Value) (w : World) : (Instr.index 112 (.agg #[x0, x1, x2, x3, x4, x5, x6, x7]) (.int .i64 7)).run Try.prog w = .ok x7 w := by kernel_rfl

theorem addS_cells (s r : S8) : arrC v32 (addS s r).list = #[.int .u32 (V32 (s.a + r.a)), .int .u32 (V32 (s.b + r.b)), .int .u32 (V32 (s.c + r.c)), .int .u32 (V32 (s.d + r.d)), .int .u32 (V32 (s.e + r.e)), .int .u32 (V32 (s.f + r.f)), .int .u32 (V32 (s.g + r.g)), .int .u32 (V32 (s.h + r.h))] := by
  unfold addS S8.list arrC v32; rfl
theorem one8 {a b c d e f g h : UInt32} : ∀ v ∈ (#[.int .u32 (V32 a), .int .u32 (V32 b), .int .u32 (V32 c), .int .u32 (V32 d), .int .u32 (V32 e), .int .u32 (V32 f), .int .u32 (V32 g), .int .u32 (V32 h)] : Array Value).toList, v.oneCell' = true := by
  intro v hv
  simp only [List.mem_cons, List.not_mem_nil, or_false] at hv
  rcases hv with rfl | rfl | rfl | rfl | rfl | rfl | rfl | rfl <;> rfl
theorem S8_cells (t : S8) : arrC v32 t.list = #[.int .u32 (V32 t.a), .int .u32 (V32 t.b), .int .u32 (V32 t.c), .int .u32 (V32 t.d), .int .u32 (V32 t.e), .int .u32 (V32 t.f), .int .u32 (V32 t.g), .int .u32 (V32 t.h)] := rfl

set_option maxRecDepth 100000 in
set_option maxHeartbeats 2000000 in
theorem stepped_calls (s : S8) (b : List UInt8) (ks : List UInt32) (hbl : b.length = 64) (hkl : ks.length = 64) (w : World) :
    Calls Try.prog 72 #[.agg #[.int .u32 (V32 s.a), .int .u32 (V32 s.b), .int .u32 (V32 s.c), .int .u32 (V32 s.d), .int .u32 (V32 s.e), .int .u32 (V32 s.f), .int .u32 (V32 s.g), .int .u32 (V32 s.h)], .agg (arrC b8 b), .agg (arrC v32 ks)] w fun e w' => e = .returned (.agg (arrC v32 (steppedF s b ks).list)) ∧ Below w.heap.size w w' := by
  go_enter Try.func72, Try.ntmps72
  have zb : Hid ((arrC b8 b).size = 64) := by rw [arrC_size, hbl]; rfl
  go_wp2_with (with_reducible refine wpList_load_all rfl 104 (.tmp 4) rfl rfl (g := w.heap.size + 1) (t := 104) (cur := arrC b8 b) (((Blk.new_ (by simp)).alloc _).alloc _ |>.alloc _) Try.underlying104 rfl (by rw [zb.out]; kernel_rfl) ?_)
  refine (schedule_calls b hbl _).mono ?_
  rintro e w1 ⟨rfl, hb1⟩
  have hb := below_step (by go_grown) hb1 (a := w)
  have C0 : Blk w1 w.heap.size 112 #[.int .u32 (V32 s.a), .int .u32 (V32 s.b), .int .u32 (V32 s.c), .int .u32 (V32 s.d), .int .u32 (V32 s.e), .int .u32 (V32 s.f), .int .u32 (V32 s.g), .int .u32 (V32 s.h)] := (((((Blk.new_ (by simp)).alloc _).alloc _).alloc _).alloc _).below hb1 (by simp; omega)
  have C2 : Blk w1 (w.heap.size + 1 + 1) 113 (arrC v32 ks) := (((Blk.new_ (by simp)).alloc _).alloc _).below hb1 (by simp)
  have C3 : Blk w1 (w.heap.size + 1 + 1 + 1) 112 _ := ((Blk.new_ (by simp)).alloc _).below hb1 (by simp)
  have C4 : Blk w1 (w.heap.size + 1 + 1 + 1 + 1) 112 #[.int .u32 (V32 s.a), .int .u32 (V32 s.b), .int .u32 (V32 s.c), .int .u32 (V32 s.d), .int .u32 (V32 s.e), .int .u32 (V32 s.f), .int .u32 (V32 s.g), .int .u32 (V32 s.h)] := (Blk.new_ (by simp)).below hb1 (by simp)
  clear hb1
  go_wp2_with fail
  go_loopw [23] (fun j wr => ∃ i : Nat, i ≤ 64 ∧ j = .int .i64 (i : Nat) ∧ Blk wr w.heap.size 112 #[.int .u32 (V32 s.a), .int .u32 (V32 s.b), .int .u32 (V32 s.c), .int .u32 (V32 s.d), .int .u32 (V32 s.e), .int .u32 (V32 s.f), .int .u32 (V32 s.g), .int .u32 (V32 s.h)] ∧
      Blk wr (w.heap.size + 1 + 1) 113 (arrC v32 ks) ∧ Blk wr (w.heap.size + 1 + 1 + 1) 112 #[.int .u32 0, .int .u32 0, .int .u32 0, .int .u32 0, .int .u32 0, .int .u32 0, .int .u32 0, .int .u32 0] ∧
      Blk wr (w.heap.size + 1 + 1 + 1 + 1) 112 #[.int .u32 (V32 (roundsF s ks (schedL b 64) i).a), .int .u32 (V32 (roundsF s ks (schedL b 64) i).b), .int .u32 (V32 (roundsF s ks (schedL b 64) i).c), .int .u32 (V32 (roundsF s ks (schedL b 64) i).d), .int .u32 (V32 (roundsF s ks (schedL b 64) i).e), .int .u32 (V32 (roundsF s ks (schedL b 64) i).f), .int .u32 (V32 (roundsF s ks (schedL b 64) i).g), .int .u32 (V32 (roundsF s ks (schedL b 64) i).h)] ∧ Below w.heap.size w wr) (fun j _ => 64 - (intOf j).toNat)
  case atStart => exact ⟨0, by omega, rfl, C0, C2, C3, C4, hb⟩
  case round =>
    clear C0 C2 C3 C4 hb
    obtain ⟨i, hi, rfl, C0, C2, C3, C4, hb⟩ := hrel
    have l4 := C4.lt
    rcases Nat.lt_or_ge i 64 with hlt | hge
    · have hwl : i < (schedL b 64).length := by rw [schedL_len]; exact hlt
      have hix : ∀ wx, (Instr.index 113 (.agg (arrC v32 (schedL b 64))) (.int .i64 ((i : Nat) : Int))).run Try.prog wx = .ok (.int .u32 (V32 ((schedL b 64).getD i 0))) wx :=
        run_index_arr Try.underlying113 Try.underlying26 rfl (by kernel_rfl) _ _ _ _ hlt (by rw [arrC_at hwl, getD_get _ _ _ hwl]; rfl)
      have ck : wr.cell? ⟨w.heap.size + 1 + 1, i, none⟩ = some (.int .u32 (V32 (ks.getD i 0))) := by rw [C2.cell, arrC_at (by omega), getD_get _ _ _ (by omega)]; rfl
      have S := Lib.hid (show roundsF s ks (schedL b 64) (i + 1) = roundF (roundsF s ks (schedL b 64) i) (ks.getD i 0) ((schedL b 64).getD i 0) from rfl)
      generalize (schedL b 64).getD i 0 = y at hix S
      generalize ks.getD i 0 = k at ck S
      generalize roundsF s ks (schedL b 64) i = r at C4 S
      have hI : (i : Int) < 64 := by omega
      have c4 := C4.cell
      have f4 := C4.frozen
      have HC0 := Lib.hid C0
      have HC2 := Lib.hid C2
      have HC3 := Lib.hid C3
      have HC4 := Lib.hid C4
      clear C0 C2 C3 C4
      go_wp2_with fail
      go_quiet (fail)
      go_wp2_with fail
      go_region_held3 (fun w' => w'.cell? ⟨w.heap.size + 1 + 1 + 1 + 1, 7, none⟩ = some (.int .u32 (V32 r.h)) ∧ w'.cell? ⟨w.heap.size + 1 + 1, i, none⟩ = some (.int .u32 (V32 k)))
        (first | go_keep)
        (first
          | (go_at_call 81; ((with_reducible refine (rotr_6_11_25 r.e (t := 3) ?_).mono ?_); (first | exact Blk.new_ (by first | rfl | simp)); rintro e w' ⟨rfl, rfl⟩)))
      go_wp2_with (first
          | (go_at_call 81; ((with_reducible refine (rotr_2_13_22 r.a (t := 3) ?_).mono ?_); (first | exact Blk.new_ (by first | rfl | simp)); rintro e w' ⟨rfl, rfl⟩)))
      all_goals
        have hb' := below_drewN hb (nq + 1)
        go_roundw
        case rel =>
          refine ⟨i + 1, by omega, by go_num, ?_, ?_, ?_, ?_, ?_⟩
          · repeat' (first | with_reducible exact HC0.out | with_reducible apply Blk.alloc | with_reducible apply Blk.drewN | with_reducible apply Blk.drew | (with_reducible apply Blk.far (hp := by first | (simp; done) | (simp; omega))) | with_reducible apply Blk.set_)
          · repeat' (first | with_reducible exact HC2.out | with_reducible apply Blk.alloc | with_reducible apply Blk.drewN | with_reducible apply Blk.drew | (with_reducible apply Blk.far (hp := by first | (simp; done) | (simp; omega))) | with_reducible apply Blk.set_)
          · repeat' (first | with_reducible exact HC3.out | with_reducible apply Blk.alloc | with_reducible apply Blk.drewN | with_reducible apply Blk.drew | (with_reducible apply Blk.far (hp := by first | (simp; done) | (simp; omega))) | with_reducible apply Blk.set_)
          · rw [S.out]
            apply Blk.of_eq
            · repeat' (first | with_reducible exact HC4.out | with_reducible apply Blk.alloc | with_reducible apply Blk.drewN | with_reducible apply Blk.drew | (with_reducible apply Blk.far (hp := by first | (simp; done) | (simp; omega))) | with_reducible apply Blk.set_)
            · rfl
          · go_grown
        case measure => simp [intOf]; omega
    · obtain rfl : i = 64 := by omega
      have T := show steppedF s b ks = addS s (roundsF s ks (schedL b 64) 64) from rfl
      generalize roundsF s ks (schedL b 64) 64 = r at C4 T
      have HT := Lib.hid T
      clear T
      have c4 := C4.cell
      have c0 := C0.cell
      have f0 := C0.frozen
      have c3 := C3.cell
      have f3 := C3.frozen
      have i0 := ix8_0
      have i1 := ix8_1
      have i2 := ix8_2
      have i3 := ix8_3
      have i4 := ix8_4
      have i5 := ix8_5
      have i6 := ix8_6
      have i7 := ix8_7
      have HC0 := Lib.hid C0
      have HC3 := Lib.hid C3
      clear C0 C2 C3 C4
      go_wp2_with fail
      refine wp_loop_rounds 9 ?_
      iterate 8 (rw [rounds_succ]; go_wp2_with fail)
      rw [rounds_succ]
      go_wp2_with (first
        | (with_reducible refine wpList_load_all rfl 112 (.tmp 3) rfl rfl (g := w.heap.size) (t := 112) (cur := #[.int .u32 (V32 (s.a + r.a)), .int .u32 (V32 (s.b + r.b)), .int .u32 (V32 (s.c + r.c)), .int .u32 (V32 (s.d + r.d)), .int .u32 (V32 (s.e + r.e)), .int .u32 (V32 (s.f + r.f)), .int .u32 (V32 (s.g + r.g)), .int .u32 (V32 (s.h + r.h))]) (Blk.set8 HC0.out) Try.underlying112 rfl (by kernel_rfl) ?_)
        | (with_reducible refine wpList_store_part rfl 112 (.tmp 6) (.tmp 102) rfl rfl rfl (g := w.heap.size + 1 + 1 + 1) (t := 112) (cur := #[.int .u32 0, .int .u32 0, .int .u32 0, .int .u32 0, .int .u32 0, .int .u32 0, .int .u32 0, .int .u32 0]) (cells := #[.int .u32 (V32 (s.a + r.a)), .int .u32 (V32 (s.b + r.b)), .int .u32 (V32 (s.c + r.c)), .int .u32 (V32 (s.d + r.d)), .int .u32 (V32 (s.e + r.e)), .int .u32 (V32 (s.f + r.f)), .int .u32 (V32 (s.g + r.g)), .int .u32 (V32 (s.h + r.h))]) ((((((((HC3.out.far (by first | (simp; done) | (simp; omega)) _).far (by first | (simp; done) | (simp; omega)) _).far (by first | (simp; done) | (simp; omega)) _).far (by first | (simp; done) | (simp; omega)) _).far (by first | (simp; done) | (simp; omega)) _).far (by first | (simp; done) | (simp; omega)) _).far (by first | (simp; done) | (simp; omega)) _).far (by first | (simp; done) | (simp; omega)) _) (by kernel_rfl) (by simp) one8 ?_; intro w' hB' hg' hz'))
      rw [spl_all _ _ (by simp)] at hB'
      refine ret_row rfl rfl hB' Try.underlying112 rfl (by kernel_rfl) ⟨by rw [HT.out, addS_cells], ?_⟩ rfl
      exact below_grown (by go_grown) hg' (by omega)
end Go.Proofs.Ytfamififoifagaa
