/- Contracts of sha's schedule. -/
import Derived.Test.YtfamififoifagaaShaW2
import Derived.Test.YtfamififoifagaaBase2
import Derived.Handy
import Derived.StillTailTactics
import Derived.BigQuiet
import Derived.Deep.RegionHeld3
namespace Go.Proofs.Ytfamififoifagaa
open Go.RowKit Words

/-- the word i of a block -/
def be32 (b : List UInt8) (i : Nat) : UInt32 :=
  (b.getD (4 * i) 0).toUInt32 <<< 24 ||| (b.getD (4 * i + 1) 0).toUInt32 <<< 16 ||| (b.getD (4 * i + 2) 0).toUInt32 <<< 8 ||| (b.getD (4 * i + 3) 0).toUInt32
def schedNext (l : List UInt32) : UInt32 :=
  (rots (l.getD (l.length - 2) 0) [17, 19] ^^^ (l.getD (l.length - 2) 0) >>> 10) + l.getD (l.length - 7) 0 + (rots (l.getD (l.length - 15) 0) [7, 18] ^^^ (l.getD (l.length - 15) 0) >>> 3) + l.getD (l.length - 16) 0
def schedL (b : List UInt8) : Nat → List UInt32
  | 0 => []
  | i + 1 => schedL b i ++ [if i < 16 then be32 b i else schedNext (schedL b i)]
theorem schedL_len (b : List UInt8) (i : Nat) : (schedL b i).length = i := by
  induction i with
  | zero => rfl
  | succ i ih => simp [schedL, ih]

theorem getD_get {α : Type} (l : List α) (k : Nat) (d : α) (h : k < l.length) : l.getD k d = l[k] := by
  rw [List.getD_eq_getElem?_getD, List.getElem?_eq_getElem h, Option.getD_some]

attribute [local go_sem low] frozen?_alloc_cells World.cell?_alloc_some
attribute [local go_sem high] Words.vadd32 Words.vand32 Words.vor32 Words.vxor32 Words.vnot32 Words.vshl32 Words.vshr32 cv8to32

set_option maxRecDepth 100000 in
set_option maxHeartbeats 1000000 in
theorem schedule_calls (b : List UInt8) (hbl : b.length = 64) (w : World) :
    Calls Try.prog 80 #[.agg (arrC b8 b)] w fun e w' => e = .returned (.agg (arrC v32 (schedL b 64))) ∧ Below w.heap.size w w' := by
  go_enter Try.func80, Try.ntmps80
  go_wp2
  go_loopw [7] (fun j wr => ∃ i : Nat, i ≤ 64 ∧ j = .int .i64 (i : Nat) ∧ Blk wr w.heap.size 104 (arrC b8 b) ∧
      Blk wr (w.heap.size + 1) 113 (fillC v32 0 64 (schedL b i)) ∧ Below w.heap.size w wr) (fun j _ => 64 - (intOf j).toNat)
  case atStart => exact ⟨0, by omega, rfl, (Blk.new _ _ _).alloc _, Blk.new_ (by simp), by go_grown⟩
  case round =>
    obtain ⟨i, hi, rfl, C0, C1, hb⟩ := hrel
    have l0 := C0.lt
    have l1 := C1.lt
    rcases Nat.lt_or_ge i 64 with hlt | hge
    · have n0 := schedL_len b i
      have N0 := Lib.hid n0
      have c1 : wr.cell? ⟨w.heap.size + 1, i, none⟩ = some (v32 0) := by rw [C1.cell]; have := fillC_at (f := v32) (z := 0) (n := 64) (l := schedL b i) (by rw [n0]; exact hlt); rwa [n0] at this
      have f1 := C1.frozen i
      have S := Lib.hid (show schedL b (i + 1) = schedL b i ++ [if i < 16 then be32 b i else schedNext (schedL b i)] from rfl)
      by_cases h16 : i < 16
      · have X : ∀ j, j < 4 → wr.cell? ⟨w.heap.size, 4 * i + j, none⟩ = some (.int .u8 ((b.getD (4 * i + j) 0).toNat : Int)) := by
          intro j hj
          rw [C0.cell, arrC_at (by omega), getD_get _ _ _ (by omega)]; rfl
        have x0 := X 0 (by omega)
        have x1 := X 1 (by omega)
        have x2 := X 2 (by omega)
        have x3 := X 3 (by omega)
        rw [Nat.add_zero] at x0
        have E := Lib.hid (show be32 b i = (b.getD (4 * i) 0).toUInt32 <<< 24 ||| (b.getD (4 * i + 1) 0).toUInt32 <<< 16 ||| (b.getD (4 * i + 2) 0).toUInt32 <<< 8 ||| (b.getD (4 * i + 3) 0).toUInt32 from rfl)
        generalize b.getD (4 * i) 0 = y0 at x0 E
        generalize b.getD (4 * i + 1) 0 = y1 at x1 E
        generalize b.getD (4 * i + 2) 0 = y2 at x2 E
        generalize b.getD (4 * i + 3) 0 = y3 at x3 E
        have hI1 : (0 : Int) ≤ 4 * (i : Int) := by omega
        have hI2 : 4 * (i : Int) ≤ 4 * (i : Int) + 4 := by omega
        have hI3 : 4 * (i : Int) + 4 ≤ 64 := by omega
        have HC0 := Lib.hid C0
        have HC1 := Lib.hid C1
        clear C0 C1 n0 X
        go_wp2_with fail
        refine wp_region_still_tail 24 (by kernel_rfl) (by kernel_rfl) ?_
        change wpStill _ _ (World.drew _) (fun a' => wpList _ _ _ _ a' (World.drew _)) _ _
        simp only [List.take_succ_cons, List.take_zero, List.drop_succ_cons, List.drop_zero]
        repeat still_step
        refine wpStill_nil ?_
        go_wp2
        go_roundw
        case rel =>
          refine ⟨i + 1, by omega, by go_num, (HC0.out.far (p := ⟨w.heap.size + 1, i, none⟩) (by simp) _).drew, ?_, ?_⟩
          · rw [S.out, if_pos h16, ← fillC_set _ (by rw [N0.out]; exact hlt), N0.out, E.out]
            exact (HC1.out.set_ i _).drew
          · exact (hb.setCell (by simp) _).drew
        case measure => simp [intOf]; omega
      · have X : ∀ j, j < i → wr.cell? ⟨w.heap.size + 1, j, none⟩ = some (.int .u32 (V32 ((schedL b i).getD j 0))) := by
          intro j hj
          rw [C1.cell, fillC_old (by omega), getD_get _ _ _ (by omega)]; rfl
        have x2 := X (i - 2) (by omega)
        have x7 := X (i - 7) (by omega)
        have x15 := X (i - 15) (by omega)
        have x16 := X (i - 16) (by omega)
        have E := Lib.hid (show schedNext (schedL b i) = (rots ((schedL b i).getD ((schedL b i).length - 2) 0) [17, 19] ^^^ ((schedL b i).getD ((schedL b i).length - 2) 0) >>> 10) + (schedL b i).getD ((schedL b i).length - 7) 0 + (rots ((schedL b i).getD ((schedL b i).length - 15) 0) [7, 18] ^^^ ((schedL b i).getD ((schedL b i).length - 15) 0) >>> 3) + (schedL b i).getD ((schedL b i).length - 16) 0 from rfl)
        rw [n0] at E
        generalize (schedL b i).getD (i - 2) 0 = y2 at x2 E
        generalize (schedL b i).getD (i - 7) 0 = y7 at x7 E
        generalize (schedL b i).getD (i - 15) 0 = y15 at x15 E
        generalize (schedL b i).getD (i - 16) 0 = y16 at x16 E
        have hI0 : (i : Int) < 64 := by omega
        have hI1 : (0 : Int) ≤ (i : Int) - 2 := by omega
        have hI2 : (0 : Int) ≤ (i : Int) - 7 := by omega
        have hI3 : (0 : Int) ≤ (i : Int) - 15 := by omega
        have hI4 : (0 : Int) ≤ (i : Int) - 16 := by omega
        have HC0 := Lib.hid C0
        have HC1 := Lib.hid C1
        clear C0 C1 n0 X
        go_wp2_with fail
        go_quiet (fail)
        go_wp2_with fail
        have q7 : IntKind.i64.wrap ((i : Int) - 7) = (i : Int) - 7 := IntWalk.i64_in _ (by omega)
        have q16 : IntKind.i64.wrap ((i : Int) - 16) = (i : Int) - 16 := IntWalk.i64_in _ (by omega)
        have r7 : (i : Int) - 7 < 64 := by omega
        have r16 : (i : Int) - 16 < 64 := by omega
        have t7 : (7 : Int) ≤ (i : Int) := by omega
        have t16 : (16 : Int) ≤ (i : Int) := by omega
        have u7 : (i : Int) < 71 := by omega
        have u16 : (i : Int) < 80 := by omega
        have s7 : ((i : Int) - 7).toNat = i - 7 := by omega
        have s16 : ((i : Int) - 16).toNat = i - 16 := by omega
        go_region_held3 (fun w' => w'.cell? ⟨w.heap.size + 1, i - 7, none⟩ = some (.int .u32 (V32 y7)) ∧ w'.cell? ⟨w.heap.size + 1, i - 16, none⟩ = some (.int .u32 (V32 y16)))
          (first | go_keep | (refine ⟨?_, ?_⟩ <;> (rw [World.cell?_alloc_lt _ _ _ (by first | (simp; done) | (simp; omega)), World.cell?_setCell_other _ _ _ _ (by first | (simp; done) | (simp; omega))]; simp [*, World.cell?_alloc_some])))
          (first
            | (go_at_call 81; ((with_reducible refine (rotr_17_19 y2 (t := 3) ?_).mono ?_); (first | exact Blk.new_ (by first | rfl | simp) | exact (Blk.new_ (by first | rfl | simp)).alloc _); rintro e w' ⟨rfl, rfl⟩))
            | (go_at_call 81; ((with_reducible refine (rotr_7_18 y15 (t := 3) ?_).mono ?_); (first | exact Blk.new_ (by first | rfl | simp) | exact (Blk.new_ (by first | rfl | simp)).alloc _); rintro e w' ⟨rfl, rfl⟩)))
        all_goals
          clear q7 q16 r7 r16 s7 s16 t7 t16 u7 u16
          have hb' := below_drewN hb (nq + 1)
          go_wp2
          go_roundw
          case rel =>
            refine ⟨i + 1, by omega, by go_num, ?_, ?_, ?_⟩
            · repeat' (first | exact HC0.out | (with_reducible refine Blk.alloc ?_ _) | (with_reducible refine Blk.far ?_ (by first | (simp; done) | (simp; omega)) _) | (with_reducible refine Blk.drewN ?_ _))
            · rw [S.out, if_neg h16, ← fillC_set _ (by rw [N0.out]; exact hlt), N0.out, E.out]
              repeat' (first | exact HC1.out | (with_reducible refine Blk.alloc ?_ _) | (with_reducible refine Blk.drewN ?_ _) | (refine Blk.set_ ?_ _ _))
            · go_grown
          case measure => simp [intOf]; omega
    · obtain rfl : i = 64 := by omega
      rw [fillC_full (schedL_len b 64)] at C1
      have s1 : Hid ((arrC v32 (schedL b 64)).size = 64) := by rw [arrC_size, schedL_len]; rfl
      have o1 := Lib.hid (arrC_one (f := v32) (l := schedL b 64) v32_one)
      have H1 := Lib.hid C1
      clear C0 C1
      go_wp2_with (first
        | (with_reducible refine wpList_load_all rfl 113 (.tmp 2) rfl rfl H1.out Try.underlying113 rfl (by rw [s1.out]; kernel_rfl) ?_)
        | (with_reducible refine wpList_store_part rfl 113 (.tmp 2) (.tmp 76) rfl rfl rfl H1.out (by rw [s1.out]; kernel_rfl) (by omega) o1.out ?_; intro w' hB' hg' hz'))
      rw [spl_all _ _ rfl] at hB'
      exact ret_row rfl rfl hB' Try.underlying113 rfl (by rw [s1.out]; kernel_rfl) ⟨rfl, below_grown hb hg' (by omega)⟩ rfl
end Go.Proofs.Ytfamififoifagaa
