/- Contracts of sha's Constants. -/
import Derived.Test.YtfamififoifagaaShaR
import Derived.Test.YtfamififoifagaaShaP
import Derived.Deep.RegionLaw
import Derived.Test.YtfamififoifagaaWords2
namespace Go.Proofs.Ytfamififoifagaa
open Go.RowKit Words

def shl32 (p : Nat) : Nat := p * 4294967296
def rk (p : Nat) : UInt32 := UInt32.ofNat (rootF cubeF ⟨0, shl32 p, 0⟩)
def st (p : Nat) : UInt32 := UInt32.ofNat (rootF squareF ⟨0, p, 0⟩)
def PL : List Nat := psl 310
def RK : List UInt32 := PL.map rk
def ST : List UInt32 := (PL.take 8).map st
theorem PL_len : PL.length = 64 := psl_310
theorem PL_le : ∀ x ∈ PL, x ≤ 311 := fun x hx => (psl_mem 310 x hx).2
theorem RK_len : RK.length = 64 := by unfold RK; rw [List.length_map, PL_len]
theorem ST_len : ST.length = 8 := by unfold ST; rw [List.length_map, List.length_take, PL_len]; rfl

theorem to32 (n : Nat) : Conv.intToInt .u32 ((n : Nat) : Int) = pure (.int .u32 (V32 (UInt32.ofNat n))) := by
  show (pure (Value.int .u32 (IntKind.u32.wrap ((n : Nat) : Int))) : Sem Value) = _
  rw [Words.wrap32]; rfl
theorem shl64n (t : TypeId) (p : Nat) (hp : p ≤ 311) : binOp .shl t (.int .u64 ((p : Nat) : Int)) (.int .u64 32) = pure (.int .u64 ((shl32 p : Nat) : Int)) := by
  show (pure (Value.int .u64 (IntKind.u64.wrap (((p : Nat) : Int) * 2 ^ (min (32 : Int).toNat 64)))) : Sem Value) = _
  rw [show (((p : Nat) : Int) * 2 ^ (min (32 : Int).toNat 64)) = ((shl32 p : Nat) : Int) from by unfold shl32; simp, Words.wrap64, Nat.mod_eq_of_lt (by unfold shl32; omega)]

theorem v32_mod (n : Nat) : v32 (UInt32.ofNat n) = .int .u32 (((n : Nat) : Int) % 4294967296) := rfl
attribute [local go_sem high] shl64n

set_option maxRecDepth 100000 in
set_option maxHeartbeats 1000000 in
theorem constants_calls (w : World) :
    Calls Try.prog 71 #[] w fun e w' => e = .returned (.tuple #[.agg (arrC v32 RK), .agg (arrC v32 ST)]) ∧ Below w.heap.size w w' := by
  go_enter Try.func71, Try.ntmps71
  go_wp2_with fail
  refine (primes_calls _).mono ?_
  rintro e w1 ⟨rfl, hb1⟩
  have hb := below_step (((Below.refl _ w).alloc (Nat.le_refl _) _).alloc (by simp) _) hb1
  have B0 : Blk w1 w.heap.size 113 (fillC v32 0 64 []) := ((Blk.new w _ _).alloc _).below hb1 (by simp; omega)
  have B1 : Blk w1 (w.heap.size + 1) 112 (fillC v32 0 8 []) := (Blk.new_ (by simp)).below hb1 (by simp)
  clear hb1
  have hsz0 : w.heap.size + 1 < w1.heap.size := B1.lt
  go_wp2
  go_loopw [7] (fun j wr => ∃ i : Nat, i ≤ 64 ∧ j = .int .i64 (i : Nat) ∧ Blk wr w.heap.size 113 (fillC v32 0 64 ((PL.take i).map rk)) ∧
      Blk wr (w.heap.size + 1) 112 (fillC v32 0 8 ((PL.take (min i 8)).map st)) ∧ Below w.heap.size w wr) (fun j _ => 64 - (intOf j).toNat)
  case atStart => exact ⟨0, by omega, rfl, B0, B1, hb⟩
  case round =>
    clear B0 B1 hb hsz0
    obtain ⟨i, hi, rfl, C0, C1, hb⟩ := hrel
    have l0 := C0.lt
    have l1 := C1.lt
    rcases Nat.lt_or_ge i 64 with hlt | hge
    · have hp : i < PL.length := by rw [PL_len]; exact hlt
      have hle := PL_le _ (List.getElem_mem hp)
      have hix : ∀ wx, (Instr.index 149 (.agg (pcells (psl 310))) (.int .i64 ((i : Nat) : Int))).run Try.prog wx = .ok (.int .u64 ((PL[i] : Nat) : Int)) wx :=
        run_index_arr Try.underlying149 Try.underlying74 rfl (by kernel_rfl) _ _ _ _ hlt (pcells_old _ _ _ (by rw [List.getElem?_map]; exact congrArg _ (List.getElem?_eq_getElem hp)))
      have T := Lib.hid (List.take_succ_eq_append_getElem hp)
      have R := Lib.hid (show rk PL[i] = UInt32.ofNat (rootF cubeF ⟨0, shl32 PL[i], 0⟩) from rfl)
      have S := Lib.hid (show st PL[i] = UInt32.ofNat (rootF squareF ⟨0, PL[i], 0⟩) from rfl)
      generalize PL[i] = p at hle hix T R S
      have n0 : ((PL.take i).map rk).length = i := by rw [List.length_map, List.length_take]; omega
      have N0 := Lib.hid n0
      clear n0
      have HC0 := Lib.hid C0
      have HC1 := Lib.hid C1
      clear C0 C1
      by_cases h8 : i < 8
      · go_wp2_with fail
        refine (root_cube ⟨0, shl32 p, 0⟩ _).mono ?_
        rintro e w1 ⟨rfl, hb1⟩
        have D0 := HC0.out.below hb1 l0
        have D1 := HC1.out.below hb1 l1
        have c0 : w1.cell? ⟨w.heap.size, i, none⟩ = some (v32 0) := by rw [D0.cell]; have := fillC_at (f := v32) (z := 0) (n := 64) (l := (PL.take i).map rk) (by rw [N0.out]; exact hlt); rwa [N0.out] at this
        have f0 := D0.frozen i
        have l2 := D0.lt
        have l3 := D1.lt
        have hb2 := below_step hb hb1
        have HD0 := Lib.hid D0
        have HD1 := Lib.hid D1
        clear D0 D1 hb1
        go_wp2_with fail
        refine (root_square ⟨0, p, 0⟩ _).mono ?_
        rintro e w2 ⟨rfl, hb3⟩
        have D0' := HD0.out.set_ i (v32 (UInt32.ofNat (rootF cubeF ⟨0, shl32 p, 0⟩)))
        rw [v32_mod] at D0'
        have E0 := D0'.below hb3 (by simp; omega)
        have E1 := (HD1.out.far (p := ⟨w.heap.size, i, none⟩) (by simp) _).below hb3 (by simp; omega)
        have n1 : ((PL.take (min i 8)).map st).length = i := by rw [List.length_map, List.length_take]; omega
        have c1 : w2.cell? ⟨w.heap.size + 1, i, none⟩ = some (v32 0) := by rw [E1.cell]; have := fillC_at (f := v32) (z := 0) (n := 8) (l := (PL.take (min i 8)).map st) (by rw [n1]; exact h8); rwa [n1] at this
        have f1 := E1.frozen i
        have hb4 := below_step (hb2.setCell (p := ⟨w.heap.size, i, none⟩) (Nat.le_refl _) _) hb3
        have N1 := Lib.hid n1
        have HE0 := Lib.hid E0
        have HE1 := Lib.hid E1
        clear E0 E1 D0' hb3 c0 f0 n1 hix
        go_wp2_with fail
        go_roundw
        case rel =>
          refine ⟨i + 1, by omega, by go_num, ?_, ?_, ?_⟩
          · rw [T.out, List.map_append, List.map_cons, List.map_nil, ← fillC_set _ (by rw [N0.out]; exact hlt), N0.out, R.out, v32_mod]
            exact HE0.out.far (p := ⟨w.heap.size + 1, i, none⟩) (by simp) _
          · rw [show min (i + 1) 8 = i + 1 by omega, T.out, List.map_append]
            have h := HE1.out.set_ i (v32 (UInt32.ofNat (rootF squareF ⟨0, p, 0⟩)))
            rw [show min i 8 = i by omega] at h N1
            rw [show ((PL.take i).map st ++ List.map st [p]) = (PL.take i).map st ++ [UInt32.ofNat (rootF squareF ⟨0, p, 0⟩)] from by rw [List.map_cons, List.map_nil, S.out], ← fillC_set _ (by rw [N1.out]; exact h8), N1.out]
            exact h
          · exact hb4.setCell (by simp) _
        case measure => simp [intOf]; omega
      · go_wp2_with fail
        refine (root_cube ⟨0, shl32 p, 0⟩ _).mono ?_
        rintro e w1 ⟨rfl, hb1⟩
        have D0 := HC0.out.below hb1 l0
        have D1 := HC1.out.below hb1 l1
        have c0 : w1.cell? ⟨w.heap.size, i, none⟩ = some (v32 0) := by rw [D0.cell]; have := fillC_at (f := v32) (z := 0) (n := 64) (l := (PL.take i).map rk) (by rw [N0.out]; exact hlt); rwa [N0.out] at this
        have f0 := D0.frozen i
        have l2 := D0.lt
        have l3 := D1.lt
        have hb2 := below_step hb hb1
        have HD0 := Lib.hid D0
        have HD1 := Lib.hid D1
        clear D0 D1 hb1 hix
        go_wp2_with fail
        go_roundw
        case rel =>
          refine ⟨i + 1, by omega, by go_num, ?_, ?_, ?_⟩
          · rw [T.out, List.map_append, List.map_cons, List.map_nil, ← fillC_set _ (by rw [N0.out]; exact hlt), N0.out, R.out, v32_mod]
            exact HD0.out.set_ i _
          · rw [show min (i + 1) 8 = min i 8 by omega]
            exact HD1.out.far (p := ⟨w.heap.size, i, none⟩) (by simp) _
          · exact hb2.setCell (by simp) _
        case measure => simp [intOf]; omega
    · obtain rfl : i = 64 := by omega
      rw [List.take_of_length_le (by rw [PL_len]; omega), fillC_full (by rw [List.length_map, PL_len])] at C0
      rw [show min 64 8 = 8 from rfl, fillC_full (by rw [List.length_map, List.length_take, PL_len]; rfl)] at C1
      have H0 := Lib.hid (show Blk wr w.heap.size 113 (arrC v32 RK) from C0)
      have H1 := Lib.hid (show Blk wr (w.heap.size + 1) 112 (arrC v32 ST) from C1)
      have s0 : Hid ((arrC v32 RK).size = 64) := by rw [arrC_size, RK_len]; rfl
      have s1 : Hid ((arrC v32 ST).size = 8) := by rw [arrC_size, ST_len]; rfl
      have o0 := Lib.hid (arrC_one (f := v32) (l := RK) (fun _ => rfl))
      have o1 := Lib.hid (arrC_one (f := v32) (l := ST) (fun _ => rfl))
      clear C0 C1
      go_wp2_with fail
      refine wp_region_any (by kernel_rfl) ?_
      change wpAny _ _ _ _ _ _ _ (World.drew _)
      refine wpAny_ready (rs := [0, 1]) (by kernel_rfl) (by simp) ?_
      refine AllReady.cons rfl (fun K hK => ?_) ?_
      · refine step_load_all rfl 113 (.tmp 0) rfl rfl (w := wr.drew) H0.out Try.underlying113 rfl (by rw [s0.out]; kernel_rfl) ?_
        refine hK _ _ ?_
        clear hK K
        refine wpAny_ready (rs := [1, 2]) (by kernel_rfl) (by simp) ?_
        refine AllReady.cons rfl (fun K hK => ?_) ?_
        · refine step_load_all rfl 112 (.tmp 1) rfl rfl (w := wr.drew) H1.out Try.underlying112 rfl (by rw [s1.out]; kernel_rfl) ?_
          refine hK _ _ ?_
          clear hK K
          refine wpAny_ready (rs := [2]) (by kernel_rfl) (by simp) ?_
          refine AllReady.cons rfl (fun K hK => ?_) ?_
          · refine step_store_part rfl 113 (.tmp 0) (.tmp 29) rfl rfl rfl (w := wr.drew) H0.out (by rw [s0.out]; kernel_rfl) (by omega) o0.out ?_
            intro wa hA hgA hzA
            refine hK _ _ ?_
            clear hK K
            refine wpAny_ready (rs := [3]) (by kernel_rfl) (by simp) ?_
            refine AllReady.cons rfl (fun K hK => ?_) ?_
            · refine step_store_part rfl 112 (.tmp 1) (.tmp 30) rfl rfl rfl (w := wa) (Blk.grown (w := wr.drew) H1.out hgA (by simp)) (by rw [s1.out]; kernel_rfl) (by omega) o1.out ?_
              intro wb hC hgB hzB
              refine hK _ _ ?_
              clear hK K
              refine wpAny_done (by kernel_rfl) ?_ _
              go_wp2
              rw [spl_all _ _ rfl] at hA hC
              exact ret_row2 rfl rfl (hA.grown hgB (by simp)) Try.underlying113 rfl (by rw [s0.out]; kernel_rfl) rfl hC Try.underlying112 rfl (by rw [s1.out]; kernel_rfl) ⟨rfl, below_grown (below_grown hb.drew hgA (Nat.le_refl _)) hgB (by omega)⟩ rfl
            exact AllReady.nil
          exact AllReady.nil
        refine AllReady.cons rfl (fun K hK => ?_) ?_
        · refine step_store_part rfl 113 (.tmp 0) (.tmp 29) rfl rfl rfl (w := wr.drew) H0.out (by rw [s0.out]; kernel_rfl) (by omega) o0.out ?_
          intro wa hA hgA hzA
          refine hK _ _ ?_
          clear hK K
          refine wpAny_ready (rs := [1]) (by kernel_rfl) (by simp) ?_
          refine AllReady.cons rfl (fun K hK => ?_) ?_
          · refine step_load_all rfl 112 (.tmp 1) rfl rfl (w := wa) (Blk.grown (w := wr.drew) H1.out hgA (by simp)) Try.underlying112 rfl (by rw [s1.out]; kernel_rfl) ?_
            refine hK _ _ ?_
            clear hK K
            refine wpAny_ready (rs := [3]) (by kernel_rfl) (by simp) ?_
            refine AllReady.cons rfl (fun K hK => ?_) ?_
            · refine step_store_part rfl 112 (.tmp 1) (.tmp 30) rfl rfl rfl (w := wa) (Blk.grown (w := wr.drew) H1.out hgA (by simp)) (by rw [s1.out]; kernel_rfl) (by omega) o1.out ?_
              intro wb hC hgB hzB
              refine hK _ _ ?_
              clear hK K
              refine wpAny_done (by kernel_rfl) ?_ _
              go_wp2
              rw [spl_all _ _ rfl] at hA hC
              exact ret_row2 rfl rfl (hA.grown hgB (by simp)) Try.underlying113 rfl (by rw [s0.out]; kernel_rfl) rfl hC Try.underlying112 rfl (by rw [s1.out]; kernel_rfl) ⟨rfl, below_grown (below_grown hb.drew hgA (Nat.le_refl _)) hgB (by omega)⟩ rfl
            exact AllReady.nil
          exact AllReady.nil
        exact AllReady.nil
      refine AllReady.cons rfl (fun K hK => ?_) ?_
      · refine step_load_all rfl 112 (.tmp 1) rfl rfl (w := wr.drew) H1.out Try.underlying112 rfl (by rw [s1.out]; kernel_rfl) ?_
        refine hK _ _ ?_
        clear hK K
        refine wpAny_ready (rs := [0]) (by kernel_rfl) (by simp) ?_
        refine AllReady.cons rfl (fun K hK => ?_) ?_
        · refine step_load_all rfl 113 (.tmp 0) rfl rfl (w := wr.drew) H0.out Try.underlying113 rfl (by rw [s0.out]; kernel_rfl) ?_
          refine hK _ _ ?_
          clear hK K
          refine wpAny_ready (rs := [2]) (by kernel_rfl) (by simp) ?_
          refine AllReady.cons rfl (fun K hK => ?_) ?_
          · refine step_store_part rfl 113 (.tmp 0) (.tmp 29) rfl rfl rfl (w := wr.drew) H0.out (by rw [s0.out]; kernel_rfl) (by omega) o0.out ?_
            intro wa hA hgA hzA
            refine hK _ _ ?_
            clear hK K
            refine wpAny_ready (rs := [3]) (by kernel_rfl) (by simp) ?_
            refine AllReady.cons rfl (fun K hK => ?_) ?_
            · refine step_store_part rfl 112 (.tmp 1) (.tmp 30) rfl rfl rfl (w := wa) (Blk.grown (w := wr.drew) H1.out hgA (by simp)) (by rw [s1.out]; kernel_rfl) (by omega) o1.out ?_
              intro wb hC hgB hzB
              refine hK _ _ ?_
              clear hK K
              refine wpAny_done (by kernel_rfl) ?_ _
              go_wp2
              rw [spl_all _ _ rfl] at hA hC
              exact ret_row2 rfl rfl (hA.grown hgB (by simp)) Try.underlying113 rfl (by rw [s0.out]; kernel_rfl) rfl hC Try.underlying112 rfl (by rw [s1.out]; kernel_rfl) ⟨rfl, below_grown (below_grown hb.drew hgA (Nat.le_refl _)) hgB (by omega)⟩ rfl
            exact AllReady.nil
          exact AllReady.nil
        exact AllReady.nil
      exact AllReady.nil
end Go.Proofs.Ytfamififoifagaa
