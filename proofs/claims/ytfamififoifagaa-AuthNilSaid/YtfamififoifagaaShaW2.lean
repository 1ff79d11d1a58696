/- Contracts of sha's rotations at the lists that occur. -/
import Derived.Test.YtfamififoifagaaShaW
namespace Go.Proofs.Ytfamififoifagaa
open Go.RowKit Words

theorem rotr_17_19 (x : UInt32) {g : Nat} {w : World} {t : TypeId} (hB : Blk w g t #[.int .i64 17, .int .i64 19]) :
    Calls Try.prog 81 #[.int .u32 (V32 x), .slice (some ⟨g, 0, none⟩) 2 2] w fun e w' => e = .returned (.int .u32 (V32 (rots x [17, 19]))) ∧ w = w' :=
  rotr_any x (some ⟨g, 0, none⟩) 2 [17, 19] (by decide) (by decide) w (fun _ => ⟨g, 0, rfl, hB.lt, fun j v hv => by
    match j, hv with
    | 0, hv => simp at hv; subst hv; exact hB.cell 0
    | 1, hv => simp at hv; subst hv; exact hB.cell 1
    | j + 2, hv => simp at hv⟩)
theorem rotr_7_18 (x : UInt32) {g : Nat} {w : World} {t : TypeId} (hB : Blk w g t #[.int .i64 7, .int .i64 18]) :
    Calls Try.prog 81 #[.int .u32 (V32 x), .slice (some ⟨g, 0, none⟩) 2 2] w fun e w' => e = .returned (.int .u32 (V32 (rots x [7, 18]))) ∧ w = w' :=
  rotr_any x (some ⟨g, 0, none⟩) 2 [7, 18] (by decide) (by decide) w (fun _ => ⟨g, 0, rfl, hB.lt, fun j v hv => by
    match j, hv with
    | 0, hv => simp at hv; subst hv; exact hB.cell 0
    | 1, hv => simp at hv; subst hv; exact hB.cell 1
    | j + 2, hv => simp at hv⟩)
theorem rotr_6_11_25 (x : UInt32) {g : Nat} {w : World} {t : TypeId} (hB : Blk w g t #[.int .i64 6, .int .i64 11, .int .i64 25]) :
    Calls Try.prog 81 #[.int .u32 (V32 x), .slice (some ⟨g, 0, none⟩) 3 3] w fun e w' => e = .returned (.int .u32 (V32 (rots x [6, 11, 25]))) ∧ w = w' :=
  rotr_any x (some ⟨g, 0, none⟩) 3 [6, 11, 25] (by decide) (by decide) w (fun _ => ⟨g, 0, rfl, hB.lt, fun j v hv => by
    match j, hv with
    | 0, hv => simp at hv; subst hv; exact hB.cell 0
    | 1, hv => simp at hv; subst hv; exact hB.cell 1
    | 2, hv => simp at hv; subst hv; exact hB.cell 2
    | j + 3, hv => simp at hv⟩)
theorem rotr_2_13_22 (x : UInt32) {g : Nat} {w : World} {t : TypeId} (hB : Blk w g t #[.int .i64 2, .int .i64 13, .int .i64 22]) :
    Calls Try.prog 81 #[.int .u32 (V32 x), .slice (some ⟨g, 0, none⟩) 3 3] w fun e w' => e = .returned (.int .u32 (V32 (rots x [2, 13, 22]))) ∧ w = w' :=
  rotr_any x (some ⟨g, 0, none⟩) 3 [2, 13, 22] (by decide) (by decide) w (fun _ => ⟨g, 0, rfl, hB.lt, fun j v hv => by
    match j, hv with
    | 0, hv => simp at hv; subst hv; exact hB.cell 0
    | 1, hv => simp at hv; subst hv; exact hB.cell 1
    | 2, hv => simp at hv; subst hv; exact hB.cell 2
    | j + 3, hv => simp at hv⟩)
end Go.Proofs.Ytfamififoifagaa
