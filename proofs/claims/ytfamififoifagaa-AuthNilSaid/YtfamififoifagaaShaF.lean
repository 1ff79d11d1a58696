/- Contracts of sha's digest: Copy, Sum. -/
import Derived.Test.YtfamififoifagaaShaE
namespace Go.Proofs.Ytfamififoifagaa
open Go.RowKit Words

theorem dC_one (l : List UInt8) (k : Nat) (rest : Value) (n : Nat) (hr : rest.oneCell' = true) : ∀ v ∈ (dC l k rest n).toList, v.oneCell' = true := by
  intro v hv
  unfold dC at hv
  simp only [List.mem_append, List.mem_map, List.mem_cons, List.not_mem_nil, or_false] at hv
  rcases hv with (⟨x, _, rfl⟩ | ⟨x, _, rfl⟩) | rfl | rfl | rfl
  · exact v32_one x
  · exact v32_one x
  · rfl
  · exact hr
  · rfl
set_option maxRecDepth 100000 in
set_option maxHeartbeats 1000000 in
theorem copy_calls (l : List UInt8) (base b : Nat) (w : World) (hD : DigIs w base b l) :
    Calls Try.prog 65 #[.pointer (some ⟨b, 0, none⟩)] w fun e w' => ∃ b', e = .returned (.pointer (some ⟨b', 0, none⟩)) ∧ w.heap.size ≤ b' ∧ Below w.heap.size w w' ∧ DigIs w' w.heap.size b' l := by
  obtain ⟨v, hB, hO⟩ := hD
  obtain ⟨A, c, rfl, hc, hm, hs⟩ := hO.form8
  have hl : (l.drop (64 * (l.length / 64))).length = l.length - 64 * (l.length / 64) := List.length_drop
  have hz : A = none → (l.drop (64 * (l.length / 64))).length = 0 := by
    intro hA
    rcases List.eq_nil_or_concat (l.drop (64 * (l.length / 64))) with h0 | ⟨x, y, h0⟩
    · rw [h0]; rfl
    · obtain ⟨_, _, h1, _⟩ := hs (by rw [h0]; simp)
      rw [hA] at h1; cases h1
  have C := fun (w2 : World) h => clone_calls (l.drop (64 * (l.length / 64))) A _ c w2 h rfl hz (by omega)
  generalize (l.drop (64 * (l.length / 64))).length = n at hB hO hc hl C
  have hr := hB.cell 73
  rw [dC_rest] at hr
  have hlt := hB.lt
  have HB := Lib.hid hB
  have HS := Lib.hid hs
  have C := Lib.hid C
  have HL := Lib.hid hl
  have hsz := Lib.hid (dC_size l (l.length / 64) (.slice A n c) l.length)
  clear hB hO hs hz hl
  go_enter Try.func65, Try.ntmps65
  go_wp2_with (first
    | (with_reducible refine wpList_load_all rfl 117 (.tmp 7) rfl rfl HB.out Try.underlying117 rfl (by rw [hsz.out]; kernel_rfl) ?_)
    | ((with_reducible refine wpList_store_part rfl 117 (.tmp 3) (.tmp 8) rfl rfl rfl (Blk.new_ rfl) (by rw [hsz.out]; kernel_rfl) (by rw [hsz.out]; exact Nat.le_of_ble_eq_true (by kernel_rfl)) (dC_one _ _ _ _ rfl) ?_); intro w1 hB1 hg1 hz1; rw [spl_all _ _ (by rw [hsz.out]; kernel_rfl)] at hB1; have hf1 := hB1.frozen; have hr1 : w1.cell? ⟨w.heap.size, 73, none⟩ = some (.slice A n c) := (by rw [hB1.cell, dC_rest]); have hr2 : w1.cell? ⟨b, 73, none⟩ = some (.slice A n c) := (by rw [((HB.out.alloc _).grown hg1 (fun e => by injection e; omega)).cell, dC_rest]); have hbl1 := below_grown ((Below.refl w.heap.size w).alloc (Nat.le_refl _) _) hg1 (Nat.le_refl _); have hS1 := ((HS.out.keep (fun k hk => hbl1.block k hk)).more hbl1.size); have HB1 := Lib.hid hB1)
    | (go_at_call 30; refine (C.out _ hS1).mono ?_; rintro e w2 ⟨v2, rfl, ho2, hb2⟩; obtain ⟨A2, c2, rfl, hc2, hm2, hs2⟩ := ho2.form8; generalize (l.drop (64 * (l.length / 64))).length = n2 at ho2 hc2 hs2 ⊢; have HB2 := HB1.out.below hb2 HB1.out.lt; have hf2 := HB2.frozen; have hr3 : w2.cell? ⟨w.heap.size, 73, none⟩ = some (.slice A n c) := (by rw [HB2.cell, dC_rest]); have HB2 := Lib.hid HB2; clear hf1))
  go_ret
  refine ⟨_, rfl, Nat.le_refl _, ?_, _, Blk.of_eq (HB2.out.set_ 73 _) (dC_set _ _ _ _ _), (ho2.base hbl1.size).setCell HB2.out (by decide) _⟩
  exact (below_step hbl1 hb2).setCell (Nat.le_refl _) _
end Go.Proofs.Ytfamififoifagaa
