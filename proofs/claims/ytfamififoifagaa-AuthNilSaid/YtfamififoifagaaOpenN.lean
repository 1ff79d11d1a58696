/- The step 'Act' of the laws of auth, read as an argument. No walk. -/
import Derived.Test.YtfamififoifagaaOpen
namespace Go.Proofs.Ytfamififoifagaa
open Go.ChangeShapes Go.WideShapes Go.ChangeAt Go.RowKit
open Go.ChangeMaps (open_string)
open Go.Joins

section
variable {H : Type} {enc : TypeId × Value → H} {P : Program} {w : World} {base : Nat} {spare : Nat → Bool} {held : Bool}
/-- thirty-two cells that read as an array of bytes -/
theorem arr32_cells {t e : TypeId} {fuel : Nat} {cs : List Value} {x : DataW H × List MemPlace} (ht : P.underlying t = some (.array 32 e)) (he : P.underlying e = some (.int .u8)) (hc : P.cellsOf e = 1) (hsz : cs.length = 32)
    (hf : DataW.trod enc P w base spare held fuel t cs = some x) : ∃ l : List UInt8, l.length = 32 ∧ cs = l.map b8 := by
  cases fuel with
  | zero => cases hf
  | succ m =>
    rw [DataW.trod_step] at hf
    unfold DataW.trodStep at hf
    simp only [ht] at hf
    split at hf
    · simp only [Option.map_eq_some_iff] at hf
      obtain ⟨xs, hxs, _⟩ := hf
      have each : ∀ i, i < 32 → ∃ z, cs[i]? = some (.int .u8 z) ∧ (Lit.int .u8 z).wf = true := fun i hi => by
        have h1 := mapM_some_get hxs i i (List.getElem?_range hi)
        have hl := mapM_some_length hxs
        have hxl : i < xs.length := by rw [hl, List.length_range]; exact hi
        have hx : xs[i]? = some xs[i] := List.getElem?_eq_getElem hxl
        rw [hx, hc, Nat.mul_one] at h1
        obtain ⟨z, h2, _, h3⟩ := DataW.trod_int he h1
        refine ⟨z, ?_, h3⟩
        have h4 : (cs.drop i)[0]? = some (.int .u8 z) := by
          have := congrArg (fun l : List Value => l[0]?) h2
          simpa using this
        rw [List.getElem?_drop] at h4
        simpa using h4
      refine ⟨toB (cs.map numV), by simp [toB, hsz], ?_⟩
      apply List.ext_getElem?
      intro i
      by_cases hi : i < 32
      · obtain ⟨z, h1, h2⟩ := each i hi
        rw [h1]
        simp only [toB, List.getElem?_map, h1, Option.map_some, numV]
        rw [toB_cell h2]
      · rw [List.getElem?_eq_none (by omega), List.getElem?_eq_none (by simp [toB, hsz]; omega)]
    · cases hf
theorem take_drop_app (l : List Value) (k m : Nat) : (l.drop k).take m ++ l.drop (k + m) = l.drop k := by
  rw [← List.drop_drop]
  exact List.take_append_drop m (l.drop k)
end
/-- the cells of an Act -/
def actC (k : Int) (N : List UInt8) (seq queue : Nat) (s : Value) (both : Bool) : List Value := .int .i64 k :: (N.map b8 ++ [.int .u32 (seq : Nat), .int .u16 (queue : Nat), s, .bool both])
section
variable {H : Type} {enc : TypeId × Value → H} {w : World} {base : Nat} {spare : Nat → Bool} {held : Bool}
theorem act_cells : Try.prog.cellsOf 50 = 37 := by kernel_rfl
set_option maxRecDepth 100000 in
theorem act_open {b0 : Nat} {r : Reach} {v : Value} {d : DataW H} {p : List MemPlace} (hv : Value.okWide Try.prog w r b0 50 v) (h : DataW.Trod enc Try.prog w base spare held 50 v d p) :
    ∃ k N seq queue A n c both, v = .agg (actC k N seq queue (.slice A n c) both).toArray ∧ N.length = 32 ∧ seq < 4294967296 ∧ queue < 65536 := by
  obtain ⟨cs, rfl, hsz⟩ := okWide_struct Try.underlying50 hv
  obtain ⟨fuel, hf⟩ := h
  obtain ⟨xs, n, _, _, hl, hlen, hx⟩ := DataW.trod_struct Try.underlying50 hf
  have hx := fun (i : Nat) (f : Field) hf => (hx i f hf).trans (List.getElem?_eq_getElem (by have := (Array.getElem?_eq_some_iff.1 hf).1; omega))
  rw [act_cells] at hsz
  have hL : cs.toList.length = 37 := by simpa using hsz
  obtain ⟨l⟩ := cs
  simp only at hx hL
  clear hl hsz hf hv
  have x0 := hx 0 _ rfl
  have x1 := hx 1 _ rfl
  have x2 := hx 2 _ rfl
  have x3 := hx 3 _ rfl
  have x4 := hx 4 _ rfl
  have x5 := hx 5 _ rfl
  clear hx
  obtain ⟨k, e0, _, _⟩ := DataW.trod_int Try.underlying3 x0
  obtain ⟨z2, e2, _, w2⟩ := DataW.trod_int Try.underlying26 x2
  obtain ⟨z3, e3, _, w3⟩ := DataW.trod_int Try.underlying27 x3
  obtain ⟨A, m, c, e4⟩ := slice_form Try.underlying22 x4
  obtain ⟨both, e5, _⟩ := DataW.trod_bool Try.underlying4 x5
  obtain ⟨N, hN, e1⟩ := arr32_cells Try.underlying25 Try.underlying5 (by kernel_rfl) (by show ((l.drop 1).take 32).length = 32; rw [List.length_take, List.length_drop, hL]; rfl) x1
  clear x0 x1 x2 x3 x4 x5
  have i2 : 0 ≤ z2 ∧ z2 ≤ 4294967295 := by simpa [Lit.wf, IntKind.min, IntKind.max, IntKind.signed, IntKind.bits] using w2
  have i3 : 0 ≤ z3 ∧ z3 ≤ 65535 := by simpa [Lit.wf, IntKind.min, IntKind.max, IntKind.signed, IntKind.bits] using w3
  obtain ⟨seq, rfl⟩ := Int.eq_ofNat_of_zero_le i2.1
  obtain ⟨queue, rfl⟩ := Int.eq_ofNat_of_zero_le i3.1
  refine ⟨k, N, seq, queue, A, m, c, both, ?_, hN, by omega, by omega⟩
  congr 1
  change (l.drop 0).take 1 = _ at e0
  change (l.drop 1).take 32 = _ at e1
  change (l.drop 33).take 1 = _ at e2
  change (l.drop 34).take 1 = _ at e3
  change (l.drop 35).take 1 = _ at e4
  change (l.drop 36).take 1 = _ at e5
  have h6 : l.drop 37 = [] := List.drop_eq_nil_of_le (by omega)
  have h5 := take_drop_app l 36 1
  have h4 := take_drop_app l 35 1
  have h3 := take_drop_app l 34 1
  have h2 := take_drop_app l 33 1
  have h1 := take_drop_app l 1 32
  have h0 := take_drop_app l 0 1
  rw [e5, h6] at h5
  rw [e4, ← h5] at h4
  rw [e3, ← h4] at h3
  rw [e2, ← h3] at h2
  rw [e1, ← h2] at h1
  rw [e0, ← h1] at h0
  rw [List.drop_zero] at h0
  rw [← h0]
  rfl
end
end Go.Proofs.Ytfamififoifagaa
