/- How arguments are read: slices of bytes, arrays of thirty-two bytes, strings, numbers, structs of them. No walk. -/
import Derived.Test.YtfamififoifagaaRows
import Derived.Test.YtfamififoifagaaAuthK
import Derived.ProofKit
import Derived.OpenShut
import Derived.ShutString
import Derived.ChangeOld
import Derived.Lib.SmallJoins
namespace Go.Proofs.Ytfamififoifagaa
open Go.ChangeShapes Go.WideShapes Go.ChangeAt Go.RowKit
open Go.ChangeMaps (open_string)
open Go.Joins

section
variable {H : Type} {enc : TypeId × Value → H} {P : Program} {w : World} {base : Nat} {spare : Nat → Bool} {held : Bool}
/-- a cell's number -/
def numV : Value → Int
  | .int _ z => z
  | _ => 0
def toB (l : List Int) : List UInt8 := l.map fun z => UInt8.ofNat z.toNat
theorem toB_cell {z : Int} (h : (Lit.int .u8 z).wf = true) : b8 (UInt8.ofNat z.toNat) = .int .u8 z := by
  have hx : 0 ≤ z ∧ z ≤ 255 := by simpa [Lit.wf, IntKind.min, IntKind.max, IntKind.signed, IntKind.bits] using h
  unfold b8
  rw [UInt8.toNat_ofNat', Nat.mod_eq_of_lt (by omega)]
  congr 1
  omega
/-- a slice of bytes that came in -/
theorem open_bytes {t e : TypeId} {fuel : Nat} {v : Value} {x : DataW H × List MemPlace} (ht : P.underlying t = some (.slice e)) (he : P.underlying e = some (.int .u8)) (hc : P.cellsOf e = 1)
    (h : DataW.trod enc P w base spare held fuel t [v] = some x) :
    ∃ (A : Option Addr) (n c : Nat) (l : List UInt8), v = .slice A n c ∧ n = l.length ∧ Sl w w.heap.size A (l.map b8) ∧ (A = none → n = 0) := by
  rcases open_ints ht he hc h with ⟨hcs, _⟩ | ⟨a, len, cap, zs, hcs, _, hl, hm, hz, _, hcell, hwz⟩
  · injection hcs with hcs
    exact ⟨none, 0, 0, [], hcs, rfl, Sl.nil _ _ _, fun _ => rfl⟩
  · injection hcs with hcs
    have hlz : len ≤ zs.length := by rw [hz]; split <;> omega
    refine ⟨some a, len, cap, toB (zs.take len), hcs, by simp [toB]; omega, fun hne => ?_, fun h => by cases h⟩
    have h0 : 0 < len := by
      rcases Nat.eq_zero_or_pos len with h0 | h0
      · subst h0; simp [toB] at hne
      · exact h0
    have hc0 := hcell 0 (by omega)
    obtain ⟨b, off, spot⟩ := a
    have hspot : spot = none := by simpa [Addr.add] using World.cell?_spot hc0
    subst hspot
    have hbl : b < w.heap.size := by
      have := World.block_lt_of_cell? w _ hc0
      rw [add_mk] at this
      exact this
    refine ⟨b, off, rfl, hbl, fun j u hj => ?_⟩
    have hjl : j < len := by have := (List.getElem?_eq_some_iff.1 hj).1; simp [toB] at this; omega
    have hcj := hcell j (by omega)
    rw [add_mk] at hcj
    rw [hcj]
    have hw := hwz (zs.getD j 0) (by rw [List.getD_eq_getElem?_getD, List.getElem?_eq_getElem (by omega)]; exact List.getElem_mem _)
    rw [← toB_cell hw]
    simp only [toB, List.getElem?_map, List.getElem?_take_of_lt hjl] at hj
    rw [List.getElem?_eq_getElem (by omega : j < zs.length)] at hj
    simp only [Option.map_some, Option.some.injEq] at hj
    rw [List.getD_eq_getElem?_getD, List.getElem?_eq_getElem (by omega : j < zs.length)]
    rw [← hj]
    rfl
/-- an array of thirty-two bytes that came in -/
theorem open_arr32 {t e : TypeId} {r : Reach} {b0 : Nat} {v : Value} {d : DataW H} {ps : List MemPlace} (ht : P.underlying t = some (.array 32 e)) (he : P.underlying e = some (.int .u8)) (hc : P.cellsOf e = 1) (hc2 : P.cellsOf t = 32)
    (hval : Value.okWide P w r b0 t v) (hd : DataW.Trod enc P w base spare held t v d ps) :
    ∃ l : List UInt8, l.length = 32 ∧ v = .agg (arrC b8 l) := by
  simp only [Value.okWide, ht] at hval
  obtain ⟨cs, rfl, hsz, _⟩ := hval
  rw [hc2] at hsz
  obtain ⟨fuel, hf⟩ := hd
  cases fuel with
  | zero => cases hf
  | succ m =>
    rw [DataW.trod_step] at hf
    unfold DataW.trodStep at hf
    simp only [ht, Value.cells] at hf
    split at hf
    · simp only [Option.map_eq_some_iff] at hf
      obtain ⟨xs, hxs, _⟩ := hf
      have each : ∀ i, i < 32 → ∃ z, cs[i]? = some (.int .u8 z) ∧ (Lit.int .u8 z).wf = true := fun i hi => by
        have h1 := mapM_some_get hxs i i (List.getElem?_range hi)
        have hl := mapM_some_length hxs
        have hxl : i < xs.length := by rw [hl, List.length_range]; exact hi
        have hx : xs[i]? = some xs[i] := List.getElem?_eq_getElem hxl
        rw [hx, hc, Nat.mul_one] at h1
        obtain ⟨z, h2, _, h3⟩ := DataW.trod_int he h1
        refine ⟨z, ?_, h3⟩
        have h4 : (cs.toList.drop i)[0]? = some (.int .u8 z) := by
          have := congrArg (fun l : List Value => l[0]?) h2
          simpa using this
        rw [List.getElem?_drop] at h4
        simpa using h4
      refine ⟨toB (cs.toList.map numV), by simp [toB, hsz], ?_⟩
      congr 1
      unfold arrC
      apply Array.ext_getElem?
      intro i
      by_cases hi : i < 32
      · obtain ⟨z, h1, h2⟩ := each i hi
        rw [h1]
        simp only [List.getElem?_toArray, toB, List.getElem?_map, Array.getElem?_toList, h1, Option.map_some, numV]
        rw [toB_cell h2]
      · rw [Array.getElem?_eq_none (by omega), Array.getElem?_eq_none (by simp [toB, hsz]; omega)]
    · cases hf
end
end Go.Proofs.Ytfamififoifagaa
