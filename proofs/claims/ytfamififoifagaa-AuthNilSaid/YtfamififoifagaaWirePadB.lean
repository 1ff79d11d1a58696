/- Contracts of wire: Pad. -/
import Derived.Test.YtfamififoifagaaShelf
import Derived.Test.YtfamififoifagaaWireU
import Derived.Lib.ConvBytes
import Derived.Lib.AppendStr
namespace Go.Proofs.Ytfamififoifagaa
open Go.RowKit Words

theorem sl_conv (w : World) (e : TypeId) (s : ByteArray) : Sl (Lib.bytesWorld w e s) (Lib.bytesWorld w e s).heap.size (some ⟨w.heap.size, 0, none⟩) (s.data.toList.map b8) := fun _ => by
  refine ⟨w.heap.size, 0, rfl, by rw [Lib.bytesWorld_size]; omega, fun j v hj => ?_⟩
  rw [List.getElem?_map] at hj
  cases hq : s.data.toList[j]? with
  | none => rw [hq] at hj; cases hj
  | some x =>
    rw [hq] at hj
    have hlt : j < s.size := by have := (List.getElem?_eq_some_iff.1 hq).1; rwa [Array.length_toList] at this
    rw [Nat.zero_add, Lib.bytesWorld_cell _ _ _ _ hlt]
    simp only [Option.map_some, Option.some.injEq] at hj
    rw [List.getD_eq_getElem?_getD, hq, ← hj]
    rfl
theorem below_conv (w : World) (e : TypeId) (s : ByteArray) : Below w.heap.size w (Lib.bytesWorld w e s) := by
  refine ⟨?_, ?_, ?_, by rw [Lib.bytesWorld_size]; omega, fun k hk => Lib.bytesWorld_at_old w e s k hk⟩
  · unfold Lib.bytesWorld World.freeze; split <;> rfl
  · simp [Lib.bytesWorld, World.freeze]
  · unfold Lib.bytesWorld World.freeze; split <;> rfl
theorem size_list (s : ByteArray) : s.data.toList.length = s.size := by rw [Array.length_toList]; rfl

theorem run_storeCells_atX (P : Program) (g o : Nat) (t : TypeId) (fz : Nat × Nat) : ∀ (vs : List Value) (i : Nat) (cur : Array Value) (w : World), w.heap[g]? = some (.cells cur t fz) → cur.size ≤ fz.1 → o + i + vs.length ≤ cur.size → (∀ v ∈ vs, v.oneCell' = true) →
    (storeCells ⟨g, o, none⟩ vs i).run P w = .ok () (w.setRow g (cur.toList.take (o + i) ++ vs ++ cur.toList.drop (o + i + vs.length)).toArray)
  | [], i, cur, w, hg, _, _, _ => by
    simp only [storeCells, List.append_nil, List.length_nil, Nat.add_zero, List.take_append_drop, Array.toArray_toList]
    rw [setRow_self w g cur t fz hg]
    rfl
  | v :: rest, i, cur, w, hg, hfz, hl, h1 => by
    have hi : o + i < cur.size := by simp at hl; omega
    have hadd : (⟨g, o, none⟩ : Addr).add i = ⟨g, o + i, none⟩ := by unfold Addr.add; split <;> simp_all
    have hcell : w.cell? ⟨g, o + i, none⟩ = some cur[o + i] := by simp [World.cell?, hg, hi]
    have hfro : w.frozen? ⟨g, o + i, none⟩ = false := by
      obtain ⟨lo, hi'⟩ := fz
      simp only [World.frozen?, hg, Bool.and_eq_false_iff, decide_eq_false_iff_not]
      left
      simp only at hfz
      omega
    have hst : (store ((⟨g, o, none⟩ : Addr).add i) v).run P w = .ok () (w.setRow g (cur.setIfInBounds (o + i) v)) := by
      rw [hadd, run_store P w _ v _ (h1 v (by simp)), hcell]
      simp [hfro, setCell_eq_setRow w g (o + i) cur t fz v hg]
    have ih := run_storeCells_atX P g o t fz rest (i + 1) (cur.setIfInBounds (o + i) v) (w.setRow g (cur.setIfInBounds (o + i) v)) (setRow_heap w g cur _ t _ hg) (by simpa using hfz) (by simp at hl ⊢; omega) (fun x hx => h1 x (by simp [hx]))
    simp only [storeCells, Sem.run_bind, hst, Result.andThen_ok, ih, setRow_setRow]
    congr 3
    have e := list_seg_step cur.toList (o + i) v rest (by simp at hl ⊢; omega)
    simpa [Array.toList_setIfInBounds, Nat.add_assoc] using e

/-- append of a string onto what a conversion of a string has made -/
theorem run_append_conv {P : Program} (w : World) (t u ty e : TypeId) (i : TypeInfo) (ht : P.underlying t = some (.slice e)) (hu : P.underlying u = some .string) (hi : P.info? e = some i) (hz : i.zero = some (.int .u8 0))
    (hsize : i.size = 1) (hby : i.bytes = 1) (g n cap : Nat) (cur : Array Value) (fz : Nat × Nat) (hg : w.heap[g]? = some (.cells cur e fz)) (hfz : cur.size ≤ fz.1) (hn : n ≤ cap) (hc : cap ≤ cur.size) (s : ByteArray)
    (hbytes : n + s.size ≤ 140737488355328) :
    ∃ A c w', (Builtin.append_ #[t, u] ty #[.slice (some ⟨g, 0, none⟩) n cap, .string s]).run P w = .ok (.slice A (n + s.size) c) w' ∧ Sl w' w'.heap.size A (cur.toList.take n ++ Lib.strCells s) ∧ w.grownBy w' (some g) := by
  have hgl : g < w.heap.size := (Array.getElem?_eq_some_iff.1 hg).1
  have htl : (cur.toList.take n).length = n := by rw [List.length_take, Array.length_toList]; omega
  by_cases hroom : n + s.size ≤ cap
  · have hf := Lib.run_firstCells_string (P := P) w 1 s
    have hst := run_storeCells_atX P g n e fz (Lib.strCells s) 0 cur w hg hfz (by rw [Lib.strCells_length]; omega) (Lib.strCells_oneCell s)
    simp only [Nat.add_zero, Lib.strCells_length] at hst
    refine ⟨some ⟨g, 0, none⟩, cap, w.setRow g (cur.toList.take n ++ Lib.strCells s ++ cur.toList.drop (n + s.size)).toArray, by simp [Builtin.append_, run_underlying ht, run_underlying hu, sizeOf, typeInfo, hi, hsize, Builtin.lenOf, hroom, hf, Addr.add_lit, hst], fun _ => ⟨g, 0, rfl, by simpa using hgl, fun j v hj => ?_⟩, grown_setRow _ _ _⟩
    have h2 := setRow_heap w g cur (cur.toList.take n ++ Lib.strCells s ++ cur.toList.drop (n + s.size)).toArray e _ hg
    rw [cell_unfold, h2, cellAt_some, Nat.zero_add, List.getElem?_toArray, List.getElem?_append_left (List.getElem?_eq_some_iff.1 hj).1]
    exact hj
  · have holds : ∀ j u, (cur.toList.take n)[j]? = some u → w.cell? ((⟨g, 0, none⟩ : Addr).add j) = some u := by
      intro j u hj
      rw [add_mk, cell_unfold, hg, cellAt_some, Nat.zero_add]
      rw [List.getElem?_take] at hj
      split at hj
      · simpa using hj
      · cases hj
    have hr := Lib.run_append_grow_string (P := P) w t u ty e i (.int .u8 0) ht hu hi hz ⟨g, 0, none⟩ n cap (cur.toList.take n) (by rw [hsize, htl]; omega) holds s (by omega) (by omega) (by rw [hby]; exact growslice_fits (by omega) (by omega))
    refine ⟨_, _, _, hr, fun _ => ⟨w.heap.size, 0, rfl, by simp, fun j v hj => ?_⟩, ⟨rfl, rfl, rfl, by simp, fun k hk _ => heap_alloc_old w.drew _ hk⟩⟩
    have h2 := heap_alloc_new w.drew (.cells ((cur.toList.take n).toArray ++ (Lib.strCells s).toArray ++ Builtin.zeroCells (Value.int .u8 0).cells (grownCap w (n + s.size) cap e - (n + s.size))) e)
    rw [cell_unfold]
    rw [show (w.drew.alloc _).heap[w.heap.size]? = _ from h2, cellAt_some, Nat.zero_add]
    have e1 : ((cur.toList.take n).toArray ++ (Lib.strCells s).toArray ++ Builtin.zeroCells (Value.int .u8 0).cells (grownCap w (n + s.size) cap e - (n + s.size))) = ((cur.toList.take n ++ Lib.strCells s) ++ (Builtin.zeroCells (Value.int .u8 0).cells (grownCap w (n + s.size) cap e - (n + s.size))).toList).toArray := by
      apply Array.ext'
      simp
    rw [e1, List.getElem?_toArray, List.getElem?_append_left (List.getElem?_eq_some_iff.1 hj).1]
    exact hj
theorem wpList_append_conv {w : World} {ops : Array Oper} {rest : List Oper} {o : Oper} {a : Act} {Q : Exit → Act → World → Prop} (hgd : o.guard = none) (x y : Operand)
    (ho : o.op = .call { callee := .builtin .append, args := #[x, y], argTypes := #[22, 9] })
    (g n cap : Nat) (cur : Array Value) (fz : Nat × Nat) (hg : w.heap[g]? = some (.cells cur 5 fz)) (hfz : cur.size ≤ fz.1) (hn : n ≤ cap) (hc : cap ≤ cur.size) (s : ByteArray)
    (hbytes : n + s.size ≤ 140737488355328) (hx : a.eval x = .slice (some ⟨g, 0, none⟩) n cap) (hy : a.eval y = .string s)
    (h : ∀ A c w', Sl w' w'.heap.size A (cur.toList.take n ++ Lib.strCells s) → w.grownBy w' (some g) → wpList Try.prog ops Q rest (a.put o.dst (.slice A (n + s.size) c)) w') : wpList Try.prog ops Q (o :: rest) a w := by
  refine wpList_plain hgd fun K hK => ?_
  obtain ⟨i, hi, hz, hsz, hby⟩ := u8_info
  obtain ⟨A, c, w', hr, h2, h3⟩ := run_append_conv (P := Try.prog) w 22 9 o.type 5 i Try.underlying22 Try.underlying9 hi hz hsz hby g n cap cur fz hg hfz hn hc s hbytes
  unfold Oper.wp execOp
  simp only [ho, resolve, invoke, builtin, Sem.run_bind, Sem.run_pure, Result.andThen_ok, List.map_toArray, List.map_cons, List.map_nil, hx, hy, hr]
  exact hK _ _ (h A c w' h2 h3)

theorem repeat_sp : ∀ c, Lib.repeatL [32] c = List.replicate c (32 : UInt8)
  | 0 => rfl
  | c + 1 => by rw [Lib.repeatL, repeat_sp c]; rfl
def padL (l : List UInt8) (n : Nat) : List UInt8 := l ++ List.replicate (n - l.length) 32
def PadErr (k : Int) (w : World) (e : Ending) (w' : World) : Prop := ∃ v, e = .returned (.tuple #[v, .int .i64 k]) ∧ Below w.heap.size w w'
def PadOk (l : List UInt8) (n : Nat) (w : World) (e : Ending) (w' : World) : Prop := ∃ A c, e = .returned (.tuple #[.slice A n c, .int .i64 0]) ∧ Sl w' w'.heap.size A ((padL l n).map b8) ∧ Below w.heap.size w w'

set_option maxRecDepth 100000 in
set_option maxHeartbeats 1000000 in
theorem pad_bad (s : ByteArray) (n : Nat) (w : World) (hs : s.size ≤ 1000000) (hn : n ≤ 1000000) (hp : s.data.toList.any nplB = true) :
    Calls Try.prog 39 #[.string s, .int .i64 (n : Int)] w (PadErr 2 w) := by
  have hcv := fun wx => Lib.run_convert_string_bytes (P := Try.prog) wx 9 22 5 s Try.underlying9 Try.underlying22 Try.underlying5
  have hn0 : ¬ (n : Int) < 0 := by omega
  have C := Lib.hid (npl_contains s.data.toList _ s.size (grownCap w s.size 0 5) (size_list s).symm (by rw [size_list]; exact hs) _ (sl_conv w 5 s))
  have HB := Lib.hid (below_conv w 5 s)
  have HP := Lib.hid hp
  clear hp
  go_enter Try.func39, Try.ntmps39
  go_wp2_with (go_at_call 50; refine C.out.mono ?_; rintro e w1 ⟨rfl, rfl⟩; rw [HP.out])
  go_ret2
  exact ⟨_, rfl, HB.out⟩
set_option maxRecDepth 100000 in
set_option maxHeartbeats 1000000 in
theorem pad_long (s : ByteArray) (n : Nat) (w : World) (hs : s.size ≤ 1000000) (hn : n ≤ 1000000) (hp : s.data.toList.any nplB = false) (hlt : n < s.size) :
    Calls Try.prog 39 #[.string s, .int .i64 (n : Int)] w (PadErr 5 w) := by
  have hcv := fun wx => Lib.run_convert_string_bytes (P := Try.prog) wx 9 22 5 s Try.underlying9 Try.underlying22 Try.underlying5
  have hn0 : ¬ (n : Int) < 0 := by omega
  have h1 : (n : Int) < (s.size : Int) := by omega
  have C := Lib.hid (npl_contains s.data.toList _ s.size (grownCap w s.size 0 5) (size_list s).symm (by rw [size_list]; exact hs) _ (sl_conv w 5 s))
  have HB := Lib.hid (below_conv w 5 s)
  have HP := Lib.hid hp
  clear hp
  go_enter Try.func39, Try.ntmps39
  go_wp2_with (go_at_call 50; refine C.out.mono ?_; rintro e w1 ⟨rfl, rfl⟩; rw [HP.out])
  go_ret2
  exact ⟨_, rfl, HB.out⟩
set_option maxRecDepth 100000 in
set_option maxHeartbeats 1000000 in
theorem pad_ok (s : ByteArray) (n : Nat) (w : World) (hn : n ≤ 1000000) (hp : s.data.toList.any nplB = false) (hge : s.size ≤ n) :
    Calls Try.prog 39 #[.string s, .int .i64 (n : Int)] w (PadOk s.data.toList n w) := by
  have hcv := fun wx => Lib.run_convert_string_bytes (P := Try.prog) wx 9 22 5 s Try.underlying9 Try.underlying22 Try.underlying5
  have hn0 : ¬ (n : Int) < 0 := by omega
  have h1 : ¬ (n : Int) < (s.size : Int) := by omega
  have h2 : ¬ 1048576 < (n : Int) := by omega
  have h3 : ((n - s.size : Nat) : Int) = (n : Int) - (s.size : Int) := by omega
  have C := Lib.hid (npl_contains s.data.toList _ s.size (grownCap w s.size 0 5) (size_list s).symm (by rw [size_list]; omega) _ (sl_conv w 5 s))
  have HB := Lib.hid (below_conv w 5 s)
  have HG := Lib.hid (Lib.bytesWorld_at_new w 5 s)
  have HP := Lib.hid hp
  have R := Try.strings_Repeat ⟨#[32]⟩ (n - s.size) (Lib.bytesWorld w 5 s) (by omega) (by show 1 * (n - s.size) ≤ _; omega)
  rw [h3, show (⟨#[32]⟩ : ByteArray).data.toList = [32] from rfl, repeat_sp] at R
  have R := Lib.hid R
  have hcap : s.size ≤ grownCap w s.size 0 5 := grownCap_ge w s.size 0 _
  have hcur : grownCap w s.size 0 5 ≤ (Lib.bytesCells w 5 s).size := by
    unfold Lib.bytesCells
    rw [Array.size_append, Array.size_map, Array.size_replicate]
    have : s.data.size = s.size := rfl
    omega
  have hsz : s.size + (ByteArray.mk (List.replicate (n - s.size) 32).toArray).size ≤ 140737488355328 := by
    show s.size + (List.replicate (n - s.size) (32 : UInt8)).toArray.size ≤ _
    simp; omega
  clear hp h3
  go_enter Try.func39, Try.ntmps39
  go_wp2_with (first
    | (go_at_call 50; refine C.out.mono ?_; rintro e w1 ⟨rfl, rfl⟩; rw [HP.out])
    | (go_at_call 53; refine R.out.mono ?_; rintro e w1 ⟨rfl, hb1⟩)
    | (at_builtin; refine wpList_append_conv rfl (.tmp 25) (.tmp 30) rfl w.heap.size s.size (grownCap w s.size 0 5) (Lib.bytesCells w 5 s) _ ((hb1.block _ (by rw [Lib.bytesWorld_size]; omega)).trans HG.out) (Nat.le_refl _) hcap hcur ⟨(List.replicate (n - s.size) 32).toArray⟩ hsz rfl rfl ?_; intro A c w2 hs2 hg2; have HS2 := Lib.hid hs2; clear hs2))
  go_ret2
  have hpl : ((padL s.data.toList n).map b8) = (Lib.bytesCells w 5 s).toList.take s.size ++ Lib.strCells ⟨(List.replicate (n - s.size) 32).toArray⟩ := by
    unfold padL Lib.bytesCells Lib.strCells
    rw [List.map_append, Array.toList_append, List.take_append_of_le_length (by rw [Array.length_toList, Array.size_map]; exact Nat.le_refl _), List.take_of_length_le (by rw [Array.length_toList, Array.size_map]; exact Nat.le_refl _), Array.toList_map, size_list]
    rfl
  refine ⟨A, c, ?_, ?_, ?_⟩
  · rfl
  · rw [hpl]; exact HS2.out
  · exact ((HB.out.trans (hb1.mono (by rw [Lib.bytesWorld_size]; omega))).grown hg2 (Nat.le_trans HB.out.size hb1.size) (fun k e => by injection e with e; omega))
end Go.Proofs.Ytfamififoifagaa
