/- Words for auth: arrays of bytes compared; what a message reads as. -/
import Derived.Test.YtfamififoifagaaAuthB
import Derived.ChangeKeysEq
import Derived.Great.BuildSlice
namespace Go.Proofs.Ytfamififoifagaa
open Go.RowKit Words

/-- whether two lists of bytes are one -/
def sameB (a b : List UInt8) : Bool := decide (a = b)
section
variable {P : Program} (w : World)
theorem eqItems_bytes (d : Nat) {e : TypeId} (he : P.underlying e = some (.int .u8)) (a b : List UInt8) : ∀ is : List Nat, (∀ i ∈ is, i < a.length ∧ i < b.length) →
    (Op.eqItems (d + 1) e 1 (arrC b8 a) (arrC b8 b) is).run P w = .ok (is.all fun i => a[i]? == b[i]?) w
  | [], _ => by simp [Op.eqItems]
  | i :: is, h => by
    obtain ⟨h1, h2⟩ := h i (by simp)
    have hp : P.plainKey e = true := by simp [Program.plainKey, he]
    have p1 := run_part_plain (P := P) w hp (xs := arrC b8 a) (off := i * 1) (by rw [Nat.mul_one]; exact arrC_at h1)
    have p2 := run_part_plain (P := P) w hp (xs := arrC b8 b) (off := i * 1) (by rw [Nat.mul_one]; exact arrC_at h2)
    have p3 : (Op.equalIn (d + 1) e (b8 a[i]) (b8 b[i])).run P w = .ok (a[i]? == b[i]?) w := by
      have := run_equalIn_int (P := P) w d e .u8 .u8 (a[i].toNat : Int) (b[i].toNat : Int) he
      refine this.trans ?_
      congr 1
      rw [List.getElem?_eq_getElem h1, List.getElem?_eq_getElem h2, Bool.eq_iff_iff]
      simp only [beq_iff_eq, Option.some.injEq]
      rw [Int.ofNat_inj, UInt8.toNat_inj]
    have ih := eqItems_bytes d he a b is (fun j hj => h j (by simp [hj]))
    simp only [Op.eqItems, Sem.run_bind, p1, p2, p3, Result.andThen_ok, List.all_cons]
    cases (a[i]? == b[i]?)
    · simp
    · simpa using ih
theorem all_same (a b : List UInt8) (n : Nat) (ha : a.length = n) (hb : b.length = n) : ((List.range n).all fun i => a[i]? == b[i]?) = sameB a b := by
  unfold sameB
  rw [Bool.eq_iff_iff]
  simp only [List.all_eq_true, List.mem_range, beq_iff_eq, decide_eq_true_eq]
  constructor
  · intro h
    apply List.ext_getElem?
    intro i
    rcases Nat.lt_or_ge i n with hi | hi
    · exact h i hi
    · rw [List.getElem?_eq_none (by omega), List.getElem?_eq_none (by omega)]
  · rintro rfl i _; rfl
theorem run_equal_arr (d : Nat) {t e : TypeId} {n : Nat} (hu : P.underlying t = some (.array n e)) (he : P.underlying e = some (.int .u8)) (hi : (P.info? e).map (·.size) = some 1) (a b : List UInt8) (ha : a.length = n) (hb : b.length = n) :
    (Op.equalIn (d + 2) t (.agg (arrC b8 a)) (.agg (arrC b8 b))).run P w = .ok (sameB a b) w := by
  cases hq : P.info? e with
  | none => rw [hq] at hi; cases hi
  | some i =>
    rw [run_equalIn_array w (d + 1) _ _ hu hq]
    have hc : P.cellsOf e = 1 := by rw [hq] at hi; simpa [Program.cellsOf, hq] using hi
    rw [hc, eqItems_bytes w d he a b _ (fun i hi => by rw [List.mem_range] at hi; omega), all_same a b n ha hb]
theorem neq_arr {t e : TypeId} {n : Nat} (hu : P.underlying t = some (.array n e)) (he : P.underlying e = some (.int .u8)) (hi : (P.info? e).map (·.size) = some 1) (a b : List UInt8) (ha : a.length = n) (hb : b.length = n) :
    (binOp .neq t (.agg (arrC b8 a)) (.agg (arrC b8 b))).run P w = .ok (.bool (!sameB a b)) w := by
  rw [run_neq_struct, run_equal_arr w 9998 hu he hi a b ha hb]; rfl
end

theorem wpList_load_arr {P : Program} {w : World} {ops : Array Oper} {rest : List Oper} {op : Oper} {a : Act} {Q : Exit → Act → World → Prop} (hgd : op.guard = none) (ty : TypeId) (x : Operand) (ho : op.op = .load ty x)
    (b o : Nat) (hx : a.eval x = .pointer (some ⟨b, o, none⟩)) (p : List UInt8) (d : TypeDesc) (hc : w.rangeAt b o (p.map b8))
    (hu : P.underlying ty = some d) (hd : d.isRow = true) (hi : (P.info? ty).map (·.size) = some p.length)
    (h : wpList P ops Q rest (a.put op.dst (.agg (arrC b8 p))) w) : wpList P ops Q (op :: rest) a w :=
  wpList_load_mid hgd ty x ho b o hx (p.map b8) d hc hu hd (by rw [List.length_map]; exact hi) h
theorem flat_cells : ∀ vs : List (List UInt8), ((vs.map fun p => Value.agg (arrC b8 p)).flatMap fun v => v.cells.toList) = vs.flatten.map b8
  | [] => rfl
  | p :: ps => by
    rw [List.map_cons, List.flatMap_cons, flat_cells ps, List.flatten_cons, List.map_append]
    rfl
theorem build_parts (vs : List (List UInt8)) (hn : 0 < vs.length) (h : ∀ p ∈ vs, p.length = 32) (hs : vs.length ≤ 1000) (w : World) :
    (Instr.buildSlice 67 vs.length (((vs.map fun p => Value.agg (arrC b8 p)).zipIdx 0).map fun x => (x.2, x.1)).toArray).run Try.prog w = .ok (.slice (some ⟨w.heap.size, 0, none⟩) vs.length vs.length) (w.alloc (.cells (arrC b8 vs.flatten) 25)) := by
  have hi : (Try.prog.info? 25).map (fun i => (i.zero.isSome, i.size)) = some (true, 32) := by kernel_rfl
  cases hq : Try.prog.info? 25 with
  | none => rw [hq] at hi; cases hi
  | some i =>
    rw [hq] at hi
    simp only [Option.map_some, Option.some.injEq, Prod.mk.injEq] at hi
    obtain ⟨hz, hsz⟩ := hi
    obtain ⟨z, hz⟩ := Option.isSome_iff_exists.1 hz
    have h24 : ¬ vs.length * i.size > 2 ^ 24 := by
      rw [hsz, show (2 : Nat) ^ 24 = 16777216 from by decide]; omega
    have h0 : ¬ vs.length * i.size = 0 := by rw [hsz]; omega
    have hc : ∀ v ∈ (vs.map fun p => Value.agg (arrC b8 p)), v.cells.size = 32 := fun v hv => by
      obtain ⟨p, hp, rfl⟩ := List.mem_map.1 hv
      exact arrC_size.trans (h p hp)
    have hsz2 : (vs.map fun p => Value.agg (arrC b8 p)).length * 32 = ((Array.range (vs.length * 32)).map (z.cells[· % z.cells.size]!)).size := by
      rw [List.length_map, Array.size_map, Array.size_range]
    have hf : Instr.fill (fun k => some (k * i.size, i.size)) ((Array.range (vs.length * i.size)).map (z.cells[· % z.cells.size]!)) (((vs.map fun p => Value.agg (arrC b8 p)).zipIdx 0).map fun x => (x.2, x.1)) = some (arrC b8 vs.flatten) := by
      rewrite [hsz]
      have hw := Great.fill_whole (s := 32) (by omega) (vs.map fun p => Value.agg (arrC b8 p)) ((Array.range (vs.length * 32)).map (z.cells[· % z.cells.size]!)) hc hsz2
      exact hw.trans (congrArg (fun l : List Value => some l.toArray) (flat_cells vs))
    have hr := run_buildSlice (P := Try.prog) w 67 25 vs.length (((vs.map fun p => Value.agg (arrC b8 p)).zipIdx 0).map fun x => (x.2, x.1)).toArray (arrC b8 vs.flatten) i z
    exact hr Try.underlying67 hq hz h24 h0 hf
theorem build_one (p : List UInt8) (h : p.length = 32) (w : World) :
    (Instr.buildSlice 67 1 #[(0, .agg (arrC b8 p))]).run Try.prog w = .ok (.slice (some ⟨w.heap.size, 0, none⟩) 1 1) (w.alloc (.cells (arrC b8 p) 25)) := by
  have := build_parts [p] (by simp) (by simpa using h) (by simp) w
  rw [List.flatten_cons, List.flatten_nil, List.append_nil] at this
  exact this
theorem build_two (p q : List UInt8) (h : p.length = 32) (h' : q.length = 32) (w : World) :
    (Instr.buildSlice 67 2 #[(0, .agg (arrC b8 p)), (1, .agg (arrC b8 q))]).run Try.prog w = .ok (.slice (some ⟨w.heap.size, 0, none⟩) 2 2) (w.alloc (.cells (arrC b8 (p ++ q)) 25)) := by
  have := build_parts [p, q] (by simp) (by simp [h, h']) (by simp) w
  rw [List.flatten_cons, List.flatten_cons, List.flatten_nil, List.append_nil] at this
  exact this

theorem wpList_build_one {w : World} {ops : Array Oper} {rest : List Oper} {op : Oper} {a : Act} {Q : Exit → Act → World → Prop} (hgd : op.guard = none) (x : Operand) (ho : op.op = .buildSlice 67 1 #[(0, x)])
    (p : List UInt8) (hx : a.eval x = .agg (arrC b8 p)) (hp : p.length = 32)
    (hk : wpList Try.prog ops Q rest (a.put op.dst (.slice (some ⟨w.heap.size, 0, none⟩) 1 1)) (w.alloc (.cells (arrC b8 p) 25))) : wpList Try.prog ops Q (op :: rest) a w := by
  refine wpList_plain hgd fun K hK => ?_
  unfold Oper.wp execOp
  simp only [ho, List.map_toArray, List.map_cons, List.map_nil, hx, Sem.run_bind, build_one p hp w, Result.andThen_ok]
  exact hK _ _ hk
theorem wpList_build_two {w : World} {ops : Array Oper} {rest : List Oper} {op : Oper} {a : Act} {Q : Exit → Act → World → Prop} (hgd : op.guard = none) (x y : Operand) (ho : op.op = .buildSlice 67 2 #[(0, x), (1, y)])
    (p q : List UInt8) (hx : a.eval x = .agg (arrC b8 p)) (hy : a.eval y = .agg (arrC b8 q)) (hp : p.length = 32) (hq : q.length = 32)
    (hk : wpList Try.prog ops Q rest (a.put op.dst (.slice (some ⟨w.heap.size, 0, none⟩) 2 2)) (w.alloc (.cells (arrC b8 (p ++ q)) 25))) : wpList Try.prog ops Q (op :: rest) a w := by
  refine wpList_plain hgd fun K hK => ?_
  unfold Oper.wp execOp
  simp only [ho, List.map_toArray, List.map_cons, List.map_nil, hx, hy, Sem.run_bind, build_two p q hp hq w, Result.andThen_ok]
  exact hK _ _ hk
theorem build_zero32 (w : World) : (Instr.build 25 #[]).run Try.prog w = .ok (.agg (arrC b8 (List.replicate 32 0))) w :=
  run_build w 25 #[] _ (by kernel_rfl)
theorem wpList_wanted {P : Program} {ops : Array Oper} {Q : Exit → Act → World → Prop} {a : Act} {w : World} {rest : List Oper} {o : Oper}
    (hw : Region.wanted o (yielded ops a.tmps) = true)
    (h : ∀ K : Act → World → Prop, (∀ a w, wpList P ops Q rest a w → K a w) → o.wp P a w K Q) : wpList P ops Q (o :: rest) a w :=
  wpList_step fun K hK => by rw [if_pos hw]; exact h K hK
theorem wp_build_zero {w : World} {op : Oper} {a : Act} {K : Act → World → Prop} {Q : Exit → Act → World → Prop} (ho : op.op = .build 25 #[]) (h : K (a.put op.dst (.agg (arrC b8 (List.replicate 32 0)))) w) : op.wp Try.prog a w K Q := by
  unfold Oper.wp execOp
  simp only [ho, List.map_toArray, List.map_nil, Sem.run_bind, build_zero32, Result.andThen_ok]
  exact h
theorem wpList_build_zero {w : World} {ops : Array Oper} {rest : List Oper} {op : Oper} {a : Act} {Q : Exit → Act → World → Prop} (hgd : op.guard = none) (ho : op.op = .build 25 #[])
    (hk : wpList Try.prog ops Q rest (a.put op.dst (.agg (arrC b8 (List.replicate 32 0)))) w) : wpList Try.prog ops Q (op :: rest) a w :=
  wpList_plain hgd fun _ hK => wp_build_zero ho (hK _ _ hk)
theorem wpListG_build_zero {w : World} {ops : Array Oper} {rest : List Oper} {op : Oper} {a : Act} {Q : Exit → Act → World → Prop} (hw : Region.wanted op (yielded ops a.tmps) = true) (ho : op.op = .build 25 #[])
    (hk : wpList Try.prog ops Q rest (a.put op.dst (.agg (arrC b8 (List.replicate 32 0)))) w) : wpList Try.prog ops Q (op :: rest) a w :=
  wpList_wanted hw fun _ hK => wp_build_zero ho (hK _ _ hk)
theorem wpListG_load_arr {P : Program} {w : World} {ops : Array Oper} {rest : List Oper} {op : Oper} {a : Act} {Q : Exit → Act → World → Prop} (hw : Region.wanted op (yielded ops a.tmps) = true) (ty : TypeId) (x : Operand) (ho : op.op = .load ty x)
    (b o : Nat) (hx : a.eval x = .pointer (some ⟨b, o, none⟩)) (p : List UInt8) (d : TypeDesc) (hc : w.rangeAt b o (p.map b8))
    (hu : P.underlying ty = some d) (hd : d.isRow = true) (hi : (P.info? ty).map (·.size) = some p.length)
    (h : wpList P ops Q rest (a.put op.dst (.agg (arrC b8 p))) w) : wpList P ops Q (op :: rest) a w :=
  wpList_wanted hw fun _ hK => wp_load_mid ty x ho b o hx (p.map b8) d hc hu hd (by rw [List.length_map]; exact hi) (hK _ _ h)
theorem a32_guard : Try.prog.eqGuardType Try.prog.depth 25 = false := by kernel_rfl
theorem wp_neq_arr {w : World} {op : Oper} {a : Act} {K : Act → World → Prop} {Q : Exit → Act → World → Prop} (x y : Operand) (ty : TypeId) (ho : op.op = .binOp .neq 25 x y ty)
    (p q : List UInt8) (hx : a.eval x = .agg (arrC b8 p)) (hy : a.eval y = .agg (arrC b8 q)) (hp : p.length = 32) (hq : q.length = 32) (h : K (a.put op.dst (.bool (!sameB p q))) w) : op.wp Try.prog a w K Q := by
  have he := neq_arr (P := Try.prog) w Try.underlying25 Try.underlying5 u8_size p q hp hq
  have hg := run_eqGuard_agg (P := Try.prog) w .neq 25 x y (arrC b8 p) (arrC b8 q) a32_guard
  unfold Oper.wp execOp
  simp only [ho, hx, hy, Sem.run_bind, he, hg, Result.andThen_ok]
  exact h
theorem wpList_neq_arr {w : World} {ops : Array Oper} {rest : List Oper} {op : Oper} {a : Act} {Q : Exit → Act → World → Prop} (hgd : op.guard = none) (x y : Operand) (ty : TypeId) (ho : op.op = .binOp .neq 25 x y ty)
    (p q : List UInt8) (hx : a.eval x = .agg (arrC b8 p)) (hy : a.eval y = .agg (arrC b8 q)) (hp : p.length = 32) (hq : q.length = 32)
    (hk : wpList Try.prog ops Q rest (a.put op.dst (.bool (!sameB p q))) w) : wpList Try.prog ops Q (op :: rest) a w :=
  wpList_plain hgd fun _ hK => wp_neq_arr x y ty ho p q hx hy hp hq (hK _ _ hk)
theorem wpListG_neq_arr {w : World} {ops : Array Oper} {rest : List Oper} {op : Oper} {a : Act} {Q : Exit → Act → World → Prop} (hw : Region.wanted op (yielded ops a.tmps) = true) (x y : Operand) (ty : TypeId) (ho : op.op = .binOp .neq 25 x y ty)
    (p q : List UInt8) (hx : a.eval x = .agg (arrC b8 p)) (hy : a.eval y = .agg (arrC b8 q)) (hp : p.length = 32) (hq : q.length = 32)
    (hk : wpList Try.prog ops Q rest (a.put op.dst (.bool (!sameB p q))) w) : wpList Try.prog ops Q (op :: rest) a w :=
  wpList_wanted hw fun _ hK => wp_neq_arr x y ty ho p q hx hy hp hq (hK _ _ hk)
theorem wpList_store_to {P : Program} {w : World} {ops : Array Oper} {rest : List Oper} {op : Oper} {a : Act} {Q : Exit → Act → World → Prop} (hgd : op.guard = none) (ty : TypeId) (x y : Operand) (ho : op.op = .store ty x y) (hdst : op.dst = none)
    {g o : Nat} {t : TypeId} {cur cells : Array Value} (hx : a.eval x = .pointer (some ⟨g, o, none⟩)) (hy : a.eval y = .agg cells) (hB : Blk w g t cur)
    (hi : (P.info? ty).map (·.size) = some cells.size) (hfit : o + cells.size ≤ cur.size) (h1 : ∀ v ∈ cells.toList, v.oneCell' = true)
    (h : ∀ w', Blk w' g t (spl cur o cells) → w.grownBy w' (some g) → w'.heap.size = w.heap.size → wpList P ops Q rest a w') : wpList P ops Q (op :: rest) a w :=
  wpList_store_part hgd ty x y ho hx hy hB hi hfit h1 fun w' h2 h3 h4 => by rw [hdst]; exact h w' h2 h3 h4
theorem wpListG_neq_arrB {w : World} {ops : Array Oper} {rest : List Oper} {op : Oper} {a : Act} {Q : Exit → Act → World → Prop} (hw : Region.wanted op (yielded ops a.tmps) = true) (x y : Operand) (ty : TypeId) (ho : op.op = .binOp .neq 25 x y ty)
    (p q : List UInt8) (hx : a.eval x = .agg (arrC b8 p)) (hy : a.eval y = .agg (arrC b8 q)) (hp : p.length = 32) (hq : q.length = 32) (b c : Bool) (hb : sameB p q = b) (hc : (!b) = c)
    (hk : wpList Try.prog ops Q rest (a.put op.dst (.bool c)) w) : wpList Try.prog ops Q (op :: rest) a w :=
  wpListG_neq_arr hw x y ty ho p q hx hy hp hq (by rw [hb, hc]; exact hk)
theorem getN_lt (l : List UInt8) : ∀ i, getN l i < 2 ^ (8 * i)
  | 0 => by simp [getN]
  | i + 1 => by
    have h3 : 2 ^ (8 * i) ≤ 2 ^ (8 * (i + 1)) := Nat.pow_le_pow_right (by omega) (by omega)
    have h4 := getN_lt l i
    exact Nat.or_lt_two_pow (by omega) (byte_shift _ i)
/-- the head of a message -/
def parH (l : List UInt8) : Hd := ⟨getN (l.take 1) 1, getN ((l.drop 1).take 1) 1, getN ((l.drop 2).take 2) 2, getN ((l.drop 4).take 4) 4⟩
/-- a part of a message -/
def parP (l : List UInt8) (i : Nat) : List UInt8 := (l.drop (8 + 32 * i)).take 32
def parPs (l : List UInt8) (n : Nat) : List (List UInt8) := (List.range n).map (parP l)
theorem parH_ok (l : List UInt8) : (parH l).ok := by
  refine ⟨?_, ?_, ?_, ?_⟩
  · exact getN_lt _ 1
  · exact getN_lt _ 1
  · exact getN_lt _ 2
  · exact getN_lt _ 4
theorem parH_fields (l : List UInt8) : fieldsN [1, 1, 2, 4] l = [(parH l).kind, (parH l).flags, (parH l).queue, (parH l).seq] := by
  simp [fieldsN, parH, List.drop_drop]
theorem parP_len (l : List UInt8) (n i : Nat) (hl : l.length = 8 + 32 * n) (hi : i < n) : (parP l i).length = 32 := by unfold parP; rw [List.length_take, List.length_drop]; omega
theorem parPs_succ (l : List UInt8) (n : Nat) : parPs l (n + 1) = parPs l n ++ [parP l n] := by unfold parPs; rw [List.range_succ, List.map_append]; rfl
theorem parPs_len (l : List UInt8) (n : Nat) : (parPs l n).length = n := by unfold parPs; simp
/-- whether a message is refused -/
def parBad (l : List UInt8) (kind flags n : Nat) : Bool :=
  decide ((parH l).kind ≠ kind) || (decide (flags < (parH l).flags) || (decide (0 < flags) && (decide ((parH l).flags = 0) && !sameB (parP l (n - 1)) (List.replicate 32 0))))
def parE (l : List UInt8) (kind flags n : Nat) : Int := if l.length < 8 + 32 * n then 4 else if 8 + 32 * n < l.length then 5 else if parBad l kind flags n then 6 else 0
end Go.Proofs.Ytfamififoifagaa
