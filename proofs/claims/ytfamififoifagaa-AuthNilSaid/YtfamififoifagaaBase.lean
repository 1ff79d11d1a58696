/- Words for memory: slices that read as lists, blocks that are known whole, what a call leaves as it was. No program in sight. -/
import Derived.WalkKit
import Derived.Deep.MidRow
import Derived.Deep.Draws
import Derived.Maps.AppendAt
namespace Go.Proofs.Ytfamififoifagaa
open Go.RowKit

theorem add_mk (b o j : Nat) : (⟨b, o, none⟩ : Addr).add j = ⟨b, o + j, none⟩ := Addr.add_mid b o j

/-- a slice with address A reads as the cells xs, below block B -/
def Sl (w : World) (B : Nat) (A : Option Addr) (xs : List Value) : Prop :=
  xs ≠ [] → ∃ b o, A = some ⟨b, o, none⟩ ∧ b < B ∧ w.rangeAt b o xs

theorem Sl.nil (w : World) (B : Nat) (A : Option Addr) : Sl w B A [] := fun h => absurd rfl h
theorem rangeAt_keep {w w' : World} {b o : Nat} {xs : List Value} (h : w.rangeAt b o xs) (hk : w'.heap[b]? = w.heap[b]?) : w'.rangeAt b o xs :=
  fun j v hv => (World.cell?_of_block (w := w) (a := ⟨b, o + j, none⟩) hk).trans (h j v hv)
theorem Sl.keep {w w' : World} {B : Nat} {A : Option Addr} {xs : List Value} (h : Sl w B A xs) (hk : ∀ k, k < B → w'.heap[k]? = w.heap[k]?) : Sl w' B A xs :=
  fun hx => by
    obtain ⟨b, o, e, hb, hr⟩ := h hx
    exact ⟨b, o, e, hb, rangeAt_keep hr (hk b hb)⟩
theorem Sl.below {w w' : World} {B : Nat} {A : Option Addr} {xs : List Value} (h : Sl w B A xs) (hb : Below B w w') : Sl w' B A xs := h.keep hb.block
theorem Sl.more {w : World} {B B' : Nat} {A : Option Addr} {xs : List Value} (h : Sl w B A xs) (hb : B ≤ B') : Sl w B' A xs := fun hx => by
  obtain ⟨b, o, e, hb', hr⟩ := h hx
  exact ⟨b, o, e, by omega, hr⟩
/-- the element at an index -/
theorem Sl.at_ {w : World} {B : Nat} {A : Option Addr} {xs : List Value} (h : Sl w B A xs) {k : Nat} (hk : k < xs.length) :
    ∃ b o, A = some ⟨b, o, none⟩ ∧ b < B ∧ w.cell? ⟨b, o + k, none⟩ = some xs[k] := by
  obtain ⟨b, o, e, hb, hr⟩ := h (by rintro rfl; simp at hk)
  exact ⟨b, o, e, hb, hr k _ (List.getElem?_eq_getElem hk)⟩


/-- a cell, frozen or not, of a block that may or may not be known whole -/
def cellAt : Option Obj → Nat → Option Value
  | some (.cells c _ _), o => c[o]?
  | _, _ => none
def frozAt : Option Obj → Nat → Bool
  | some (.cells _ _ (lo, hi)), o => decide (lo ≤ o) && decide (o < hi)
  | _, _ => false
theorem cell_unfold (w : World) (b o : Nat) : w.cell? ⟨b, o, none⟩ = cellAt w.heap[b]? o := by
  unfold World.cell? cellAt
  rcases h : w.heap[b]? with _ | x
  · rfl
  · cases x <;> rfl
theorem frozen_unfold (w : World) (b o : Nat) : w.frozen? ⟨b, o, none⟩ = frozAt w.heap[b]? o := by
  unfold World.frozen? frozAt
  rcases h : w.heap[b]? with _ | x
  · rfl
  · cases x <;> rfl
theorem cellAt_some (c : Array Value) (t : TypeId) (f : Nat × Nat) (o : Nat) : cellAt (some (.cells c t f)) o = c[o]? := rfl
theorem frozAt_some (c : Array Value) (t : TypeId) (o : Nat) : frozAt (some (.cells c t (0, 0))) o = false := by simp [frozAt]

theorem below_step {a w w' : World} (h : Below a.heap.size a w) (k : Below w.heap.size w w') : Below a.heap.size a w' := h.trans (k.mono h.size)
/-- block g is the cells cs of element type t, none of them frozen -/
def Blk (w : World) (g : Nat) (t : TypeId) (cs : Array Value) : Prop := w.heap[g]? = some (.cells cs t (0, 0))

section
variable {w w' : World} {g : Nat} {t : TypeId} {cs : Array Value}
theorem Blk.lt (h : Blk w g t cs) : g < w.heap.size := by
  rcases Nat.lt_or_ge g w.heap.size with hlt | hge
  · exact hlt
  · unfold Blk at h; rw [Array.getElem?_eq_none hge] at h; cases h
theorem Blk.cell (h : Blk w g t cs) (i : Nat) : w.cell? ⟨g, i, none⟩ = cs[i]? := by
  rw [cell_unfold, show w.heap[g]? = _ from h]; rfl
theorem Blk.frozen (h : Blk w g t cs) (i : Nat) : w.frozen? ⟨g, i, none⟩ = false := by
  rw [frozen_unfold, show w.heap[g]? = _ from h, frozAt_some]
theorem Blk.new (w : World) (t : TypeId) (cs : Array Value) : Blk (w.alloc (.cells cs t)) w.heap.size t cs := heap_alloc_new w _
theorem Blk.new_ {w : World} {t : TypeId} {cs : Array Value} {g : Nat} (hg : g = w.heap.size) : Blk (w.alloc (.cells cs t)) g t cs := by subst hg; exact heap_alloc_new w _
theorem Blk.drew (h : Blk w g t cs) : Blk w.drew g t cs := h
theorem Blk.drewN (h : Blk w g t cs) (n : Nat) : Blk (w.drewN n) g t cs := h
theorem Blk.alloc (h : Blk w g t cs) (o : Obj) : Blk (w.alloc o) g t cs := (Below.heap_alloc w o g h.lt).trans h
theorem Blk.set_ (h : Blk w g t cs) (i : Nat) (u : Value) : Blk (w.setCell ⟨g, i, none⟩ u) g t (cs.setIfInBounds i u) := by
  unfold Blk at h ⊢
  simp [World.setCell, Array.getElem?_modify, h]
theorem Blk.far (h : Blk w g t cs) {p : Addr} (hp : g ≠ p.block) (u : Value) : Blk (w.setCell p u) g t cs := (Below.heap_setCell w p u g hp).trans h
theorem Blk.below {B : Nat} (h : Blk w g t cs) (hb : Below B w w') (hg : g < B) : Blk w' g t cs := (hb.block g hg).trans h
end

theorem ret_row {P : Program} {fn : Func} {p : Tmp} {ty : TypeId} (h : fn.results = #[.cell p ty]) {a : Act} {w : World} {R : Ending → World → Prop} {g : Nat} {t : TypeId} {cs : Array Value} {d : TypeDesc}
    (hp : a.tmps.getD p undef = .pointer (some ⟨g, 0, none⟩)) (hB : Blk w g t cs) (hu : P.underlying ty = some d) (hd : d.isRow = true) (hi : (P.info? ty).map (·.size) = some cs.size)
    (hR : R (.returned (.agg cs)) w) (hdef : a.defers = []) : bodyPost P fn R .ret a w :=
  bodyPost_ret (results_cell_row h _ _ g t cs (0, 0) d hp hB hu (by cases d <;> first | rfl | cases hd) hi) hdef hR

/-- the index of the first element that f takes; -1 if there is none -/
def firstI {α : Type} (f : α → Bool) (l : List α) : Int := if l.any f then ((l.findIdx f : Nat) : Int) else -1
theorem firstI_at {α : Type} {f : α → Bool} {l : List α} {k : Nat} (h : k < l.length) (hp : f l[k] = true) (hb : ∀ j, (h : j < l.length) → j < k → f l[j] = false) : firstI f l = (k : Nat) := by
  unfold firstI
  rw [if_pos (List.any_eq_true.2 ⟨l[k], List.getElem_mem h, hp⟩), (List.findIdx_eq h).2 ⟨hp, fun j hj => hb j (by omega) hj⟩]
theorem firstI_none {α : Type} {f : α → Bool} {l : List α} (hb : ∀ j, (h : j < l.length) → f l[j] = false) : firstI f l = -1 := by
  unfold firstI
  rw [if_neg]
  rw [List.any_eq_false.2 (fun x hx => by
        obtain ⟨j, hj, rfl⟩ := List.getElem_of_mem hx
        rw [hb j hj]; exact Bool.false_ne_true)]
  exact Bool.false_ne_true
theorem firstI_any {α : Type} (f : α → Bool) (l : List α) : decide (0 ≤ firstI f l) = l.any f := by
  unfold firstI
  cases h : l.any f
  · rw [if_neg Bool.false_ne_true]; rfl
  · rw [if_pos rfl]; simp

/-- the cells of a block where those from o on are replaced -/
def spl (cur : Array Value) (o : Nat) (vs : Array Value) : Array Value := (cur.toList.take o ++ vs.toList ++ cur.toList.drop (o + vs.size)).toArray
theorem spl_all (cur vs : Array Value) (h : vs.size = cur.size) : spl cur 0 vs = vs := by
  unfold spl; rw [List.take_zero, List.drop_eq_nil_of_le (by simp; omega)]; simp

section
variable {P : Program} {w : World}
theorem run_load_part {g o : Nat} {t ty : TypeId} {cur : Array Value} {d : TypeDesc} (hB : Blk w g t cur) (hu : P.underlying ty = some d) (hd : d.isRow = true) (n : Nat)
    (hi : (P.info? ty).map (·.size) = some n) (hfit : o + n ≤ cur.size) : (Instr.loadAt ty (.pointer (some ⟨g, o, none⟩))).run P w = .ok (.agg (cur.extract o (o + n))) w := by
  have hl : (cur.extract o (o + n)).toList.length = n := by simp; omega
  have h := run_loadAt_mid (P := P) w g o ty (cur.extract o (o + n)).toList d (fun j v hv => by
    have hj := (List.getElem?_eq_some_iff.1 hv).1
    rw [hB.cell]
    rw [Array.getElem?_toList] at hv
    rw [hl] at hj
    rw [Array.getElem?_extract] at hv
    split at hv
    · exact hv
    · omega) hu hd (by rw [hl]; exact hi)
  rw [Array.toArray_toList] at h
  exact h
theorem wp_load_part {op : Oper} {a : Act} {K : Act → World → Prop} {Q : Exit → Act → World → Prop} (ty : TypeId) (x : Operand) (ho : op.op = .load ty x)
    {g o : Nat} {t : TypeId} {cur : Array Value} {d : TypeDesc} (hx : a.eval x = .pointer (some ⟨g, o, none⟩)) (hB : Blk w g t cur) (hu : P.underlying ty = some d) (hd : d.isRow = true) (n : Nat)
    (hi : (P.info? ty).map (·.size) = some n) (hfit : o + n ≤ cur.size) (h : K (a.put op.dst (.agg (cur.extract o (o + n)))) w) : op.wp P a w K Q := by
  unfold Oper.wp execOp
  simp only [ho, hx, Sem.run_bind, Sem.run_pure, run_load_part hB hu hd n hi hfit, Result.andThen_ok]
  exact h
theorem wpList_load_part {ops : Array Oper} {rest : List Oper} {op : Oper} {a : Act} {Q : Exit → Act → World → Prop} (hgd : op.guard = none) (ty : TypeId) (x : Operand) (ho : op.op = .load ty x)
    {g o : Nat} {t : TypeId} {cur : Array Value} {d : TypeDesc} (hx : a.eval x = .pointer (some ⟨g, o, none⟩)) (hB : Blk w g t cur) (hu : P.underlying ty = some d) (hd : d.isRow = true) (n : Nat)
    (hi : (P.info? ty).map (·.size) = some n) (hfit : o + n ≤ cur.size) (h : wpList P ops Q rest (a.put op.dst (.agg (cur.extract o (o + n)))) w) : wpList P ops Q (op :: rest) a w :=
  wpList_plain hgd fun _ hK => wp_load_part ty x ho hx hB hu hd n hi hfit (hK _ _ h)
/-- the whole block is loaded -/
theorem wpList_load_all {ops : Array Oper} {rest : List Oper} {op : Oper} {a : Act} {Q : Exit → Act → World → Prop} (hgd : op.guard = none) (ty : TypeId) (x : Operand) (ho : op.op = .load ty x)
    {g : Nat} {t : TypeId} {cur : Array Value} {d : TypeDesc} (hx : a.eval x = .pointer (some ⟨g, 0, none⟩)) (hB : Blk w g t cur) (hu : P.underlying ty = some d) (hd : d.isRow = true)
    (hi : (P.info? ty).map (·.size) = some cur.size) (h : wpList P ops Q rest (a.put op.dst (.agg cur)) w) : wpList P ops Q (op :: rest) a w :=
  wpList_load_part hgd ty x ho hx hB hu hd cur.size hi (by omega) (by simpa using h)

theorem grown_setRow (w : World) (g : Nat) (cs : Array Value) : w.grownBy (w.setRow g cs) (some g) :=
  ⟨rfl, rfl, rfl, by simp, fun k _ hk => setRow_other w g k _ (fun e => hk (by rw [e]))⟩

theorem wp_store_part {op : Oper} {a : Act} {K : Act → World → Prop} {Q : Exit → Act → World → Prop} (ty : TypeId) (x y : Operand) (ho : op.op = .store ty x y)
    {g o : Nat} {t : TypeId} {cur cells : Array Value} (hx : a.eval x = .pointer (some ⟨g, o, none⟩)) (hy : a.eval y = .agg cells) (hB : Blk w g t cur)
    (hi : (P.info? ty).map (·.size) = some cells.size) (hfit : o + cells.size ≤ cur.size) (h1 : ∀ v ∈ cells.toList, v.oneCell' = true)
    (h : ∀ w', Blk w' g t (spl cur o cells) → w.grownBy w' (some g) → w'.heap.size = w.heap.size → K (a.put op.dst undef) w') : op.wp P a w K Q := by
  have hs := run_storeCells_at (P := P) g o t cells.toList 0 cur w hB (by simpa using hfit) h1
  simp only [Nat.add_zero, Array.length_toList] at hs
  have hs' : (storeCells ⟨g, o, none⟩ cells.toList).run P w = .ok () (w.setRow g (spl cur o cells)) := hs
  have hv : (storeVar ty ⟨g, o, none⟩ (.agg cells)).run P w = .ok () (w.setRow g (spl cur o cells)) := by
    cases hq : P.info? ty with
    | none => simp [hq] at hi
    | some i =>
      have hsz : cells.size = i.size := by simp [hq] at hi; omega
      simp [storeVar, sizeOf, typeInfo, hq, Value.cells, hsz, hs']
  unfold Oper.wp execOp
  simp only [ho, hx, hy, Instr.storeAt, Instr.sureAddr, Sem.run_bind, Sem.run_pure, Result.andThen_ok, hv]
  exact h _ (setRow_heap w g cur _ t _ hB) (grown_setRow w g _) (by simp)
theorem wpList_store_part {ops : Array Oper} {rest : List Oper} {op : Oper} {a : Act} {Q : Exit → Act → World → Prop} (hgd : op.guard = none) (ty : TypeId) (x y : Operand) (ho : op.op = .store ty x y)
    {g o : Nat} {t : TypeId} {cur cells : Array Value} (hx : a.eval x = .pointer (some ⟨g, o, none⟩)) (hy : a.eval y = .agg cells) (hB : Blk w g t cur)
    (hi : (P.info? ty).map (·.size) = some cells.size) (hfit : o + cells.size ≤ cur.size) (h1 : ∀ v ∈ cells.toList, v.oneCell' = true)
    (h : ∀ w', Blk w' g t (spl cur o cells) → w.grownBy w' (some g) → w'.heap.size = w.heap.size → wpList P ops Q rest (a.put op.dst undef) w') : wpList P ops Q (op :: rest) a w :=
  wpList_plain hgd fun _ hK => wp_store_part ty x y ho hx hy hB hi hfit h1 fun w' h2 h3 h4 => hK _ _ (h w' h2 h3 h4)
end

theorem below_grown {a w w' : World} {g : Nat} (h : Below a.heap.size a w) (hg : w.grownBy w' (some g)) (hb : a.heap.size ≤ g) : Below a.heap.size a w' :=
  h.grown hg h.size (fun k e => by injection e with e; omega)
theorem Blk.grown {w w' : World} {g : Nat} {t : TypeId} {cs : Array Value} {row : Option Nat} (h : Blk w g t cs) (hb : w.grownBy w' row) (hg : some g ≠ row) : Blk w' g t cs := (hb.block g h.lt hg).trans h

section
variable {P : Program} {w : World} {ops : Array Oper} {op : Oper} {a : Act} {K : Act → World → Prop} {Q : Exit → Act → World → Prop} {E : Prop}
theorem step_load_part (hgd : op.guard = none) (ty : TypeId) (x : Operand) (ho : op.op = .load ty x)
    {g o : Nat} {t : TypeId} {cur : Array Value} {d : TypeDesc} (hx : a.eval x = .pointer (some ⟨g, o, none⟩)) (hB : Blk w g t cur) (hu : P.underlying ty = some d) (hd : d.isRow = true) (n : Nat)
    (hi : (P.info? ty).map (·.size) = some n) (hfit : o + n ≤ cur.size) (h : K (a.put op.dst (.agg (cur.extract o (o + n)))) w) :
    if Region.wanted op (yielded ops a.tmps) = true then Oper.wp P op a w K Q else E := by
  rw [if_pos (by simp [Region.wanted, hgd])]
  exact wp_load_part ty x ho hx hB hu hd n hi hfit h
theorem step_load_all (hgd : op.guard = none) (ty : TypeId) (x : Operand) (ho : op.op = .load ty x)
    {g : Nat} {t : TypeId} {cur : Array Value} {d : TypeDesc} (hx : a.eval x = .pointer (some ⟨g, 0, none⟩)) (hB : Blk w g t cur) (hu : P.underlying ty = some d) (hd : d.isRow = true)
    (hi : (P.info? ty).map (·.size) = some cur.size) (h : K (a.put op.dst (.agg cur)) w) :
    if Region.wanted op (yielded ops a.tmps) = true then Oper.wp P op a w K Q else E :=
  step_load_part hgd ty x ho hx hB hu hd cur.size hi (by omega) (by simpa using h)
theorem step_store_part (hgd : op.guard = none) (ty : TypeId) (x y : Operand) (ho : op.op = .store ty x y)
    {g o : Nat} {t : TypeId} {cur cells : Array Value} (hx : a.eval x = .pointer (some ⟨g, o, none⟩)) (hy : a.eval y = .agg cells) (hB : Blk w g t cur)
    (hi : (P.info? ty).map (·.size) = some cells.size) (hfit : o + cells.size ≤ cur.size) (h1 : ∀ v ∈ cells.toList, v.oneCell' = true)
    (h : ∀ w', Blk w' g t (spl cur o cells) → w.grownBy w' (some g) → w'.heap.size = w.heap.size → K (a.put op.dst undef) w') :
    if Region.wanted op (yielded ops a.tmps) = true then Oper.wp P op a w K Q else E := by
  rw [if_pos (by simp [Region.wanted, hgd])]
  exact wp_store_part ty x y ho hx hy hB hi hfit h1 h

/-- an element of an array that is a value -/
theorem run_index_arr {t e : TypeId} {n : Nat} {de : TypeDesc} (hu : P.underlying t = some (.array n e)) (he : P.underlying e = some de) (hd : de.isRow = false) (hs : (P.info? e).map (·.size) = some 1)
    (cs : Array Value) (kd : IntKind) (k : Nat) (v : Value) (hk : k < n) (hv : cs[k]? = some v) (w : World) : (Instr.index t (.agg cs) (.int kd ((k : Nat) : Int))).run P w = .ok v w := by
  have h1 : (0 : Int) ≤ ((k : Nat) : Int) ∧ ((k : Nat) : Int) < (n : Int) := by omega
  cases hq : P.info? e with
  | none => simp [hq] at hs
  | some i =>
    have hs' : i.size = 1 := by simpa [hq] using hs
    have hagg : (isAgg e).run P w = .ok false w := by
      unfold isAgg
      rw [Sem.run_bind, run_underlying he w]
      cases de <;> simp_all
    simp [Instr.index, asIntOf, run_underlying hu, h1, sizeOf, typeInfo, hq, hs', part, Sem.run_bind, hagg, hv]
    intro hge; omega
end

theorem ret_row2 {P : Program} {fn : Func} {p q : Tmp} {ty ty' : TypeId} (h : fn.results = #[.cell p ty, .cell q ty']) {a : Act} {w : World} {R : Ending → World → Prop} {g g' : Nat} {t t' : TypeId} {cs cs' : Array Value} {d d' : TypeDesc}
    (hp : a.tmps.getD p undef = .pointer (some ⟨g, 0, none⟩)) (hB : Blk w g t cs) (hu : P.underlying ty = some d) (hd : d.isRow = true) (hi : (P.info? ty).map (·.size) = some cs.size)
    (hp' : a.tmps.getD q undef = .pointer (some ⟨g', 0, none⟩)) (hB' : Blk w g' t' cs') (hu' : P.underlying ty' = some d') (hd' : d'.isRow = true) (hi' : (P.info? ty').map (·.size) = some cs'.size)
    (hR : R (.returned (.tuple #[.agg cs, .agg cs'])) w) (hdef : a.defers = []) : bodyPost P fn R .ret a w := by
  refine bodyPost_ret (v := .tuple #[.agg cs, .agg cs']) ?_ hdef hR
  have e1 : a.tmps[p]?.getD undef = .pointer (some ⟨g, 0, none⟩) := by simpa using hp
  have e2 : a.tmps[q]?.getD undef = .pointer (some ⟨g', 0, none⟩) := by simpa using hp'
  have l1 := run_loadVar_row (P := P) w g t ty cs (0, 0) d hB hu (by cases d <;> first | rfl | cases hd) hi
  have l2 := run_loadVar_row (P := P) w g' t' ty' cs' (0, 0) d' hB' hu' (by cases d' <;> first | rfl | cases hd') hi'
  simp [results, h, e1, e2, asAddr, l1, l2]

/-- an array while it is filled from its head on -/
def fillC {α : Type} (f : α → Value) (z : α) (n : Nat) (l : List α) : Array Value := ((l ++ List.replicate (n - l.length) z).map f).toArray
/-- an array whose elements are known -/
def arrC {α : Type} (f : α → Value) (l : List α) : Array Value := (l.map f).toArray
section
variable {α : Type} {f : α → Value} {z : α} {n : Nat} {l : List α}
theorem arrC_size : (arrC f l).size = l.length := by simp [arrC]
theorem arrC_at {k : Nat} (h : k < l.length) : (arrC f l)[k]? = some (f l[k]) := by simp [arrC, h]
theorem arrC_set {k : Nat} (x : α) : (arrC f l).setIfInBounds k (f x) = arrC f (l.set k x) := by simp [arrC, List.map_set]
theorem arrC_one (hf : ∀ x, (f x).oneCell' = true) : ∀ v ∈ (arrC f l).toList, v.oneCell' = true := by
  unfold arrC; intro v hv
  rw [List.mem_map] at hv
  obtain ⟨n, _, rfl⟩ := hv
  exact hf n
theorem fillC_eq : fillC f z n l = arrC f (l ++ List.replicate (n - l.length) z) := rfl
theorem fillC_full (h : l.length = n) : fillC f z n l = arrC f l := by rw [fillC_eq, h, Nat.sub_self]; simp
theorem fillC_size (h : l.length ≤ n) : (fillC f z n l).size = n := by rw [fillC_eq, arrC_size]; simp; omega
theorem fillC_at (h : l.length < n) : (fillC f z n l)[l.length]? = some (f z) := by
  rw [fillC_eq, arrC_at (by simp; omega)]
  simp [List.getElem_append_right]
theorem fillC_old {k : Nat} (h : k < l.length) : (fillC f z n l)[k]? = some (f l[k]) := by
  rw [fillC_eq, arrC_at (by simp; omega)]
  simp [List.getElem_append_left, h]
theorem fillC_set (x : α) (h : l.length < n) : (fillC f z n l).setIfInBounds l.length (f x) = fillC f z n (l ++ [x]) := by
  rw [fillC_eq, fillC_eq, arrC_set]
  congr 1
  rw [show n - l.length = (n - (l ++ [x]).length) + 1 from by simp; omega, List.replicate_succ, List.set_append_right _ _ (by omega), Nat.sub_self, List.set_cons_zero, List.append_assoc]
  rfl
end

end Go.Proofs.Ytfamififoifagaa
