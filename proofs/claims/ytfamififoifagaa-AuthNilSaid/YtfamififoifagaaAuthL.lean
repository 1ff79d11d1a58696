/- Words for auth: an end in memory, its parts read and written; regions that draw their order, their loads taken first. -/
import Derived.Test.YtfamififoifagaaAuthR
import Derived.OrdersHeld
namespace Go.Proofs.Ytfamififoifagaa
open Go.RowKit Words

section
variable {v : Value} {H S : ByteArray} {h : Hd} {N M : List UInt8} {o d : Bool}
theorem endC_size (hN : N.length = 32) : (endC v H S h N o d).toArray.size = 41 := by simp [endC, hdC, hN]
theorem endC_tail (hN : N.length = 32) (j : Nat) : (endC v H S h N o d)[39 + j]? = [Value.bool o, Value.bool d][j]? := by
  rw [show endC v H S h N o d = ([v, .string H, .string S] ++ hdC h ++ N.map b8) ++ [.bool o, .bool d] from by simp [endC]]
  have hl : ([v, .string H, .string S] ++ hdC h ++ N.map b8).length = 39 := by simp [hdC, hN]
  rw [List.getElem?_append_right (by omega), hl]
  congr 1
  omega
theorem endC_open (hN : N.length = 32) : (endC v H S h N o d).toArray[39]? = some (.bool o) := by rw [List.getElem?_toArray]; exact endC_tail hN 0
theorem endC_done (hN : N.length = 32) : (endC v H S h N o d).toArray[40]? = some (.bool d) := by rw [List.getElem?_toArray]; exact endC_tail hN 1
theorem endC_setOpen (hN : N.length = 32) (x : Bool) : (endC v H S h N o d).toArray.setIfInBounds 39 (.bool x) = (endC v H S h N x d).toArray := by
  rw [List.setIfInBounds_toArray]
  congr 1
  rw [show endC v H S h N o d = ([v, .string H, .string S] ++ hdC h ++ N.map b8) ++ [.bool o, .bool d] from by simp [endC]]
  have hl : ([v, .string H, .string S] ++ hdC h ++ N.map b8).length = 39 := by simp [hdC, hN]
  rw [List.set_append_right _ _ (by omega), hl]
  simp [endC]
theorem endC_setDone (hN : N.length = 32) (x : Bool) : (endC v H S h N o d).toArray.setIfInBounds 40 (.bool x) = (endC v H S h N o x).toArray := by
  rw [List.setIfInBounds_toArray]
  congr 1
  rw [show endC v H S h N o d = ([v, .string H, .string S] ++ hdC h ++ N.map b8) ++ [.bool o, .bool d] from by simp [endC]]
  have hl : ([v, .string H, .string S] ++ hdC h ++ N.map b8).length = 39 := by simp [hdC, hN]
  rw [List.set_append_right _ _ (by omega), hl]
  simp [endC]
theorem endC_setHead (h' : Hd) : ((((endC v H S h N o d).toArray.setIfInBounds 3 (.int .u8 (h'.kind : Nat))).setIfInBounds 4 (.int .u8 (h'.flags : Nat))).setIfInBounds 5 (.int .u16 (h'.queue : Nat))).setIfInBounds 6 (.int .u32 (h'.seq : Nat)) = (endC v H S h' N o d).toArray := by
  simp [endC, hdC]
theorem endC_nonce (hN : N.length = 32) (hM : M.length = 32) : spl (endC v H S h N o d).toArray 7 (arrC b8 M) = (endC v H S h M o d).toArray := by
  unfold spl
  congr 1
  have e : endC v H S h N o d = ([v, .string H, .string S] ++ hdC h) ++ (N.map b8 ++ [.bool o, .bool d]) := by simp [endC]
  have hl : ([v, .string H, .string S] ++ hdC h).length = 7 := by simp [hdC]
  rw [arrC_size, hM, show (endC v H S h N o d).toArray.toList = endC v H S h N o d from rfl, e, List.take_left' hl, List.drop_append, List.drop_eq_nil_of_le (by omega), hl, List.nil_append, List.drop_left' (by simp [hN])]
  simp [endC, arrC]
theorem end_range_party {w : World} {b : Nat} {t : TypeId} (hB : Blk w b t (endC v H S h N o d).toArray) : w.rangeAt b 0 [v, .string H, .string S] := fun j u hj => by
  rw [hB.cell, Nat.zero_add, List.getElem?_toArray]
  have hlt := (List.getElem?_eq_some_iff.1 hj).1
  rw [show endC v H S h N o d = [v, .string H, .string S] ++ (hdC h ++ (N.map b8 ++ [.bool o, .bool d])) from by simp [endC], List.getElem?_append_left hlt]
  exact hj
theorem end_range_head {w : World} {b : Nat} {t : TypeId} (hB : Blk w b t (endC v H S h N o d).toArray) : w.rangeAt b 3 (hdC h) := fun j u hj => by
  rw [hB.cell, List.getElem?_toArray]
  have hlt := (List.getElem?_eq_some_iff.1 hj).1
  rw [show endC v H S h N o d = [v, .string H, .string S] ++ (hdC h ++ (N.map b8 ++ [.bool o, .bool d])) from by simp [endC], List.getElem?_append_right (by simp)]
  simp only [List.length_cons, List.length_nil, Nat.add_sub_cancel_left]
  rw [List.getElem?_append_left hlt]
  exact hj
theorem end_range_nonce {w : World} {b : Nat} {t : TypeId} (hB : Blk w b t (endC v H S h N o d).toArray) : w.rangeAt b 7 (N.map b8) := fun j u hj => by
  rw [hB.cell, List.getElem?_toArray]
  have hlt := (List.getElem?_eq_some_iff.1 hj).1
  have e : endC v H S h N o d = ([v, .string H, .string S] ++ hdC h) ++ (N.map b8 ++ [.bool o, .bool d]) := by simp [endC]
  have hl : ([v, .string H, .string S] ++ hdC h).length = 7 := by simp [hdC]
  rw [e, List.getElem?_append_right (by omega), hl, Nat.add_sub_cancel_left, List.getElem?_append_left hlt]
  exact hj
end

section
variable {P : Program} {ops : Array Oper} {Q : Exit → Act → World → Prop} {md : Region.Mode} {S : World → Prop}
/-- the one operation that may come up -/
theorem heldOne {i : Nat} {o : Oper} {fuel : Nat} {listed : Array Bool} {a : Act} {w : World} (hr : Region.ready md ops listed = [i]) (ho : ops[i]? = some o)
    (h : ∀ K' : Act → World → Prop, (∀ a w, S w → wpAnyH P md ops Q S fuel (listed.setIfInBounds i true) a w → K' a w) → if Region.wanted o (yielded ops a.tmps) = true then Oper.wp P o a w K' Q else K' (a.put o.dst undef) w) :
    wpAnyH P md ops Q S (fuel + 1) listed a w :=
  wpAnyH_all hr (by simp) fun j hj => by
    obtain rfl : j = i := by simpa using hj
    exact wpOp_step ho fun K' hK => h K' fun a w h1 h2 => hK a w ⟨h1, h2⟩
theorem yields_load {op : Oper} {a : Act} (hw : Region.wanted op (yielded ops a.tmps) = true) (ty : TypeId) (x : Operand) (ho : op.op = .load ty x)
    (b o : Nat) (hx : a.eval x = .pointer (some ⟨b, o, none⟩)) (cs : List Value) (d : TypeDesc) (hS : ∀ w, S w → w.rangeAt b o cs)
    (hu : P.underlying ty = some d) (hd : d.isRow = true) (hi : (P.info? ty).map (·.size) = some cs.length) : YieldsIf P ops S op (.agg cs.toArray) a :=
  yieldsIf_load_mid hw ty x ho b o hx cs d hS hu hd hi
end
section
variable {w : World} {ops : Array Oper} {op : Oper} {a : Act} {K : Act → World → Prop} {Q : Exit → Act → World → Prop} {E : Prop}
theorem step_build_one (hgd : op.guard = none) (x : Operand) (ho : op.op = .buildSlice 67 1 #[(0, x)])
    (p : List UInt8) (hx : a.eval x = .agg (arrC b8 p)) (hp : p.length = 32)
    (hk : K (a.put op.dst (.slice (some ⟨w.heap.size, 0, none⟩) 1 1)) (w.alloc (.cells (arrC b8 p) 25))) :
    if Region.wanted op (yielded ops a.tmps) = true then Oper.wp Try.prog op a w K Q else E := by
  rw [if_pos (by simp [Region.wanted, hgd])]
  unfold Oper.wp execOp
  simp only [ho, List.map_toArray, List.map_cons, List.map_nil, hx, Sem.run_bind, build_one p hp w, Result.andThen_ok]
  exact hk
theorem step_build_two (hgd : op.guard = none) (x y : Operand) (ho : op.op = .buildSlice 67 2 #[(0, x), (1, y)])
    (p q : List UInt8) (hx : a.eval x = .agg (arrC b8 p)) (hy : a.eval y = .agg (arrC b8 q)) (hp : p.length = 32) (hq : q.length = 32)
    (hk : K (a.put op.dst (.slice (some ⟨w.heap.size, 0, none⟩) 2 2)) (w.alloc (.cells (arrC b8 (p ++ q)) 25))) :
    if Region.wanted op (yielded ops a.tmps) = true then Oper.wp Try.prog op a w K Q else E := by
  rw [if_pos (by simp [Region.wanted, hgd])]
  unfold Oper.wp execOp
  simp only [ho, List.map_toArray, List.map_cons, List.map_nil, hx, hy, Sem.run_bind, build_two p q hp hq w, Result.andThen_ok]
  exact hk
theorem step_neq_arr (hgd : op.guard = none) (x y : Operand) (ty : TypeId) (ho : op.op = .binOp .neq 25 x y ty)
    (p q : List UInt8) (hx : a.eval x = .agg (arrC b8 p)) (hy : a.eval y = .agg (arrC b8 q)) (hp : p.length = 32) (hq : q.length = 32)
    (hk : K (a.put op.dst (.bool (!sameB p q))) w) : if Region.wanted op (yielded ops a.tmps) = true then Oper.wp Try.prog op a w K Q else E := by
  rw [if_pos (by simp [Region.wanted, hgd])]
  exact wp_neq_arr x y ty ho p q hx hy hp hq hk
end
theorem OwnAt.drew {w : World} {base : Nat} {e : TypeId} {v : Value} {xs : List Value} (h : OwnAt w base e v xs) : OwnAt w.drew base e v xs := h
theorem step_callR {P : Program} {w : World} {ops : Array Oper} {op : Oper} {a : Act} {K : Act → World → Prop} {Q : Exit → Act → World → Prop} {E : Prop} (hgd : op.guard = none) {f : FuncId} {fn : Func} {args : Array Operand} {ts : Array TypeId} (ho : op.op = .call { callee := .value (.func f), args := args, argTypes := ts })
    (hf : P.funcs[f]? = some fn) (hn : (fn.name == "runtime.NumGoroutine") = false) (hb : fn.body.isNone = false) {vs : Array Value} (hv : args.map a.eval = vs) {R : Value → World → Prop}
    (hc : Calls P f vs w fun e w' => ∃ v, e = .returned v ∧ R v w') (h : ∀ v w', R v w' → K (a.put op.dst v) w') :
    if Region.wanted op (yielded ops a.tmps) = true then Oper.wp P op a w K Q else E := by
  rw [if_pos (by simp [Region.wanted, hgd])]
  have hn' : ¬ fn.name = "runtime.NumGoroutine" := by simpa using hn
  have hb' : ¬ fn.body = none := by intro h0; rw [h0] at hb; simp at hb
  have hr : (execOp a.eval op).run P w = .ok (.enter f vs) w := by
    unfold execOp
    simp [ho, resolve, Act.eval, Deferred.ofValue, invoke, callFunc, hf, hn', hb', ← hv]
  unfold Oper.wp
  rw [hr, Oper.upon_enter]
  exact hc.mono fun e w' ⟨v, he, hR⟩ => by subst he; exact h v w' hR
/-- a message of one part, of two: the parts laid ahead of the call -/
theorem bytes_one (h : Hd) (N : List UInt8) (g : Nat) (w : World) (hh : h.ok) (hN : N.length = 32) (hg : g = w.heap.size) :
    Calls Try.prog 26 #[.agg #[.int .u8 (h.kind : Nat), .int .u8 (h.flags : Nat), .int .u16 (h.queue : Nat), .int .u32 (h.seq : Nat)], .slice (some ⟨g, 0, none⟩) 1 1] (w.alloc (.cells (arrC b8 N) 25)) fun e w' => ∃ s, e = .returned s ∧ OwnAt w' w.heap.size 5 s ((msgB h [N]).map b8) ∧ Below w.heap.size w w' := by
  subst hg
  have hr : (w.alloc (.cells (arrC b8 N) 25)).rangeAt w.heap.size 0 ([N].flatten.map b8) := by
    have := blk_range (Blk.new_ (w := w) (t := 25) (cs := arrC b8 N) rfl)
    simpa [arrC] using this
  refine (bytes_head h [N] w.heap.size 0 1 1 _ hh (by simpa using hN) hr (by simp) rfl (by simp)).mono ?_
  rintro e w' ⟨s, h1, h2, h3⟩
  exact ⟨s, h1, h2.base (by simp), below_step ((Below.refl _ _).alloc (Nat.le_refl _) _) h3⟩
theorem bytes_two (h : Hd) (N M : List UInt8) (g : Nat) (w : World) (hh : h.ok) (hN : N.length = 32) (hM : M.length = 32) (hg : g = w.heap.size) :
    Calls Try.prog 26 #[.agg #[.int .u8 (h.kind : Nat), .int .u8 (h.flags : Nat), .int .u16 (h.queue : Nat), .int .u32 (h.seq : Nat)], .slice (some ⟨g, 0, none⟩) 2 2] (w.alloc (.cells (arrC b8 (N ++ M)) 25)) fun e w' => ∃ s, e = .returned s ∧ OwnAt w' w.heap.size 5 s ((msgB h [N, M]).map b8) ∧ Below w.heap.size w w' := by
  subst hg
  have hr : (w.alloc (.cells (arrC b8 (N ++ M)) 25)).rangeAt w.heap.size 0 ([N, M].flatten.map b8) := by
    have := blk_range (Blk.new_ (w := w) (t := 25) (cs := arrC b8 (N ++ M)) rfl)
    simpa [arrC] using this
  refine (bytes_head h [N, M] w.heap.size 0 2 2 _ hh (by simp [hN, hM]) hr (by simp) rfl (by simp)).mono ?_
  rintro e w' ⟨s, h1, h2, h3⟩
  exact ⟨s, h1, h2.base (by simp), below_step ((Below.refl _ _).alloc (Nat.le_refl _) _) h3⟩
end Go.Proofs.Ytfamififoifagaa
