/- Contracts of sha's digest: absorb, Write, Sum, Copy. -/
import Derived.Test.YtfamififoifagaaShaK
import Derived.Test.YtfamififoifagaaShaT
import Derived.Test.YtfamififoifagaaBase2
import Derived.Lib.BufferOwn
namespace Go.Proofs.Ytfamififoifagaa
open Go.RowKit Words

def ST0 : S8 := ⟨ST.getD 0 0, ST.getD 1 0, ST.getD 2 0, ST.getD 3 0, ST.getD 4 0, ST.getD 5 0, ST.getD 6 0, ST.getD 7 0⟩
theorem list8 (l : List UInt32) (h : l.length = 8) : l = [l.getD 0 0, l.getD 1 0, l.getD 2 0, l.getD 3 0, l.getD 4 0, l.getD 5 0, l.getD 6 0, l.getD 7 0] := by
  match l, h with
  | [_, _, _, _, _, _, _, _], _ => rfl
theorem ST0_of (l : List UInt32) (h : l.length = 8) : S8.list ⟨l.getD 0 0, l.getD 1 0, l.getD 2 0, l.getD 3 0, l.getD 4 0, l.getD 5 0, l.getD 6 0, l.getD 7 0⟩ = l := (list8 l h).symm
theorem ST0_list : ST0.list = ST := ST0_of ST ST_len
/-- the block k of bytes -/
def blkOf (l : List UInt8) (k : Nat) : List UInt8 := (l.drop (64 * k)).take 64
/-- the state after k complete blocks -/
def chainS (l : List UInt8) : Nat → S8
  | 0 => ST0
  | k + 1 => steppedF (chainS l k) (blkOf l k) RK
/-- the cells of a chain that has absorbed k blocks: state, rounds, made -/
def stC (l : List UInt8) (k : Nat) : List UInt32 := if k = 0 then List.replicate 8 0 else (chainS l k).list
def rkC (k : Nat) : List UInt32 := if k = 0 then List.replicate 64 0 else RK
def dC (l : List UInt8) (k : Nat) (rest : Value) (n : Nat) : Array Value := ((stC l k).map v32 ++ (rkC k).map v32 ++ [.bool (decide (0 < k)), rest, .int .i64 (n : Nat)]).toArray
theorem S8_len (s : S8) : s.list.length = 8 := rfl
theorem stC_len (l : List UInt8) (k : Nat) : (stC l k).length = 8 := by unfold stC; split <;> rfl
theorem rkC_len (k : Nat) : (rkC k).length = 64 := by unfold rkC; split; · rfl
                                                      · exact RK_len
theorem dC_size (l : List UInt8) (k : Nat) (rest : Value) (n : Nat) : (dC l k rest n).size = 75 := by simp [dC, stC_len, rkC_len]
theorem dC_made (l : List UInt8) (k : Nat) (rest : Value) (n : Nat) : (dC l k rest n)[72]? = some (.bool (decide (0 < k))) := by
  unfold dC
  rw [List.getElem?_toArray, List.getElem?_append_right (by simp [stC_len, rkC_len])]
  simp [stC_len, rkC_len]
theorem dC_rest (l : List UInt8) (k : Nat) (rest : Value) (n : Nat) : (dC l k rest n)[73]? = some rest := by
  unfold dC
  rw [List.getElem?_toArray, List.getElem?_append_right (by simp [stC_len, rkC_len])]
  simp [stC_len, rkC_len]
theorem dC_n (l : List UInt8) (k : Nat) (rest : Value) (n : Nat) : (dC l k rest n)[74]? = some (.int .i64 (n : Nat)) := by
  unfold dC
  rw [List.getElem?_toArray, List.getElem?_append_right (by simp [stC_len, rkC_len])]
  simp [stC_len, rkC_len]


/-- block b is a chain with some state, the given rounds, and what follows -/
def Dg (w : World) (b : Nat) (rk : List UInt32) (tail : List Value) : Prop :=
  ∃ st : List UInt32, st.length = 8 ∧ Blk w b 117 (st.map v32 ++ rk.map v32 ++ tail).toArray

theorem cut_mid {α : Type} (a b c : List α) (n m : Nat) (ha : a.length = n) (hb : b.length = m) : (a ++ b ++ c).toArray.extract n (n + m) = b.toArray := by
  subst ha; subst hb
  simp [List.extract_toArray]
theorem cut_head {α : Type} (a b : List α) (n : Nat) (ha : a.length = n) : (a ++ b).toArray.extract 0 (0 + n) = a.toArray := by
  subst ha
  simp [List.extract_toArray]

theorem grown_drew {a w : World} {row : Option Nat} (h : a.grownBy w row) : a.grownBy w.drew row := ⟨h.os, h.tape, h.output, h.size, h.block⟩
theorem load_rounds {b : Nat} {rk : List UInt32} {tail : List Value} (hr : rk.length = 64) (wx : World) (h : Dg wx b rk tail) :
    (Instr.loadAt 113 (.pointer (some ⟨b, 8, none⟩))).run Try.prog wx = .ok (.agg (arrC v32 rk)) wx := by
  obtain ⟨st, h8, hB⟩ := h
  rw [run_load_part hB Try.underlying113 rfl 64 (by kernel_rfl) (by simp; omega), cut_mid _ _ _ 8 64 (by simpa using h8) (by simpa using hr)]
  rfl
theorem load_state {b : Nat} {st : List UInt32} {tail : List Value} (h8 : st.length = 8) (wx : World) (hB : Blk wx b 117 (st.map v32 ++ tail).toArray) :
    (Instr.loadAt 112 (.pointer (some ⟨b, 0, none⟩))).run Try.prog wx = .ok (.agg (arrC v32 st)) wx := by
  rw [run_load_part hB Try.underlying112 rfl 8 (by kernel_rfl) (by simp; omega), cut_head _ _ 8 (by simpa using h8)]
  rfl
theorem array_at {P : Program} {arr e : TypeId} {n : Nat} (hu : P.underlying arr = some (.array n e)) (A : Option Addr) (m c : Nat) (h : n ≤ m) (w : World) :
    (Instr.arrayAt arr (.slice A m c)).run P w = .ok (.pointer A) w := by
  have h' : ¬ m < n := by omega
  simp [Instr.arrayAt, run_underlying hu, h']
theorem load_bytes {bs os : Nat} {l : List UInt8} (hl : l.length = 64) (wx : World) (h : wx.rangeAt bs os (l.map b8)) :
    (Instr.loadAt 104 (.pointer (some ⟨bs, os, none⟩))).run Try.prog wx = .ok (.agg (arrC b8 l)) wx :=
  run_loadAt_mid wx bs os 104 (l.map b8) _ h Try.underlying104 rfl (by rw [List.length_map, hl]; kernel_rfl)
theorem run_store_part {P : Program} {w : World} {g o : Nat} {t ty : TypeId} {cur cells : Array Value} (hB : Blk w g t cur)
    (hi : (P.info? ty).map (·.size) = some cells.size) (hfit : o + cells.size ≤ cur.size) (h1 : ∀ v ∈ cells.toList, v.oneCell' = true) :
    (Instr.storeAt ty (.pointer (some ⟨g, o, none⟩)) (.agg cells)).run P w = .ok () (w.setRow g (spl cur o cells)) := by
  have hs := run_storeCells_at (P := P) g o t cells.toList 0 cur w hB (by simpa using hfit) h1
  simp only [Nat.add_zero, Array.length_toList] at hs
  have hs' : (storeCells ⟨g, o, none⟩ cells.toList).run P w = .ok () (w.setRow g (spl cur o cells)) := hs
  cases hq : P.info? ty with
  | none => simp [hq] at hi
  | some i =>
    have hsz : cells.size = i.size := by simp [hq] at hi; omega
    simp [Instr.storeAt, Instr.sureAddr, storeVar, sizeOf, typeInfo, hq, Value.cells, hsz, hs']
theorem spl_head (st st' : List UInt32) (tail : List Value) (h : st.length = 8) (h' : st'.length = 8) : spl (st.map v32 ++ tail).toArray 0 (arrC v32 st') = (st'.map v32 ++ tail).toArray := by
  unfold spl arrC
  simp [h, h']
theorem spl_mid (a st st' c : List Value) (n : Nat) (hn : a.length = n) (h : st'.length = st.length) : spl (a ++ (st ++ c)).toArray n st'.toArray = (a ++ (st' ++ c)).toArray := by
  subst hn
  unfold spl
  simp [h]
theorem spl_pre (st st' c : List Value) (h : st'.length = st.length) : spl (st ++ c).toArray 0 st'.toArray = (st' ++ c).toArray := spl_mid [] st st' c 0 rfl h
theorem at72 (a b : List Value) (x : Value) (c : List Value) (ha : a.length = 8) (hb : b.length = 64) : (a ++ (b ++ x :: c)).toArray[72]? = some x := by
  rw [List.getElem?_toArray, List.getElem?_append_right (by omega), List.getElem?_append_right (by omega), ha, hb]; rfl
theorem set72 (a b : List Value) (x y : Value) (c : List Value) (ha : a.length = 8) (hb : b.length = 64) : (a ++ (b ++ x :: c)).toArray.setIfInBounds 72 y = (a ++ (b ++ y :: c)).toArray := by
  rw [List.setIfInBounds_toArray, List.set_append_right _ _ (by omega), List.set_append_right _ _ (by omega), ha, hb]; rfl
theorem blkOf_len (l : List UInt8) (k : Nat) (h : 64 * k + 64 ≤ l.length) : (blkOf l k).length = 64 := by unfold blkOf; simp; omega

section
variable {P : Program} {w : World} {ops : Array Oper} {op : Oper} {a : Act} {K : Act → World → Prop} {Q : Exit → Act → World → Prop} {E : Prop}
theorem step_load_eq (hgd : op.guard = none) (ty : TypeId) (x : Operand) (ho : op.op = .load ty x) {vx v : Value} (hx : a.eval x = vx)
    (hr : (Instr.loadAt ty vx).run P w = .ok v w) (h : K (a.put op.dst v) w) : if Region.wanted op (yielded ops a.tmps) = true then Oper.wp P op a w K Q else E := by
  rw [if_pos (by simp [Region.wanted, hgd])]
  unfold Oper.wp execOp
  simp only [ho, hx, Sem.run_bind, hr, Result.andThen_ok, Sem.run_pure]
  exact h
theorem step_call (hgd : op.guard = none) {f : FuncId} {fn : Func} {args : Array Operand} {ts : Array TypeId} (ho : op.op = .call { callee := .value (.func f), args := args, argTypes := ts })
    (hf : P.funcs[f]? = some fn) (hn : (fn.name == "runtime.NumGoroutine") = false) (hb : fn.body.isNone = false) {vs : Array Value} (hv : args.map a.eval = vs) {v : Value}
    (hc : Calls P f vs w fun e w' => e = .returned v ∧ Below w.heap.size w w') (h : ∀ w', Below w.heap.size w w' → K (a.put op.dst v) w') :
    if Region.wanted op (yielded ops a.tmps) = true then Oper.wp P op a w K Q else E := by
  rw [if_pos (by simp [Region.wanted, hgd])]
  have hn' : ¬ fn.name = "runtime.NumGoroutine" := by simpa using hn
  have hb' : ¬ fn.body = none := by intro h0; rw [h0] at hb; simp at hb
  have hr : (execOp a.eval op).run P w = .ok (.enter f vs) w := by
    unfold execOp
    simp [ho, resolve, Act.eval, Deferred.ofValue, invoke, callFunc, hf, hn', hb', ← hv]
  unfold Oper.wp
  rw [hr, Oper.upon_enter]
  exact hc.mono fun e w' ⟨he, hb⟩ => by subst he; exact h w' hb
end

set_option maxRecDepth 100000 in
set_option maxHeartbeats 1000000 in
theorem absorb_made (l : List UInt8) (k : Nat) (rest : Value) (n b bs os c : Nat) (hk : 0 < k) (hl : 64 * k + 64 ≤ l.length) (w : World) (hB : Blk w b 117 (dC l k rest n))
    (hs : w.rangeAt bs os ((blkOf l k).map b8)) :
    Calls Try.prog 64 #[.pointer (some ⟨b, 0, none⟩), .slice (some ⟨bs, os, none⟩) 64 c] w fun e w' => e = .returned (.tuple #[]) ∧ w.grownBy w' (some b) ∧
      Blk w' b 117 (dC l (k + 1) rest n) := by
  have hm : w.cell? ⟨b, 72, none⟩ = some (.bool true) := by rw [hB.cell, dC_made]; simp [hk]
  have hkl := blkOf_len l k hl
  have hst : stC l k = (chainS l k).list := if_neg (by omega)
  have hrk : rkC k = RK := if_neg (by omega)
  have hB' : Blk w b 117 ((chainS l k).list.map v32 ++ (RK.map v32 ++ [.bool true, rest, .int .i64 (n : Nat)])).toArray := by
    have h := hB; unfold dC at h; rw [hst, hrk, List.append_assoc] at h; simpa [hk] using h
  have E : Hid (dC l (k + 1) rest n = ((chainS l (k + 1)).list.map v32 ++ (RK.map v32 ++ [.bool true, rest, .int .i64 (n : Nat)])).toArray) := by
    unfold dC; rw [show stC l (k + 1) = (chainS l (k + 1)).list from if_neg (by omega), show rkC (k + 1) = RK from if_neg (by omega), List.append_assoc]; simp [Hid]
  have hD : Dg w b RK [.bool true, rest, .int .i64 (n : Nat)] := ⟨(chainS l k).list, rfl, by rw [List.append_assoc]; exact hB'⟩
  have ha := fun wx => array_at Try.underlying104 (some ⟨bs, os, none⟩) 64 c (Nat.le_refl _) wx
  have S := Lib.hid (show chainS l (k + 1) = steppedF (chainS l k) (blkOf l k) RK from rfl)
  have hlt := hB.lt
  have lr := Lib.hid (load_rounds (b := b) (tail := [.bool true, rest, .int .i64 (n : Nat)]) RK_len w.drew hD)
  have lb := Lib.hid (load_bytes (bs := bs) (os := os) hkl w.drew hs)
  have ls : (Instr.loadAt 112 (.pointer (some ⟨b, 0, none⟩))).run Try.prog w.drew = .ok (.agg (arrC v32 (chainS l k).list)) w.drew := load_state (S8_len _) w.drew hB'
  generalize chainS l k = s at hB' hD S ls
  generalize hs' : steppedF s (blkOf l k) RK = s' at S
  have ls := Lib.hid ls
  have ls := Lib.hid ls
  have HB := Lib.hid hB'
  have C := stepped_calls s (blkOf l k) RK (blkOf_len l k hl) RK_len w.drew
  rw [hs'] at C
  have C := Lib.hid C
  clear hB hB' hst hrk hkl hs'
  go_enter Try.func64, Try.ntmps64
  go_wp2_with fail
  refine wp_region_any (by kernel_rfl) ?_
  change wpAny _ _ _ _ _ _ _ (World.drew _)
  refine wpAny_take (i := 0) (v := .pointer (some ⟨b, 0, none⟩)) rfl (by kernel_rfl) (by kernel_rfl) (by kernel_rfl) (fun _ _ _ h => h) (Or.inl ⟨by rfl, by intro w; go_simp⟩) ?_
  refine wpAny_take (i := 1) (v := .pointer (some ⟨b, 0, none⟩)) rfl (by kernel_rfl) (by kernel_rfl) (by kernel_rfl) (fun _ _ _ h => h) (Or.inl ⟨by rfl, by intro w; go_simp⟩) ?_
  refine wpAny_take (i := 2) (v := .pointer (some ⟨b, 0, none⟩)) rfl (by kernel_rfl) (by kernel_rfl) (by kernel_rfl) (fun _ _ _ h => h) (Or.inl ⟨by rfl, by intro w; go_simp⟩) ?_
  refine wpAny_take (i := 3) (v := .pointer (some ⟨b, 0, none⟩)) rfl (by kernel_rfl) (by kernel_rfl) (by kernel_rfl) (fun _ _ _ h => h) (Or.inl ⟨by rfl, by intro w; go_simp⟩) ?_
  refine wpAny_take (i := 5) (v := .slice (some ⟨bs, os, none⟩) 64 c) rfl (by kernel_rfl) (by kernel_rfl) (by kernel_rfl) (fun _ _ _ h => h) (Or.inl ⟨by rfl, by intro w; go_simp⟩) ?_
  refine wpAny_take (i := 6) (v := .pointer (some ⟨bs, os, none⟩)) rfl (by kernel_rfl) (by kernel_rfl) (by kernel_rfl) (fun _ _ _ h => h) (Or.inl ⟨by rfl, by intro w; go_simp⟩) ?_
  refine wpAny_take (i := 8) (v := .pointer (some ⟨b, 0, none⟩)) rfl (by kernel_rfl) (by kernel_rfl) (by kernel_rfl) (fun _ _ _ h => h) (Or.inl ⟨by rfl, by intro w; go_simp⟩) ?_
  refine wpAny_take (i := 9) (v := .pointer (some ⟨b, 0, none⟩)) rfl (by kernel_rfl) (by kernel_rfl) (by kernel_rfl) (fun _ _ _ h => h) (Or.inl ⟨by rfl, by intro w; go_simp⟩) ?_
  refine wpAny_take (i := 10) (v := .pointer (some ⟨b, 8, none⟩)) rfl (by kernel_rfl) (by kernel_rfl) (by kernel_rfl) (fun _ _ _ h => h) (Or.inl ⟨by rfl, by intro w; go_simp⟩) ?_
  go_simp
  refine wpAny_ready (rs := [4, 7, 11]) (by kernel_rfl) (by simp) ?_
  refine AllReady.cons rfl (fun K hK => ?_) ?_
  · refine step_load_eq rfl 112 (.tmp 25) rfl rfl ls.out ?_
    refine hK _ _ ?_
    clear hK K
    go_simp
    refine wpAny_ready (rs := [7, 11]) (by kernel_rfl) (by simp) ?_
    refine AllReady.cons rfl (fun K hK => ?_) ?_
    · refine step_load_eq rfl 104 (.tmp 28) rfl rfl lb.out ?_
      refine hK _ _ ?_
      clear hK K
      go_simp
      refine wpAny_ready (rs := [11]) (by kernel_rfl) (by simp) ?_
      refine AllReady.cons rfl (fun K hK => ?_) ?_
      · refine step_load_eq rfl 113 (.tmp 32) rfl rfl lr.out ?_
        refine hK _ _ ?_
        clear hK K
        go_simp
        refine wpAny_ready (rs := [12]) (by kernel_rfl) (by simp) ?_
        refine AllReady.cons rfl (fun K hK => ?_) AllReady.nil
        refine step_call rfl (f := 72) rfl Try.func72 (by kernel_rfl) (by kernel_rfl) (by rw [List.map_toArray]; rfl) C.out ?_
        rintro w5 hb5
        have HB5 : Blk w5 b 117 (s.list.map v32 ++ (RK.map v32 ++ [.bool true, rest, .int .i64 (n : Nat)])).toArray := Blk.below (w := w.drew) HB.out hb5 hlt
        refine hK _ _ ?_
        clear hK K
        go_simp
        refine wpAny_take (i := 13) (v := .pointer (some ⟨b, 0, none⟩)) rfl (by kernel_rfl) (by kernel_rfl) (by kernel_rfl) (fun _ _ _ h => h) (Or.inl ⟨by rfl, by intro w; go_simp⟩) ?_
        refine wpAny_take (i := 14) (v := .pointer (some ⟨b, 0, none⟩)) rfl (by kernel_rfl) (by kernel_rfl) (by kernel_rfl) (fun _ _ _ h => h) (Or.inl ⟨by rfl, by intro w; go_simp⟩) ?_
        go_simp
        refine wpAny_ready (rs := [15]) (by kernel_rfl) (by simp) ?_
        refine AllReady.cons rfl (fun K hK => ?_) AllReady.nil
        refine step_store_part rfl 112 (.tmp 36) (.tmp 34) rfl rfl rfl HB5 (by rw [arrC_size]; kernel_rfl) (by simp [arrC_size, S8_len]) (arrC_one v32_one) ?_
        intro w6 hB6 hg6 hz6
        refine hK _ _ ?_
        clear hK K
        refine wpAny_done (by kernel_rfl) ?_ _
        rw [spl_head _ _ _ (S8_len _) (S8_len _)] at hB6
        go_end0
        exact ⟨rfl, Lib.grownBy_trans (Lib.grownBy_below (grown_drew (World.grownBy.refl w _)) hb5) hg6, by rw [E.out, S.out]; exact hB6⟩
      exact AllReady.nil
    refine AllReady.cons rfl (fun K hK => ?_) ?_
    · refine step_load_eq rfl 113 (.tmp 32) rfl rfl lr.out ?_
      refine hK _ _ ?_
      clear hK K
      go_simp
      refine wpAny_ready (rs := [7]) (by kernel_rfl) (by simp) ?_
      refine AllReady.cons rfl (fun K hK => ?_) ?_
      · refine step_load_eq rfl 104 (.tmp 28) rfl rfl lb.out ?_
        refine hK _ _ ?_
        clear hK K
        go_simp
        refine wpAny_ready (rs := [12]) (by kernel_rfl) (by simp) ?_
        refine AllReady.cons rfl (fun K hK => ?_) AllReady.nil
        refine step_call rfl (f := 72) rfl Try.func72 (by kernel_rfl) (by kernel_rfl) (by rw [List.map_toArray]; rfl) C.out ?_
        rintro w5 hb5
        have HB5 : Blk w5 b 117 (s.list.map v32 ++ (RK.map v32 ++ [.bool true, rest, .int .i64 (n : Nat)])).toArray := Blk.below (w := w.drew) HB.out hb5 hlt
        refine hK _ _ ?_
        clear hK K
        go_simp
        refine wpAny_take (i := 13) (v := .pointer (some ⟨b, 0, none⟩)) rfl (by kernel_rfl) (by kernel_rfl) (by kernel_rfl) (fun _ _ _ h => h) (Or.inl ⟨by rfl, by intro w; go_simp⟩) ?_
        refine wpAny_take (i := 14) (v := .pointer (some ⟨b, 0, none⟩)) rfl (by kernel_rfl) (by kernel_rfl) (by kernel_rfl) (fun _ _ _ h => h) (Or.inl ⟨by rfl, by intro w; go_simp⟩) ?_
        go_simp
        refine wpAny_ready (rs := [15]) (by kernel_rfl) (by simp) ?_
        refine AllReady.cons rfl (fun K hK => ?_) AllReady.nil
        refine step_store_part rfl 112 (.tmp 36) (.tmp 34) rfl rfl rfl HB5 (by rw [arrC_size]; kernel_rfl) (by simp [arrC_size, S8_len]) (arrC_one v32_one) ?_
        intro w6 hB6 hg6 hz6
        refine hK _ _ ?_
        clear hK K
        refine wpAny_done (by kernel_rfl) ?_ _
        rw [spl_head _ _ _ (S8_len _) (S8_len _)] at hB6
        go_end0
        exact ⟨rfl, Lib.grownBy_trans (Lib.grownBy_below (grown_drew (World.grownBy.refl w _)) hb5) hg6, by rw [E.out, S.out]; exact hB6⟩
      exact AllReady.nil
    exact AllReady.nil
  refine AllReady.cons rfl (fun K hK => ?_) ?_
  · refine step_load_eq rfl 104 (.tmp 28) rfl rfl lb.out ?_
    refine hK _ _ ?_
    clear hK K
    go_simp
    refine wpAny_ready (rs := [4, 11]) (by kernel_rfl) (by simp) ?_
    refine AllReady.cons rfl (fun K hK => ?_) ?_
    · refine step_load_eq rfl 112 (.tmp 25) rfl rfl ls.out ?_
      refine hK _ _ ?_
      clear hK K
      go_simp
      refine wpAny_ready (rs := [11]) (by kernel_rfl) (by simp) ?_
      refine AllReady.cons rfl (fun K hK => ?_) ?_
      · refine step_load_eq rfl 113 (.tmp 32) rfl rfl lr.out ?_
        refine hK _ _ ?_
        clear hK K
        go_simp
        refine wpAny_ready (rs := [12]) (by kernel_rfl) (by simp) ?_
        refine AllReady.cons rfl (fun K hK => ?_) AllReady.nil
        refine step_call rfl (f := 72) rfl Try.func72 (by kernel_rfl) (by kernel_rfl) (by rw [List.map_toArray]; rfl) C.out ?_
        rintro w5 hb5
        have HB5 : Blk w5 b 117 (s.list.map v32 ++ (RK.map v32 ++ [.bool true, rest, .int .i64 (n : Nat)])).toArray := Blk.below (w := w.drew) HB.out hb5 hlt
        refine hK _ _ ?_
        clear hK K
        go_simp
        refine wpAny_take (i := 13) (v := .pointer (some ⟨b, 0, none⟩)) rfl (by kernel_rfl) (by kernel_rfl) (by kernel_rfl) (fun _ _ _ h => h) (Or.inl ⟨by rfl, by intro w; go_simp⟩) ?_
        refine wpAny_take (i := 14) (v := .pointer (some ⟨b, 0, none⟩)) rfl (by kernel_rfl) (by kernel_rfl) (by kernel_rfl) (fun _ _ _ h => h) (Or.inl ⟨by rfl, by intro w; go_simp⟩) ?_
        go_simp
        refine wpAny_ready (rs := [15]) (by kernel_rfl) (by simp) ?_
        refine AllReady.cons rfl (fun K hK => ?_) AllReady.nil
        refine step_store_part rfl 112 (.tmp 36) (.tmp 34) rfl rfl rfl HB5 (by rw [arrC_size]; kernel_rfl) (by simp [arrC_size, S8_len]) (arrC_one v32_one) ?_
        intro w6 hB6 hg6 hz6
        refine hK _ _ ?_
        clear hK K
        refine wpAny_done (by kernel_rfl) ?_ _
        rw [spl_head _ _ _ (S8_len _) (S8_len _)] at hB6
        go_end0
        exact ⟨rfl, Lib.grownBy_trans (Lib.grownBy_below (grown_drew (World.grownBy.refl w _)) hb5) hg6, by rw [E.out, S.out]; exact hB6⟩
      exact AllReady.nil
    refine AllReady.cons rfl (fun K hK => ?_) ?_
    · refine step_load_eq rfl 113 (.tmp 32) rfl rfl lr.out ?_
      refine hK _ _ ?_
      clear hK K
      go_simp
      refine wpAny_ready (rs := [4]) (by kernel_rfl) (by simp) ?_
      refine AllReady.cons rfl (fun K hK => ?_) ?_
      · refine step_load_eq rfl 112 (.tmp 25) rfl rfl ls.out ?_
        refine hK _ _ ?_
        clear hK K
        go_simp
        refine wpAny_ready (rs := [12]) (by kernel_rfl) (by simp) ?_
        refine AllReady.cons rfl (fun K hK => ?_) AllReady.nil
        refine step_call rfl (f := 72) rfl Try.func72 (by kernel_rfl) (by kernel_rfl) (by rw [List.map_toArray]; rfl) C.out ?_
        rintro w5 hb5
        have HB5 : Blk w5 b 117 (s.list.map v32 ++ (RK.map v32 ++ [.bool true, rest, .int .i64 (n : Nat)])).toArray := Blk.below (w := w.drew) HB.out hb5 hlt
        refine hK _ _ ?_
        clear hK K
        go_simp
        refine wpAny_take (i := 13) (v := .pointer (some ⟨b, 0, none⟩)) rfl (by kernel_rfl) (by kernel_rfl) (by kernel_rfl) (fun _ _ _ h => h) (Or.inl ⟨by rfl, by intro w; go_simp⟩) ?_
        refine wpAny_take (i := 14) (v := .pointer (some ⟨b, 0, none⟩)) rfl (by kernel_rfl) (by kernel_rfl) (by kernel_rfl) (fun _ _ _ h => h) (Or.inl ⟨by rfl, by intro w; go_simp⟩) ?_
        go_simp
        refine wpAny_ready (rs := [15]) (by kernel_rfl) (by simp) ?_
        refine AllReady.cons rfl (fun K hK => ?_) AllReady.nil
        refine step_store_part rfl 112 (.tmp 36) (.tmp 34) rfl rfl rfl HB5 (by rw [arrC_size]; kernel_rfl) (by simp [arrC_size, S8_len]) (arrC_one v32_one) ?_
        intro w6 hB6 hg6 hz6
        refine hK _ _ ?_
        clear hK K
        refine wpAny_done (by kernel_rfl) ?_ _
        rw [spl_head _ _ _ (S8_len _) (S8_len _)] at hB6
        go_end0
        exact ⟨rfl, Lib.grownBy_trans (Lib.grownBy_below (grown_drew (World.grownBy.refl w _)) hb5) hg6, by rw [E.out, S.out]; exact hB6⟩
      exact AllReady.nil
    exact AllReady.nil
  refine AllReady.cons rfl (fun K hK => ?_) ?_
  · refine step_load_eq rfl 113 (.tmp 32) rfl rfl lr.out ?_
    refine hK _ _ ?_
    clear hK K
    go_simp
    refine wpAny_ready (rs := [4, 7]) (by kernel_rfl) (by simp) ?_
    refine AllReady.cons rfl (fun K hK => ?_) ?_
    · refine step_load_eq rfl 112 (.tmp 25) rfl rfl ls.out ?_
      refine hK _ _ ?_
      clear hK K
      go_simp
      refine wpAny_ready (rs := [7]) (by kernel_rfl) (by simp) ?_
      refine AllReady.cons rfl (fun K hK => ?_) ?_
      · refine step_load_eq rfl 104 (.tmp 28) rfl rfl lb.out ?_
        refine hK _ _ ?_
        clear hK K
        go_simp
        refine wpAny_ready (rs := [12]) (by kernel_rfl) (by simp) ?_
        refine AllReady.cons rfl (fun K hK => ?_) AllReady.nil
        refine step_call rfl (f := 72) rfl Try.func72 (by kernel_rfl) (by kernel_rfl) (by rw [List.map_toArray]; rfl) C.out ?_
        rintro w5 hb5
        have HB5 : Blk w5 b 117 (s.list.map v32 ++ (RK.map v32 ++ [.bool true, rest, .int .i64 (n : Nat)])).toArray := Blk.below (w := w.drew) HB.out hb5 hlt
        refine hK _ _ ?_
        clear hK K
        go_simp
        refine wpAny_take (i := 13) (v := .pointer (some ⟨b, 0, none⟩)) rfl (by kernel_rfl) (by kernel_rfl) (by kernel_rfl) (fun _ _ _ h => h) (Or.inl ⟨by rfl, by intro w; go_simp⟩) ?_
        refine wpAny_take (i := 14) (v := .pointer (some ⟨b, 0, none⟩)) rfl (by kernel_rfl) (by kernel_rfl) (by kernel_rfl) (fun _ _ _ h => h) (Or.inl ⟨by rfl, by intro w; go_simp⟩) ?_
        go_simp
        refine wpAny_ready (rs := [15]) (by kernel_rfl) (by simp) ?_
        refine AllReady.cons rfl (fun K hK => ?_) AllReady.nil
        refine step_store_part rfl 112 (.tmp 36) (.tmp 34) rfl rfl rfl HB5 (by rw [arrC_size]; kernel_rfl) (by simp [arrC_size, S8_len]) (arrC_one v32_one) ?_
        intro w6 hB6 hg6 hz6
        refine hK _ _ ?_
        clear hK K
        refine wpAny_done (by kernel_rfl) ?_ _
        rw [spl_head _ _ _ (S8_len _) (S8_len _)] at hB6
        go_end0
        exact ⟨rfl, Lib.grownBy_trans (Lib.grownBy_below (grown_drew (World.grownBy.refl w _)) hb5) hg6, by rw [E.out, S.out]; exact hB6⟩
      exact AllReady.nil
    refine AllReady.cons rfl (fun K hK => ?_) ?_
    · refine step_load_eq rfl 104 (.tmp 28) rfl rfl lb.out ?_
      refine hK _ _ ?_
      clear hK K
      go_simp
      refine wpAny_ready (rs := [4]) (by kernel_rfl) (by simp) ?_
      refine AllReady.cons rfl (fun K hK => ?_) ?_
      · refine step_load_eq rfl 112 (.tmp 25) rfl rfl ls.out ?_
        refine hK _ _ ?_
        clear hK K
        go_simp
        refine wpAny_ready (rs := [12]) (by kernel_rfl) (by simp) ?_
        refine AllReady.cons rfl (fun K hK => ?_) AllReady.nil
        refine step_call rfl (f := 72) rfl Try.func72 (by kernel_rfl) (by kernel_rfl) (by rw [List.map_toArray]; rfl) C.out ?_
        rintro w5 hb5
        have HB5 : Blk w5 b 117 (s.list.map v32 ++ (RK.map v32 ++ [.bool true, rest, .int .i64 (n : Nat)])).toArray := Blk.below (w := w.drew) HB.out hb5 hlt
        refine hK _ _ ?_
        clear hK K
        go_simp
        refine wpAny_take (i := 13) (v := .pointer (some ⟨b, 0, none⟩)) rfl (by kernel_rfl) (by kernel_rfl) (by kernel_rfl) (fun _ _ _ h => h) (Or.inl ⟨by rfl, by intro w; go_simp⟩) ?_
        refine wpAny_take (i := 14) (v := .pointer (some ⟨b, 0, none⟩)) rfl (by kernel_rfl) (by kernel_rfl) (by kernel_rfl) (fun _ _ _ h => h) (Or.inl ⟨by rfl, by intro w; go_simp⟩) ?_
        go_simp
        refine wpAny_ready (rs := [15]) (by kernel_rfl) (by simp) ?_
        refine AllReady.cons rfl (fun K hK => ?_) AllReady.nil
        refine step_store_part rfl 112 (.tmp 36) (.tmp 34) rfl rfl rfl HB5 (by rw [arrC_size]; kernel_rfl) (by simp [arrC_size, S8_len]) (arrC_one v32_one) ?_
        intro w6 hB6 hg6 hz6
        refine hK _ _ ?_
        clear hK K
        refine wpAny_done (by kernel_rfl) ?_ _
        rw [spl_head _ _ _ (S8_len _) (S8_len _)] at hB6
        go_end0
        exact ⟨rfl, Lib.grownBy_trans (Lib.grownBy_below (grown_drew (World.grownBy.refl w _)) hb5) hg6, by rw [E.out, S.out]; exact hB6⟩
      exact AllReady.nil
    exact AllReady.nil
  exact AllReady.nil

set_option maxRecDepth 100000 in
set_option maxHeartbeats 1000000 in
theorem absorb_first (l : List UInt8) (rest : Value) (n b bs os c : Nat) (hl : 64 ≤ l.length) (w : World) (hB : Blk w b 117 (dC l 0 rest n))
    (hs : w.rangeAt bs os ((blkOf l 0).map b8)) (hbs : bs < w.heap.size) (hne : bs ≠ b) :
    Calls Try.prog 64 #[.pointer (some ⟨b, 0, none⟩), .slice (some ⟨bs, os, none⟩) 64 c] w fun e w' => e = .returned (.tuple #[]) ∧ w.grownBy w' (some b) ∧
      Blk w' b 117 (dC l 1 rest n) := by
  have hm : w.cell? ⟨b, 72, none⟩ = some (.bool false) := by rw [hB.cell, dC_made]; rfl
  have hkl := blkOf_len l 0 hl
  have hB' : Blk w b 117 ((List.replicate 8 (0 : UInt32)).map v32 ++ ((List.replicate 64 (0 : UInt32)).map v32 ++ [.bool false, rest, .int .i64 (n : Nat)])).toArray := by
    have h := hB; unfold dC at h; rw [List.append_assoc] at h; exact h
  have E : Hid (dC l 1 rest n = ((chainS l 1).list.map v32 ++ (RK.map v32 ++ [.bool true, rest, .int .i64 (n : Nat)])).toArray) := by
    unfold dC; rw [show stC l 1 = (chainS l 1).list from rfl, show rkC 1 = RK from rfl, List.append_assoc]; rfl
  have ha := fun wx => array_at Try.underlying104 (some ⟨bs, os, none⟩) 64 c (Nat.le_refl _) wx
  have S := Lib.hid (show chainS l 1 = steppedF (chainS l 0) (blkOf l 0) RK from rfl)
  have hlt := hB.lt
  have z0 : ((List.replicate 8 (0 : UInt32)).map v32).length = 8 := rfl
  have hST : (chainS l 0).list = ST := ST0_list
  generalize chainS l 0 = s at hST S
  generalize hs' : steppedF s (blkOf l 0) RK = s' at S
  generalize (List.replicate 8 (0 : UInt32)).map v32 = Z at hB' z0
  have z1 : ((List.replicate 64 (0 : UInt32)).map v32).length = 64 := by simp
  generalize (List.replicate 64 (0 : UInt32)).map v32 = Y at hB' z1
  have HB0 := Lib.hid hB'
  have C0 := Lib.hid (constants_calls w)
  clear hB hB'
  go_enter Try.func64, Try.ntmps64
  go_wp2_with (first
    | (go_at_call 71; ((with_reducible refine C0.out.mono ?_); rintro e w1 ⟨rfl, hb1⟩; have HB1 := Blk.below HB0.out hb1 hlt))
    | ((with_reducible refine wpList_store_part rfl 113 (.tmp 16) (.tmp 13) rfl rfl rfl HB1 (by rw [arrC_size, RK_len]; kernel_rfl) (by simp [arrC_size, RK_len, z0, z1]) (arrC_one v32_one) ?_); intro w2 hB2 hg2 hz2; change Blk _ _ _ (spl _ 8 (RK.map v32).toArray) at hB2; rw [spl_mid _ _ _ _ 8 z0 (by simp [RK_len, z1])] at hB2)
    | ((with_reducible refine wpList_store_part rfl 112 (.tmp 18) (.tmp 14) rfl rfl rfl hB2 (by rw [arrC_size, ST_len]; kernel_rfl) (by simp [arrC_size, ST_len, z0]) (arrC_one v32_one) ?_); intro w3 hB3 hg3 hz3; change Blk _ _ _ (spl _ 0 (ST.map v32).toArray) at hB3; rw [spl_pre _ _ _ (by simp [ST_len, z0])] at hB3; have hf3 := hB3.frozen; have hc3 : w3.cell? ⟨b, 72, none⟩ = some (.bool false) := (by rw [hB3.cell]; exact at72 _ _ _ _ (by simp [ST_len]) (by simp [RK_len])); have HB3 := Lib.hid hB3))
  have hB4 : Blk (w3.setCell ⟨b, 72, none⟩ (.bool true)) b 117 (s.list.map v32 ++ (RK.map v32 ++ [.bool true, rest, .int .i64 (n : Nat)])).toArray := by
    rw [hST]
    exact Blk.of_eq (HB3.out.set_ 72 _) (set72 _ _ _ _ _ (by simp [ST_len]) (by simp [RK_len]))
  have hg4 : w.grownBy (w3.setCell ⟨b, 72, none⟩ (.bool true)) (some b) := Lib.grownBy_setB (Lib.grownBy_trans (Lib.grownBy_trans (Lib.grownBy_below (World.grownBy.refl w _) hb1) hg2) hg3) 72 _
  generalize w3.setCell ⟨b, 72, none⟩ (.bool true) = w4 at hB4 hg4 ⊢
  have hs4 := rangeAt_keep hs (hg4.block bs hbs (fun e => hne (by injection e)))
  have hlt := hB4.lt
  have hD : Dg w4 b RK [.bool true, rest, .int .i64 (n : Nat)] := ⟨s.list, rfl, by rw [List.append_assoc]; exact hB4⟩
  have lr := Lib.hid (load_rounds (b := b) (tail := [.bool true, rest, .int .i64 (n : Nat)]) RK_len w4.drew hD)
  have lb := Lib.hid (load_bytes (bs := bs) (os := os) hkl w4.drew hs4)
  have ls := Lib.hid (load_state (b := b) (tail := RK.map v32 ++ [.bool true, rest, .int .i64 (n : Nat)]) (S8_len s) w4.drew hB4)
  have HB := Lib.hid hB4
  have C := stepped_calls s (blkOf l 0) RK hkl RK_len w4.drew
  rw [hs'] at C
  have C := Lib.hid C
  clear hB4 hB3 hB2 HB1 HB3 hf3 hc3 hg2 hg3 hb1 hs' hST
  refine wp_region_any (by kernel_rfl) ?_
  change wpAny _ _ _ _ _ _ _ (World.drew _)
  refine wpAny_take (i := 0) (v := .pointer (some ⟨b, 0, none⟩)) rfl (by kernel_rfl) (by kernel_rfl) (by kernel_rfl) (fun _ _ _ h => h) (Or.inl ⟨by rfl, by intro w; go_simp⟩) ?_
  refine wpAny_take (i := 1) (v := .pointer (some ⟨b, 0, none⟩)) rfl (by kernel_rfl) (by kernel_rfl) (by kernel_rfl) (fun _ _ _ h => h) (Or.inl ⟨by rfl, by intro w; go_simp⟩) ?_
  refine wpAny_take (i := 2) (v := .pointer (some ⟨b, 0, none⟩)) rfl (by kernel_rfl) (by kernel_rfl) (by kernel_rfl) (fun _ _ _ h => h) (Or.inl ⟨by rfl, by intro w; go_simp⟩) ?_
  refine wpAny_take (i := 3) (v := .pointer (some ⟨b, 0, none⟩)) rfl (by kernel_rfl) (by kernel_rfl) (by kernel_rfl) (fun _ _ _ h => h) (Or.inl ⟨by rfl, by intro w; go_simp⟩) ?_
  refine wpAny_take (i := 5) (v := .slice (some ⟨bs, os, none⟩) 64 c) rfl (by kernel_rfl) (by kernel_rfl) (by kernel_rfl) (fun _ _ _ h => h) (Or.inl ⟨by rfl, by intro w; go_simp⟩) ?_
  refine wpAny_take (i := 6) (v := .pointer (some ⟨bs, os, none⟩)) rfl (by kernel_rfl) (by kernel_rfl) (by kernel_rfl) (fun _ _ _ h => h) (Or.inl ⟨by rfl, by intro w; go_simp⟩) ?_
  refine wpAny_take (i := 8) (v := .pointer (some ⟨b, 0, none⟩)) rfl (by kernel_rfl) (by kernel_rfl) (by kernel_rfl) (fun _ _ _ h => h) (Or.inl ⟨by rfl, by intro w; go_simp⟩) ?_
  refine wpAny_take (i := 9) (v := .pointer (some ⟨b, 0, none⟩)) rfl (by kernel_rfl) (by kernel_rfl) (by kernel_rfl) (fun _ _ _ h => h) (Or.inl ⟨by rfl, by intro w; go_simp⟩) ?_
  refine wpAny_take (i := 10) (v := .pointer (some ⟨b, 8, none⟩)) rfl (by kernel_rfl) (by kernel_rfl) (by kernel_rfl) (fun _ _ _ h => h) (Or.inl ⟨by rfl, by intro w; go_simp⟩) ?_
  go_simp
  refine wpAny_ready (rs := [4, 7, 11]) (by kernel_rfl) (by simp) ?_
  refine AllReady.cons rfl (fun K hK => ?_) ?_
  · refine step_load_eq rfl 112 (.tmp 25) rfl rfl ls.out ?_
    refine hK _ _ ?_
    clear hK K
    go_simp
    refine wpAny_ready (rs := [7, 11]) (by kernel_rfl) (by simp) ?_
    refine AllReady.cons rfl (fun K hK => ?_) ?_
    · refine step_load_eq rfl 104 (.tmp 28) rfl rfl lb.out ?_
      refine hK _ _ ?_
      clear hK K
      go_simp
      refine wpAny_ready (rs := [11]) (by kernel_rfl) (by simp) ?_
      refine AllReady.cons rfl (fun K hK => ?_) ?_
      · refine step_load_eq rfl 113 (.tmp 32) rfl rfl lr.out ?_
        refine hK _ _ ?_
        clear hK K
        go_simp
        refine wpAny_ready (rs := [12]) (by kernel_rfl) (by simp) ?_
        refine AllReady.cons rfl (fun K hK => ?_) AllReady.nil
        refine step_call rfl (f := 72) rfl Try.func72 (by kernel_rfl) (by kernel_rfl) (by rw [List.map_toArray]; rfl) C.out ?_
        rintro w5 hb5
        have HB5 : Blk w5 b 117 (s.list.map v32 ++ (RK.map v32 ++ [.bool true, rest, .int .i64 (n : Nat)])).toArray := Blk.below (w := w4.drew) HB.out hb5 hlt
        refine hK _ _ ?_
        clear hK K
        go_simp
        refine wpAny_take (i := 13) (v := .pointer (some ⟨b, 0, none⟩)) rfl (by kernel_rfl) (by kernel_rfl) (by kernel_rfl) (fun _ _ _ h => h) (Or.inl ⟨by rfl, by intro w; go_simp⟩) ?_
        refine wpAny_take (i := 14) (v := .pointer (some ⟨b, 0, none⟩)) rfl (by kernel_rfl) (by kernel_rfl) (by kernel_rfl) (fun _ _ _ h => h) (Or.inl ⟨by rfl, by intro w; go_simp⟩) ?_
        go_simp
        refine wpAny_ready (rs := [15]) (by kernel_rfl) (by simp) ?_
        refine AllReady.cons rfl (fun K hK => ?_) AllReady.nil
        refine step_store_part rfl 112 (.tmp 36) (.tmp 34) rfl rfl rfl HB5 (by rw [arrC_size]; kernel_rfl) (by simp [arrC_size, S8_len]) (arrC_one v32_one) ?_
        intro w6 hB6 hg6 hz6
        refine hK _ _ ?_
        clear hK K
        refine wpAny_done (by kernel_rfl) ?_ _
        rw [spl_head _ _ _ (S8_len _) (S8_len _)] at hB6
        go_end0
        exact ⟨rfl, Lib.grownBy_trans (Lib.grownBy_below (grown_drew hg4) hb5) hg6, by rw [E.out, S.out]; exact hB6⟩
      exact AllReady.nil
    refine AllReady.cons rfl (fun K hK => ?_) ?_
    · refine step_load_eq rfl 113 (.tmp 32) rfl rfl lr.out ?_
      refine hK _ _ ?_
      clear hK K
      go_simp
      refine wpAny_ready (rs := [7]) (by kernel_rfl) (by simp) ?_
      refine AllReady.cons rfl (fun K hK => ?_) ?_
      · refine step_load_eq rfl 104 (.tmp 28) rfl rfl lb.out ?_
        refine hK _ _ ?_
        clear hK K
        go_simp
        refine wpAny_ready (rs := [12]) (by kernel_rfl) (by simp) ?_
        refine AllReady.cons rfl (fun K hK => ?_) AllReady.nil
        refine step_call rfl (f := 72) rfl Try.func72 (by kernel_rfl) (by kernel_rfl) (by rw [List.map_toArray]; rfl) C.out ?_
        rintro w5 hb5
        have HB5 : Blk w5 b 117 (s.list.map v32 ++ (RK.map v32 ++ [.bool true, rest, .int .i64 (n : Nat)])).toArray := Blk.below (w := w4.drew) HB.out hb5 hlt
        refine hK _ _ ?_
        clear hK K
        go_simp
        refine wpAny_take (i := 13) (v := .pointer (some ⟨b, 0, none⟩)) rfl (by kernel_rfl) (by kernel_rfl) (by kernel_rfl) (fun _ _ _ h => h) (Or.inl ⟨by rfl, by intro w; go_simp⟩) ?_
        refine wpAny_take (i := 14) (v := .pointer (some ⟨b, 0, none⟩)) rfl (by kernel_rfl) (by kernel_rfl) (by kernel_rfl) (fun _ _ _ h => h) (Or.inl ⟨by rfl, by intro w; go_simp⟩) ?_
        go_simp
        refine wpAny_ready (rs := [15]) (by kernel_rfl) (by simp) ?_
        refine AllReady.cons rfl (fun K hK => ?_) AllReady.nil
        refine step_store_part rfl 112 (.tmp 36) (.tmp 34) rfl rfl rfl HB5 (by rw [arrC_size]; kernel_rfl) (by simp [arrC_size, S8_len]) (arrC_one v32_one) ?_
        intro w6 hB6 hg6 hz6
        refine hK _ _ ?_
        clear hK K
        refine wpAny_done (by kernel_rfl) ?_ _
        rw [spl_head _ _ _ (S8_len _) (S8_len _)] at hB6
        go_end0
        exact ⟨rfl, Lib.grownBy_trans (Lib.grownBy_below (grown_drew hg4) hb5) hg6, by rw [E.out, S.out]; exact hB6⟩
      exact AllReady.nil
    exact AllReady.nil
  refine AllReady.cons rfl (fun K hK => ?_) ?_
  · refine step_load_eq rfl 104 (.tmp 28) rfl rfl lb.out ?_
    refine hK _ _ ?_
    clear hK K
    go_simp
    refine wpAny_ready (rs := [4, 11]) (by kernel_rfl) (by simp) ?_
    refine AllReady.cons rfl (fun K hK => ?_) ?_
    · refine step_load_eq rfl 112 (.tmp 25) rfl rfl ls.out ?_
      refine hK _ _ ?_
      clear hK K
      go_simp
      refine wpAny_ready (rs := [11]) (by kernel_rfl) (by simp) ?_
      refine AllReady.cons rfl (fun K hK => ?_) ?_
      · refine step_load_eq rfl 113 (.tmp 32) rfl rfl lr.out ?_
        refine hK _ _ ?_
        clear hK K
        go_simp
        refine wpAny_ready (rs := [12]) (by kernel_rfl) (by simp) ?_
        refine AllReady.cons rfl (fun K hK => ?_) AllReady.nil
        refine step_call rfl (f := 72) rfl Try.func72 (by kernel_rfl) (by kernel_rfl) (by rw [List.map_toArray]; rfl) C.out ?_
        rintro w5 hb5
        have HB5 : Blk w5 b 117 (s.list.map v32 ++ (RK.map v32 ++ [.bool true, rest, .int .i64 (n : Nat)])).toArray := Blk.below (w := w4.drew) HB.out hb5 hlt
        refine hK _ _ ?_
        clear hK K
        go_simp
        refine wpAny_take (i := 13) (v := .pointer (some ⟨b, 0, none⟩)) rfl (by kernel_rfl) (by kernel_rfl) (by kernel_rfl) (fun _ _ _ h => h) (Or.inl ⟨by rfl, by intro w; go_simp⟩) ?_
        refine wpAny_take (i := 14) (v := .pointer (some ⟨b, 0, none⟩)) rfl (by kernel_rfl) (by kernel_rfl) (by kernel_rfl) (fun _ _ _ h => h) (Or.inl ⟨by rfl, by intro w; go_simp⟩) ?_
        go_simp
        refine wpAny_ready (rs := [15]) (by kernel_rfl) (by simp) ?_
        refine AllReady.cons rfl (fun K hK => ?_) AllReady.nil
        refine step_store_part rfl 112 (.tmp 36) (.tmp 34) rfl rfl rfl HB5 (by rw [arrC_size]; kernel_rfl) (by simp [arrC_size, S8_len]) (arrC_one v32_one) ?_
        intro w6 hB6 hg6 hz6
        refine hK _ _ ?_
        clear hK K
        refine wpAny_done (by kernel_rfl) ?_ _
        rw [spl_head _ _ _ (S8_len _) (S8_len _)] at hB6
        go_end0
        exact ⟨rfl, Lib.grownBy_trans (Lib.grownBy_below (grown_drew hg4) hb5) hg6, by rw [E.out, S.out]; exact hB6⟩
      exact AllReady.nil
    refine AllReady.cons rfl (fun K hK => ?_) ?_
    · refine step_load_eq rfl 113 (.tmp 32) rfl rfl lr.out ?_
      refine hK _ _ ?_
      clear hK K
      go_simp
      refine wpAny_ready (rs := [4]) (by kernel_rfl) (by simp) ?_
      refine AllReady.cons rfl (fun K hK => ?_) ?_
      · refine step_load_eq rfl 112 (.tmp 25) rfl rfl ls.out ?_
        refine hK _ _ ?_
        clear hK K
        go_simp
        refine wpAny_ready (rs := [12]) (by kernel_rfl) (by simp) ?_
        refine AllReady.cons rfl (fun K hK => ?_) AllReady.nil
        refine step_call rfl (f := 72) rfl Try.func72 (by kernel_rfl) (by kernel_rfl) (by rw [List.map_toArray]; rfl) C.out ?_
        rintro w5 hb5
        have HB5 : Blk w5 b 117 (s.list.map v32 ++ (RK.map v32 ++ [.bool true, rest, .int .i64 (n : Nat)])).toArray := Blk.below (w := w4.drew) HB.out hb5 hlt
        refine hK _ _ ?_
        clear hK K
        go_simp
        refine wpAny_take (i := 13) (v := .pointer (some ⟨b, 0, none⟩)) rfl (by kernel_rfl) (by kernel_rfl) (by kernel_rfl) (fun _ _ _ h => h) (Or.inl ⟨by rfl, by intro w; go_simp⟩) ?_
        refine wpAny_take (i := 14) (v := .pointer (some ⟨b, 0, none⟩)) rfl (by kernel_rfl) (by kernel_rfl) (by kernel_rfl) (fun _ _ _ h => h) (Or.inl ⟨by rfl, by intro w; go_simp⟩) ?_
        go_simp
        refine wpAny_ready (rs := [15]) (by kernel_rfl) (by simp) ?_
        refine AllReady.cons rfl (fun K hK => ?_) AllReady.nil
        refine step_store_part rfl 112 (.tmp 36) (.tmp 34) rfl rfl rfl HB5 (by rw [arrC_size]; kernel_rfl) (by simp [arrC_size, S8_len]) (arrC_one v32_one) ?_
        intro w6 hB6 hg6 hz6
        refine hK _ _ ?_
        clear hK K
        refine wpAny_done (by kernel_rfl) ?_ _
        rw [spl_head _ _ _ (S8_len _) (S8_len _)] at hB6
        go_end0
        exact ⟨rfl, Lib.grownBy_trans (Lib.grownBy_below (grown_drew hg4) hb5) hg6, by rw [E.out, S.out]; exact hB6⟩
      exact AllReady.nil
    exact AllReady.nil
  refine AllReady.cons rfl (fun K hK => ?_) ?_
  · refine step_load_eq rfl 113 (.tmp 32) rfl rfl lr.out ?_
    refine hK _ _ ?_
    clear hK K
    go_simp
    refine wpAny_ready (rs := [4, 7]) (by kernel_rfl) (by simp) ?_
    refine AllReady.cons rfl (fun K hK => ?_) ?_
    · refine step_load_eq rfl 112 (.tmp 25) rfl rfl ls.out ?_
      refine hK _ _ ?_
      clear hK K
      go_simp
      refine wpAny_ready (rs := [7]) (by kernel_rfl) (by simp) ?_
      refine AllReady.cons rfl (fun K hK => ?_) ?_
      · refine step_load_eq rfl 104 (.tmp 28) rfl rfl lb.out ?_
        refine hK _ _ ?_
        clear hK K
        go_simp
        refine wpAny_ready (rs := [12]) (by kernel_rfl) (by simp) ?_
        refine AllReady.cons rfl (fun K hK => ?_) AllReady.nil
        refine step_call rfl (f := 72) rfl Try.func72 (by kernel_rfl) (by kernel_rfl) (by rw [List.map_toArray]; rfl) C.out ?_
        rintro w5 hb5
        have HB5 : Blk w5 b 117 (s.list.map v32 ++ (RK.map v32 ++ [.bool true, rest, .int .i64 (n : Nat)])).toArray := Blk.below (w := w4.drew) HB.out hb5 hlt
        refine hK _ _ ?_
        clear hK K
        go_simp
        refine wpAny_take (i := 13) (v := .pointer (some ⟨b, 0, none⟩)) rfl (by kernel_rfl) (by kernel_rfl) (by kernel_rfl) (fun _ _ _ h => h) (Or.inl ⟨by rfl, by intro w; go_simp⟩) ?_
        refine wpAny_take (i := 14) (v := .pointer (some ⟨b, 0, none⟩)) rfl (by kernel_rfl) (by kernel_rfl) (by kernel_rfl) (fun _ _ _ h => h) (Or.inl ⟨by rfl, by intro w; go_simp⟩) ?_
        go_simp
        refine wpAny_ready (rs := [15]) (by kernel_rfl) (by simp) ?_
        refine AllReady.cons rfl (fun K hK => ?_) AllReady.nil
        refine step_store_part rfl 112 (.tmp 36) (.tmp 34) rfl rfl rfl HB5 (by rw [arrC_size]; kernel_rfl) (by simp [arrC_size, S8_len]) (arrC_one v32_one) ?_
        intro w6 hB6 hg6 hz6
        refine hK _ _ ?_
        clear hK K
        refine wpAny_done (by kernel_rfl) ?_ _
        rw [spl_head _ _ _ (S8_len _) (S8_len _)] at hB6
        go_end0
        exact ⟨rfl, Lib.grownBy_trans (Lib.grownBy_below (grown_drew hg4) hb5) hg6, by rw [E.out, S.out]; exact hB6⟩
      exact AllReady.nil
    refine AllReady.cons rfl (fun K hK => ?_) ?_
    · refine step_load_eq rfl 104 (.tmp 28) rfl rfl lb.out ?_
      refine hK _ _ ?_
      clear hK K
      go_simp
      refine wpAny_ready (rs := [4]) (by kernel_rfl) (by simp) ?_
      refine AllReady.cons rfl (fun K hK => ?_) ?_
      · refine step_load_eq rfl 112 (.tmp 25) rfl rfl ls.out ?_
        refine hK _ _ ?_
        clear hK K
        go_simp
        refine wpAny_ready (rs := [12]) (by kernel_rfl) (by simp) ?_
        refine AllReady.cons rfl (fun K hK => ?_) AllReady.nil
        refine step_call rfl (f := 72) rfl Try.func72 (by kernel_rfl) (by kernel_rfl) (by rw [List.map_toArray]; rfl) C.out ?_
        rintro w5 hb5
        have HB5 : Blk w5 b 117 (s.list.map v32 ++ (RK.map v32 ++ [.bool true, rest, .int .i64 (n : Nat)])).toArray := Blk.below (w := w4.drew) HB.out hb5 hlt
        refine hK _ _ ?_
        clear hK K
        go_simp
        refine wpAny_take (i := 13) (v := .pointer (some ⟨b, 0, none⟩)) rfl (by kernel_rfl) (by kernel_rfl) (by kernel_rfl) (fun _ _ _ h => h) (Or.inl ⟨by rfl, by intro w; go_simp⟩) ?_
        refine wpAny_take (i := 14) (v := .pointer (some ⟨b, 0, none⟩)) rfl (by kernel_rfl) (by kernel_rfl) (by kernel_rfl) (fun _ _ _ h => h) (Or.inl ⟨by rfl, by intro w; go_simp⟩) ?_
        go_simp
        refine wpAny_ready (rs := [15]) (by kernel_rfl) (by simp) ?_
        refine AllReady.cons rfl (fun K hK => ?_) AllReady.nil
        refine step_store_part rfl 112 (.tmp 36) (.tmp 34) rfl rfl rfl HB5 (by rw [arrC_size]; kernel_rfl) (by simp [arrC_size, S8_len]) (arrC_one v32_one) ?_
        intro w6 hB6 hg6 hz6
        refine hK _ _ ?_
        clear hK K
        refine wpAny_done (by kernel_rfl) ?_ _
        rw [spl_head _ _ _ (S8_len _) (S8_len _)] at hB6
        go_end0
        exact ⟨rfl, Lib.grownBy_trans (Lib.grownBy_below (grown_drew hg4) hb5) hg6, by rw [E.out, S.out]; exact hB6⟩
      exact AllReady.nil
    exact AllReady.nil
  exact AllReady.nil

theorem absorb_calls (l : List UInt8) (k : Nat) (rest : Value) (n b bs os c : Nat) (hl : 64 * k + 64 ≤ l.length) (w : World) (hB : Blk w b 117 (dC l k rest n))
    (hs : w.rangeAt bs os ((blkOf l k).map b8)) (hbs : bs < w.heap.size) (hne : bs ≠ b) :
    Calls Try.prog 64 #[.pointer (some ⟨b, 0, none⟩), .slice (some ⟨bs, os, none⟩) 64 c] w fun e w' => e = .returned (.tuple #[]) ∧ w.grownBy w' (some b) ∧
      Blk w' b 117 (dC l (k + 1) rest n) := by
  rcases Nat.eq_zero_or_pos k with rfl | hk
  · exact absorb_first l rest n b bs os c (by omega) w hB hs hbs hne
  · exact absorb_made l k rest n b bs os c hk hl w hB hs
end Go.Proofs.Ytfamififoifagaa
