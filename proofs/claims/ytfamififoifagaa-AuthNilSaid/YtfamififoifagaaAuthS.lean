/- Contracts of auth: parsed, put together; small laws for drawn regions. -/
import Derived.Test.YtfamififoifagaaAuthN
namespace Go.Proofs.Ytfamififoifagaa
open Go.RowKit Words

def ParYes (l : List UInt8) (n a0 a1 a2 a3 : Nat) (w : World) (e : Ending) (w' : World) : Prop :=
  ∃ gp cp, e = .returned (.tuple #[.agg #[.int .u8 (a0 : Nat), .int .u8 (a1 : Nat), .int .u16 (a2 : Nat), .int .u32 (a3 : Nat)], .slice (some ⟨gp, 0, none⟩) n cp, .int .i64 0]) ∧
    Below w.heap.size w w' ∧ w.heap.size ≤ gp ∧ gp < w'.heap.size ∧ ∀ i, i < n → w'.rangeAt gp (i * 32) ((parP l i).map b8)
theorem parts_range (l : List UInt8) (n gp cp base : Nat) (w : World) (hl : l.length = 8 + 32 * n) (h : w.ownsRow base 25 32 (.slice (some ⟨gp, 0, none⟩) n cp) n ((parPs l n).flatten.map b8)) :
    ∀ i, i < n → w.rangeAt gp (i * 32) ((parP l i).map b8) := fun i hi j v hj => by
  have hpl := parP_len l n i hl hi
  have hj1 : j < 32 := by have := (List.getElem?_eq_some_iff.1 hj).1; rwa [List.length_map, hpl] at this
  have h3 := flat_at (parPs l n) (fun p hp => by
    unfold parPs at hp
    obtain ⟨k, hk, rfl⟩ := List.mem_map.1 hp
    exact parP_len l n k hl (List.mem_range.1 hk)) i (by rw [parPs_len]; omega) j hj1
  have h4 : (parPs l n)[i]'(by rw [parPs_len]; omega) = parP l i := by simp [parPs]
  rw [h4] at h3
  have := h.cells (g := gp) rfl (i * 32 + j) v (by rw [List.getElem?_map, h3, ← List.getElem?_map]; exact hj)
  rwa [add_mk, Nat.zero_add] at this
theorem parsed_yes (l : List UInt8) (L c kind flags n a0 a1 a2 a3 : Nat) (A : Option Addr) (w : World) (hn1 : 1 ≤ n) (hn : n ≤ 1000) (hL : L = l.length) (hs : Sl w w.heap.size A (l.map b8)) (hk : kind < 256) (hf : flags < 256)
    (hE : parE l kind flags n = 0) (hH : parH l = ⟨a0, a1, a2, a3⟩) :
    Calls Try.prog 27 #[.slice A L c, .int .u8 (kind : Nat), .int .u8 (flags : Nat), .int .i64 (n : Nat)] w (ParYes l n a0 a1 a2 a3 w) := by
  unfold parE at hE
  split at hE
  · cases hE
  · split at hE
    · cases hE
    · rename_i h1 h2
      have hl : l.length = 8 + 32 * n := by omega
      split at hE
      · cases hE
      · rename_i h3
        have C := parsed_full l L c kind flags n A w hn1 hn hl hL hs hk hf
        rw [if_neg h3] at C
        refine C.mono ?_
        rintro e w' ⟨A', c', rfl, hb, ho⟩
        rcases ho.2 with ⟨_, h0⟩ | ⟨g, cap, cur, hv, hbg, hBg, _⟩
        · omega
        injection hv with hA _ hc
        subst hA
        refine ⟨g, c', ?_, hb, hbg, (Array.getElem?_eq_some_iff.1 hBg).1, parts_range l n g c' _ w' hl ho⟩
        rw [hH]
        rfl
theorem parsed_no (l : List UInt8) (L c kind flags n : Nat) (k : Int) (A : Option Addr) (w : World) (hn1 : 1 ≤ n) (hn : n ≤ 1000) (hL : L = l.length) (hs : Sl w w.heap.size A (l.map b8)) (hk : kind < 256) (hf : flags < 256)
    (hE : parE l kind flags n = k) (h0 : k ≠ 0) :
    Calls Try.prog 27 #[.slice A L c, .int .u8 (kind : Nat), .int .u8 (flags : Nat), .int .i64 (n : Nat)] w (ParNo k w) := by
  subst hE
  by_cases h1 : l.length < 8 + 32 * n
  · rw [show parE l kind flags n = 4 from if_pos h1]
    exact parsed_short L c kind flags n A w hn (by omega)
  · by_cases h2 : 8 + 32 * n < l.length
    · rw [show parE l kind flags n = 5 from (if_neg h1).trans (if_pos h2)]
      exact parsed_long L c kind flags n A w hn (by omega)
    · have C := parsed_full l L c kind flags n A w hn1 hn (by omega) hL hs hk hf
      by_cases h3 : parBad l kind flags n = true
      · rw [show parE l kind flags n = 6 from (if_neg h1).trans ((if_neg h2).trans (if_pos h3))]
        rw [if_pos h3] at C
        exact C
      · exact absurd ((if_neg h1).trans ((if_neg h2).trans (if_neg h3))) h0
theorem parE_len {l : List UInt8} {kind flags n : Nat} (h : parE l kind flags n = 0) : l.length = 8 + 32 * n := by
  unfold parE at h
  by_cases h1 : l.length < 8 + 32 * n
  · rw [if_pos h1] at h; cases h
  · rw [if_neg h1] at h
    by_cases h2 : 8 + 32 * n < l.length
    · rw [if_pos h2] at h; cases h
    · omega
theorem OwnAt.sl {w : World} {base : Nat} {e : TypeId} {A : Option Addr} {n c : Nat} {xs : List Value} (h : OwnAt w base e (.slice A n c) xs) : Sl w w.heap.size A xs := by
  obtain ⟨A', c', hv, _, _, hs⟩ := h.form
  injection hv with h1 _ _
  subst h1
  exact hs
theorem party_size : (Try.prog.info? 52).map (·.size) = some 3 := by kernel_rfl
section
variable {P : Program} {w : World} {ops : Array Oper} {op : Oper} {a : Act} {K : Act → World → Prop} {Q : Exit → Act → World → Prop} {E : Prop}
/-- a store of one cell -/
theorem step_store_one (hgd : op.guard = none) (ty : TypeId) (x y : Operand) (ho : op.op = .store ty x y)
    {g o : Nat} {t : TypeId} {cur : Array Value} {v : Value} (hx : a.eval x = .pointer (some ⟨g, o, none⟩)) (hy : a.eval y = v) (hc : v.cells = #[v]) (h1 : v.oneCell' = true) (hB : Blk w g t cur)
    (hi : (P.info? ty).map (·.size) = some 1) (hfit : o + 1 ≤ cur.size)
    (h : ∀ w', Blk w' g t (cur.setIfInBounds o v) → w.grownBy w' (some g) → w'.heap.size = w.heap.size → K (a.put op.dst undef) w') :
    if Region.wanted op (yielded ops a.tmps) = true then Oper.wp P op a w K Q else E := by
  rw [if_pos (by simp [Region.wanted, hgd])]
  have hs := run_storeCells_at (P := P) g o t [v] 0 cur w hB (by simpa using hfit) (by intro u hu; simp at hu; subst hu; exact h1)
  simp only [Nat.add_zero, List.length_cons, List.length_nil] at hs
  have he : (cur.toList.take o ++ [v] ++ cur.toList.drop (o + (0 + 1))).toArray = cur.setIfInBounds o v := by
    apply Array.ext'
    rw [Array.toList_setIfInBounds]
    have := list_seg_step cur.toList o v [] (by simp; omega)
    simp only [List.append_nil, List.length_nil, Nat.add_zero] at this
    rw [List.set_eq_take_append_cons_drop, if_pos (by simp; omega)]
    simp
  rw [he] at hs
  have hv : (storeVar ty ⟨g, o, none⟩ v).run P w = .ok () (w.setRow g (cur.setIfInBounds o v)) := by
    cases hq : P.info? ty with
    | none => simp [hq] at hi
    | some i =>
      have hsz : i.size = 1 := by simpa [hq] using hi
      simp [storeVar, sizeOf, typeInfo, hq, hc, hsz, hs]
  unfold Oper.wp execOp
  simp only [ho, hx, hy, Instr.storeAt, Instr.sureAddr, Sem.run_bind, Sem.run_pure, Result.andThen_ok, hv]
  exact h _ (setRow_heap w g cur _ t _ hB) (grown_setRow w g _) (by simp)
end
end Go.Proofs.Ytfamififoifagaa
