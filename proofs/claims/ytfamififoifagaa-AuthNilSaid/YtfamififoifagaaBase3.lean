/- Words for memory: rows of the call's own that begin anywhere in their block (behind 's = s[k:]'), elements of one cell; append onto them. No program in sight. -/
import Derived.Test.YtfamififoifagaaBase2
namespace Go.Proofs.Ytfamififoifagaa
open Go.RowKit

def OwnAt (w : World) (base : Nat) (e : TypeId) (v : Value) (xs : List Value) : Prop :=
  (v = .slice none 0 0 ∧ xs = []) ∨
  ∃ g o cap cur, v = .slice (some ⟨g, o, none⟩) xs.length cap ∧ base ≤ g ∧ Blk w g e cur ∧ xs.length ≤ cap ∧ cap ≤ maxLen ∧ o + cap ≤ cur.size ∧ (cur.toList.drop o).take xs.length = xs

theorem OwnAt.nil (w : World) (base : Nat) (e : TypeId) : OwnAt w base e (.slice none 0 0) [] := .inl ⟨rfl, rfl⟩
theorem OwnAt.of_own {w : World} {base : Nat} {e : TypeId} {v : Value} {n : Nat} {xs : List Value} (h : w.ownsRow base e 1 v n xs) : OwnAt w base e v xs := by
  have hl : xs.length = n := by have := h.1; omega
  rcases h.2 with ⟨rfl, rfl⟩ | ⟨g, cap, cur, rfl, hb, hg, hnc, hcm, hcs, htake⟩
  · exact .inl ⟨rfl, List.eq_nil_of_length_eq_zero hl⟩
  · exact .inr ⟨g, 0, cap, cur, by rw [hl], hb, hg, by omega, hcm, by omega, by rw [List.drop_zero, hl]; simpa using htake⟩
theorem OwnAt.range {w : World} {base : Nat} {e : TypeId} {g o c n : Nat} {xs : List Value} (h : OwnAt w base e (.slice (some ⟨g, o, none⟩) n c) xs) : w.rangeAt g o xs := by
  rcases h with ⟨h, _⟩ | ⟨g', o', cap, cur, hv, hb, hB, hnc, hcm, hcs, htake⟩
  · cases h
  · injection hv with ha
    injection ha with ha
    injection ha with h1 h2
    subst h1 h2
    intro j v hj
    rw [hB.cell]
    rw [← htake, List.getElem?_take] at hj
    split at hj
    · rw [List.getElem?_drop] at hj
      simpa using hj
    · cases hj
theorem OwnAt.form {w : World} {base : Nat} {e : TypeId} {v : Value} {xs : List Value} (h : OwnAt w base e v xs) :
    ∃ A c, v = .slice A xs.length c ∧ xs.length ≤ c ∧ c ≤ maxLen ∧ Sl w w.heap.size A xs := by
  have h0 := h
  rcases h with ⟨rfl, rfl⟩ | ⟨g, o, cap, cur, rfl, hb, hB, hnc, hcm, hcs, htake⟩
  · exact ⟨none, 0, rfl, Nat.le_refl _, by unfold maxLen; omega, Sl.nil _ _ _⟩
  · exact ⟨some ⟨g, o, none⟩, cap, rfl, hnc, hcm, fun _ => ⟨g, o, rfl, hB.lt, h0.range⟩⟩
theorem OwnAt.lt {w : World} {base : Nat} {e : TypeId} {v : Value} {xs : List Value} (h : OwnAt w base e v xs) : ∀ k, v.ownBlock = some k → base ≤ k ∧ k < w.heap.size := by
  rcases h with ⟨rfl, rfl⟩ | ⟨g, o, cap, cur, rfl, hb, hB, hnc, hcm, hcs, htake⟩
  · intro k hk; cases hk
  · intro k hk
    obtain rfl : g = k := by simpa [Value.ownBlock] using hk
    exact ⟨hb, hB.lt⟩
theorem OwnAt.keep {w w' : World} {base : Nat} {e : TypeId} {v : Value} {xs : List Value} (h : OwnAt w base e v xs) (hk : ∀ k, v.ownBlock = some k → w'.heap[k]? = w.heap[k]?) : OwnAt w' base e v xs := by
  rcases h with h | ⟨g, o, cap, cur, rfl, hb, hB, rest⟩
  · exact .inl h
  · exact .inr ⟨g, o, cap, cur, rfl, hb, (hk g rfl).trans hB, rest⟩
theorem OwnAt.below {w w' : World} {base B : Nat} {e : TypeId} {v : Value} {xs : List Value} (h : OwnAt w base e v xs) (hb : Below B w w') (hB : w.heap.size ≤ B) : OwnAt w' base e v xs :=
  h.keep fun k hk => hb.block k (by have := (h.lt k hk).2; omega)
theorem OwnAt.grown {w w' : World} {base : Nat} {e : TypeId} {v : Value} {xs : List Value} {row : Option Nat} (h : OwnAt w base e v xs) (hg : w.grownBy w' row) (hne : v.ownBlock = none ∨ v.ownBlock ≠ row) : OwnAt w' base e v xs :=
  h.keep fun k hk => hg.block k (h.lt k hk).2 (by
    rcases hne with h0 | h0
    · rw [h0] at hk; cases hk
    · rw [hk] at h0; exact h0)
theorem OwnAt.ne {w : World} {base g : Nat} {e t : TypeId} {v : Value} {xs : List Value} {cs : Array Value} (h : OwnAt w base e v xs) (hg : Blk w g t cs) (hne : e ≠ t) : v.ownBlock ≠ some g := by
  rcases h with ⟨rfl, _⟩ | ⟨g', o, cap, cur, rfl, _, hh, _⟩
  · simp [Value.ownBlock]
  · intro he
    obtain rfl : g' = g := by simpa [Value.ownBlock] using he
    unfold Blk at hg hh
    rw [hh] at hg
    injection hg with hg
    injection hg with _ ht
    exact hne ht
theorem OwnAt.base {w : World} {base base' : Nat} {e : TypeId} {v : Value} {xs : List Value} (h : OwnAt w base e v xs) (hb : base' ≤ base) : OwnAt w base' e v xs := by
  rcases h with h | ⟨g, o, cap, cur, rfl, hb', rest⟩
  · exact .inl h
  · exact .inr ⟨g, o, cap, cur, rfl, Nat.le_trans hb hb', rest⟩
/-- what 's[k:]' gives -/
theorem OwnAt.cut {w : World} {base : Nat} {e : TypeId} {A : Option Addr} {n c : Nat} {xs : List Value} (h : OwnAt w base e (.slice A n c) xs) {k : Nat} (hk : 0 < k) (hn : k ≤ n) :
    OwnAt w base e (.slice (if c = k then A else A.map (·.add k)) (n - k) (c - k)) (xs.drop k) := by
  rcases h with ⟨h, rfl⟩ | ⟨g, o, cap, cur, hv, hb, hB, hnc, hcm, hcs, htake⟩
  · injection h with _ h; omega
  · injection hv with ha hn' hc'
    subst ha hn' hc'
    refine .inr ⟨g, if c = k then o else o + k, c - k, cur, ?_, hb, hB, by simp; omega, by omega, ?_, ?_⟩
    · rw [List.length_drop]; split <;> simp [add_mk]
    · split <;> omega
    · split
      · have : k = xs.length := by omega
        subst this
        simp
      · rw [List.length_drop]
        conv => rhs; rw [← htake, List.drop_take, List.drop_drop]

section
variable {P : Program} {w : World}
theorem run_append_at (base : Nat) (t ty e : TypeId) (i : TypeInfo) (z : Value) (ht : P.underlying t = some (.slice e)) (hi : P.info? e = some i) (hz : i.zero = some z)
    (hsize : i.size = 1) (hby : i.bytes = 1) (hzs : z.cells.size = 1)
    (v : Value) (xs : List Value) (hown : OwnAt w base e v xs)
    (B : Nat) (A : Option Addr) (m c : Nat) (news : List Value) (hr : Sl w B A news) (hl : news.length = m) (h1 : ∀ u ∈ news, u.oneCell' = true)
    (hbytes : xs.length + m ≤ 140737488355328) (hbase : base ≤ w.heap.size) :
    ∃ v' w', (Builtin.append_ #[t, t] ty #[v, .slice A m c]).run P w = .ok v' w' ∧ OwnAt w' base e v' (xs ++ news) ∧ w.grownBy w' v.ownBlock ∧
      (v'.ownBlock = v.ownBlock ∨ v'.ownBlock = some w.heap.size) := by
  subst hl
  rcases hown with ⟨rfl, rfl⟩ | ⟨g, o, cap, cur, rfl, hbg, hB, hnc, hcm, hcs, htake⟩
  · obtain ⟨v', w', h2, h3, h4, h5⟩ := run_append_sl (P := P) (w := w) base t ty e i z 1 1 ht hi hz hsize hby hzs (by omega) (.slice none 0 0) 0 [] (World.ownsRow_nil w base e 1) B A news.length c news hr (by omega) h1 (by simp [maxLen] at hbytes ⊢; omega) (by simp at hbytes ⊢; omega) hbase
    exact ⟨v', w', h2, OwnAt.of_own h3, h4, h5⟩
  · rcases A with _ | ad
    · have hn : news = [] := by
        rcases List.eq_nil_or_concat news with h0 | ⟨a, b, h0⟩
        · exact h0
        · obtain ⟨_, _, h, _⟩ := hr (by rw [h0]; simp)
          cases h
      subst hn
      refine ⟨_, w, ?_, .inr ⟨g, o, cap, cur, by rw [List.append_nil], hbg, hB, by simpa using hnc, hcm, hcs, by simpa using htake⟩, ⟨rfl, rfl, rfl, Nat.le_refl _, fun _ _ _ => rfl⟩, .inl rfl⟩
      simp [Builtin.append_, run_underlying ht, sizeOf, typeInfo, hi, Builtin.lenOf, Builtin.firstCells, hnc, storeCells]
    · have hcells : ∀ j u, news[j]? = some u → w.cell? (ad.add j) = some u := by
        intro j u hu
        obtain ⟨b, o, h, _, hc⟩ := hr (by rintro rfl; simp at hu)
        injection h with h
        subst h
        rw [add_mk]
        exact hc j u hu
      have hf := run_firstCells_some (P := P) w i.size news.length ad news.length c news (by rw [hsize]; omega) hcells
      by_cases hroom : xs.length + news.length ≤ cap
      · have hst := run_storeCells_at P g (o + xs.length) e news 0 cur w hB (by omega) h1
        simp only [Nat.add_zero] at hst
        refine ⟨.slice (some ⟨g, o, none⟩) (xs.length + news.length) cap, w.setRow g (cur.toList.take (o + xs.length) ++ news ++ cur.toList.drop (o + xs.length + news.length)).toArray, ?_, .inr ⟨g, o, cap, _, by rw [List.length_append], hbg, setRow_heap w g cur _ e _ hB, by simpa using hroom, hcm, ?_, ?_⟩, grown_setRow _ _ _, .inl rfl⟩
        · rw [hsize] at hf
          simp [Builtin.append_, run_underlying ht, sizeOf, typeInfo, hi, Builtin.lenOf, hroom, hf, add_mk, hst, hsize]
        · simp only [List.size_toArray, List.length_append, List.length_take, List.length_drop, Array.length_toList]
          omega
        · have hlen : (cur.toList.take (o + xs.length)).length = o + xs.length := by simp; omega
          have hd : (cur.toList.take (o + xs.length)).drop o = xs := by rw [List.drop_take, show o + xs.length - o = xs.length by omega]; exact htake
          simp only [List.append_assoc]
          rw [List.drop_append_of_le_length (by omega), hd, ← List.append_assoc]
          exact List.take_left
      · have holds : ∀ j u, xs[j]? = some u → w.cell? ((⟨g, o, none⟩ : Addr).add j) = some u := by
          intro j u hj
          rw [add_mk]
          have hR : OwnAt w base e (.slice (some ⟨g, o, none⟩) xs.length cap) xs := .inr ⟨g, o, cap, cur, rfl, hbg, hB, hnc, hcm, hcs, htake⟩
          exact hR.range j u hj
        have hlen := List.length_append (as := xs) (bs := news)
        have hge := grownCap_ge w (xs.length + news.length) cap e
        have hcm : grownCap w (xs.length + news.length) cap e ≤ maxLen := grownCap_le_maxLen w (xs.length + news.length) cap e (by unfold maxLen; omega)
        have hr := run_append_grow (P := P) w t ty e i z ht hi hz ⟨g, o, none⟩ xs.length cap xs (by rw [hsize]; omega) holds ad news.length c news (by rw [hsize]; omega) hcells (by omega) (by omega) (growslice_fits (by omega) (by rw [hby]; omega))
        refine ⟨_, _, hr, .inr ⟨w.heap.size, 0, _, _, by rw [hlen], hbase, heap_alloc_new w.drew _, by omega, hcm, ?_, ?_⟩, ⟨rfl, rfl, rfl, by simp, fun k hk _ => heap_alloc_old w.drew _ hk⟩, .inr rfl⟩
        · simp only [Array.size_append, List.size_toArray, size_zeroCells, hzs]
          omega
        · simp only [List.drop_zero, Array.toList_append, List.append_assoc]
          rw [← List.append_assoc]
          exact List.take_left
theorem wp_append_at {o : Oper} {a : Act} {K : Act → World → Prop} {Q : Exit → Act → World → Prop} (s x : Operand) (t : TypeId)
    (ho : o.op = .call { callee := .builtin .append, args := #[s, x], argTypes := #[t, t] })
    (base : Nat) (e : TypeId) (i : TypeInfo) (z : Value) (ht : P.underlying t = some (.slice e)) (hi : P.info? e = some i) (hz : i.zero = some z)
    (hsize : i.size = 1) (hby : i.bytes = 1) (hzs : z.cells.size = 1)
    (v : Value) (xs : List Value) (hs : a.eval s = v) (hown : OwnAt w base e v xs)
    (B : Nat) (A : Option Addr) (m c : Nat) (news : List Value) (hx : a.eval x = .slice A m c) (hr : Sl w B A news) (hl : news.length = m) (h1 : ∀ u ∈ news, u.oneCell' = true)
    (hbytes : xs.length + m ≤ 140737488355328) (hbase : base ≤ w.heap.size)
    (h : ∀ v' w', OwnAt w' base e v' (xs ++ news) → w.grownBy w' v.ownBlock → (v'.ownBlock = v.ownBlock ∨ v'.ownBlock = some w.heap.size) → K (a.put o.dst v') w') : o.wp P a w K Q := by
  obtain ⟨v', w', hrun, h2, h3, h4⟩ := run_append_at (P := P) (w := w) base t o.type e i z ht hi hz hsize hby hzs v xs hown B A m c news hr hl h1 hbytes hbase
  unfold Oper.wp execOp
  simp only [ho, resolve, invoke, builtin, Sem.run_bind, Sem.run_pure, Result.andThen_ok, List.map_toArray, List.map_cons, List.map_nil, hs, hx, hrun]
  exact h v' w' h2 h3 h4
theorem wpList_append_at {ops : Array Oper} {rest : List Oper} {o : Oper} {a : Act} {Q : Exit → Act → World → Prop} (hgd : o.guard = none) (s x : Operand) (t : TypeId)
    (ho : o.op = .call { callee := .builtin .append, args := #[s, x], argTypes := #[t, t] })
    (base : Nat) (e : TypeId) (i : TypeInfo) (z : Value) (ht : P.underlying t = some (.slice e)) (hi : P.info? e = some i) (hz : i.zero = some z)
    (hsize : i.size = 1) (hby : i.bytes = 1) (hzs : z.cells.size = 1)
    (v : Value) (xs : List Value) (hs : a.eval s = v) (hown : OwnAt w base e v xs)
    (B : Nat) (A : Option Addr) (m c : Nat) (news : List Value) (hx : a.eval x = .slice A m c) (hr : Sl w B A news) (hl : news.length = m) (h1 : ∀ u ∈ news, u.oneCell' = true)
    (hbytes : xs.length + m ≤ 140737488355328) (hbase : base ≤ w.heap.size)
    (h : ∀ v' w', OwnAt w' base e v' (xs ++ news) → w.grownBy w' v.ownBlock → (v'.ownBlock = v.ownBlock ∨ v'.ownBlock = some w.heap.size) → wpList P ops Q rest (a.put o.dst v') w') : wpList P ops Q (o :: rest) a w :=
  wpList_plain hgd fun _ hK => wp_append_at s x t ho base e i z ht hi hz hsize hby hzs v xs hs hown B A m c news hx hr hl h1 hbytes hbase fun v' w' h2 h3 h4 => hK _ _ (h v' w' h2 h3 h4)
end
end Go.Proofs.Ytfamififoifagaa
