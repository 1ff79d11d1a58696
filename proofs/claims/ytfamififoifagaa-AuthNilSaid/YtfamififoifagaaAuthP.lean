/- Contracts of auth: parsed. -/
import Derived.Test.YtfamififoifagaaAuthE
import Derived.BigRegion
namespace Go.Proofs.Ytfamififoifagaa
open Go.RowKit Words

def ParNo (k : Int) (w : World) (e : Ending) (w' : World) : Prop := e = .returned (.tuple #[.agg (hdC Hd.zero).toArray, .slice none 0 0, .int .i64 k]) ∧ Below w.heap.size w w'
def ParOk (l : List UInt8) (n : Nat) (w : World) (e : Ending) (w' : World) : Prop := ∃ A c, e = .returned (.tuple #[.agg (hdC (parH l)).toArray, .slice A n c, .int .i64 0]) ∧ Below w.heap.size w w' ∧ w'.ownsRow w.heap.size 25 32 (.slice A n c) n ((parPs l n).flatten.map b8)

set_option maxRecDepth 100000 in
theorem parsed_short (L c kind flags n : Nat) (A : Option Addr) (w : World) (hn : n ≤ 1000) (hL : L < 8 + 32 * n) :
    Calls Try.prog 27 #[.slice A L c, .int .u8 (kind : Nat), .int .u8 (flags : Nat), .int .i64 (n : Nat)] w (ParNo 4 w) := by
  have h1 : (L : Int) < 8 + 32 * (n : Int) := by omega
  go_enter Try.func27, Try.ntmps27
  go_wp2_with fail
  exact bodyPost_ret (v := .tuple #[.agg (hdC Hd.zero).toArray, .slice none 0 0, .int .i64 4]) (by simp [results, Try.results27, go_sem, hdC, Hd.zero]) rfl ⟨rfl, (Below.refl _ _).alloc (Nat.le_refl _) _⟩
set_option maxRecDepth 100000 in
theorem parsed_long (L c kind flags n : Nat) (A : Option Addr) (w : World) (hn : n ≤ 1000) (hL : 8 + 32 * n < L) :
    Calls Try.prog 27 #[.slice A L c, .int .u8 (kind : Nat), .int .u8 (flags : Nat), .int .i64 (n : Nat)] w (ParNo 5 w) := by
  have h1 : ¬ (L : Int) < 8 + 32 * (n : Int) := by omega
  have h2 : 8 + 32 * (n : Int) < (L : Int) := by omega
  go_enter Try.func27, Try.ntmps27
  go_wp2_with fail
  exact bodyPost_ret (v := .tuple #[.agg (hdC Hd.zero).toArray, .slice none 0 0, .int .i64 5]) (by simp [results, Try.results27, go_sem, hdC, Hd.zero]) rfl ⟨rfl, (Below.refl _ _).alloc (Nat.le_refl _) _⟩

theorem RdIs.base {w : World} {q b : Nat} {l : List UInt8} {p : Nat} (h : RdIs w q b l p) : RdIs w 0 b l p := by
  obtain ⟨v, hB, hO⟩ := h
  exact ⟨v, hB, hO.base (Nat.zero_le _)⟩
theorem RdIs.alloc {w : World} {q b : Nat} {l : List UInt8} {p : Nat} (h : RdIs w q b l p) (o : Obj) : RdIs (w.alloc o) q b l p := h.below ((Below.refl _ _).alloc (Nat.le_refl _) _)
/-- All, its sizes laid ahead of the call -/
theorem all_new (S : List Nat) (cs : Array Value) (l : List UInt8) (p q b g n : Nat) (w : World) (hD : RdIs w q b l p) (hS : ∀ k ∈ S, 1 ≤ k ∧ k ≤ 8) (hcs : cs.toList = S.map i64) (hg : g = w.heap.size) (hn : n = S.length) (hlen : S.length ≤ 1000) (hsum : S.sum ≤ l.length) (hl : l.length ≤ 100000) (hp : p ≤ 100000) :
    Calls Try.prog 35 #[.pointer (some ⟨b, 0, none⟩), .slice (some ⟨g, 0, none⟩) n n] (w.alloc (.cells cs 3)) fun e w' => ∃ A d, e = .returned (.tuple #[.slice A n d, .int .i64 0]) ∧ w.grownBy w' (some b) ∧ RdIs w' q b (l.drop S.sum) (p + S.sum) ∧ w'.ownsRow w.heap.size 74 1 (.slice A n d) n ((fieldsN S l).map u64) := by
  subst hg
  refine (all_calls S l p q b w.heap.size 0 n n _ (hD.alloc _) hS (by rw [← hcs]; exact blk_range (Blk.new_ rfl)) (by simp) hn hlen hsum hl hp).mono ?_
  rintro e w' ⟨A, d, h1, h2, h3, h4⟩
  exact ⟨A, d, h1, Lib.grownBy_trans (Lib.grownBy_below (World.grownBy.refl _ _) ((Below.refl _ _).alloc (Nat.le_refl _) _)) h2, h3, own_base h4 (by simp)⟩

theorem wpList_arrayAt {P : Program} {w : World} {ops : Array Oper} {rest : List Oper} {op : Oper} {a : Act} {Q : Exit → Act → World → Prop} (hgd : op.guard = none) (arr : TypeId) (x : Operand) (ho : op.op = .sliceToArrayPointer arr x)
    (A : Option Addr) (m c : Nat) (hx : a.eval x = .slice A m c) {n : Nat} {e : TypeId} (hu : P.underlying arr = some (.array n e)) (h : n ≤ m)
    (hk : wpList P ops Q rest (a.put op.dst (.pointer A)) w) : wpList P ops Q (op :: rest) a w := by
  refine wpList_plain hgd fun K hK => ?_
  unfold Oper.wp execOp
  simp only [ho, hx, Sem.run_bind, array_at hu A m c h, Result.andThen_ok]
  exact hK _ _ hk
theorem sl_new (w : World) (p : List UInt8) : Sl (w.alloc (.cells (arrC b8 p) 25)) (w.heap.size + 1) (some ⟨w.heap.size, 0, none⟩) (p.map b8) := (sl_arr (Blk.new_ (w := w) (t := 25) (cs := arrC b8 p) rfl)).more (by simp)
theorem ret_rtt {P : Program} {fn : Func} {p q r : Tmp} {ty : TypeId} (h : fn.results = #[.cell p ty, .tmp q, .tmp r]) {a : Act} {w : World} {R : Ending → World → Prop} {g : Nat} {t : TypeId} {cs : Array Value} {d : TypeDesc} {v u : Value}
    (hp : a.tmps.getD p undef = .pointer (some ⟨g, 0, none⟩)) (hB : Blk w g t cs) (hu : P.underlying ty = some d) (hd : d.isRow = true) (hi : (P.info? ty).map (·.size) = some cs.size)
    (hv : a.tmps.getD q undef = v) (hv' : a.tmps.getD r undef = u) (hdef : a.defers = []) (hR : R (.returned (.tuple #[.agg cs, v, u])) w) : bodyPost P fn R .ret a w := by
  refine bodyPost_ret (v := .tuple #[.agg cs, v, u]) ?_ hdef hR
  have e1 : a.tmps[p]?.getD undef = .pointer (some ⟨g, 0, none⟩) := by simpa using hp
  have e2 : a.tmps[q]?.getD undef = v := by simpa using hv
  have e3 : a.tmps[r]?.getD undef = u := by simpa using hv'
  have l1 := run_loadVar_row (P := P) w g t ty cs (0, 0) d hB hu (by cases d <;> first | rfl | cases hd) hi
  simp [results, h, e1, e2, e3, asAddr, l1]
theorem a32_zsize : (Try.prog.info? 25).map (·.size) = some (arrC b8 (List.replicate 32 0)).size := by rw [arrC_size]; kernel_rfl
theorem a32_zfit : 0 + (arrC b8 (List.replicate 32 0)).size ≤ (Array.replicate 32 (Value.int .u8 0)).size := by rw [arrC_size]; decide
theorem head_size : (Try.prog.info? 54).map (·.size) = some 4 := by kernel_rfl
theorem own_formN {w : World} {base : Nat} {e : TypeId} {v : Value} {n size : Nat} {xs : List Value} (h : w.ownsRow base e size v n xs) :
    ∃ A c, v = .slice A n c ∧ n ≤ c ∧ c ≤ maxLen ∧ xs.length = n * size ∧ Sl w w.heap.size A xs := by
  have hl := h.1
  rcases h.2 with ⟨rfl, rfl⟩ | ⟨g, cap, cur, rfl, hb, hg, hnc, hcm, hcs, htake⟩
  · obtain rfl : xs = [] := List.eq_nil_of_length_eq_zero (by omega)
    exact ⟨none, 0, rfl, Nat.le_refl _, by unfold maxLen; omega, hl, Sl.nil _ _ _⟩
  · refine ⟨some ⟨g, 0, none⟩, cap, rfl, hnc, hcm, hl, fun _ => ⟨g, 0, rfl, (Array.getElem?_eq_some_iff.1 hg).1, fun j v hv => ?_⟩⟩
    have := h.cells (g := g) rfl j v hv
    rwa [add_mk] at this
theorem RdIs.farT {w w' : World} {q b : Nat} {l : List UInt8} {p g : Nat} {t : TypeId} {cs : Array Value} (h : RdIs w q b l p) (hg : w.grownBy w' (some g)) (hB : Blk w g t cs) (ht : t ≠ 5) (hgb : g ≠ b) : RdIs w' q b l p := by
  obtain ⟨u, hB1, hO⟩ := h
  exact ⟨u, hB1.grown hg (fun e => hgb (by injection e with e; exact e.symm)), hO.grown hg (Or.inr (hO.ne hB (fun e => ht e.symm)))⟩
theorem RdIs.appT {w w' : World} {q b : Nat} {l : List UInt8} {p base n size : Nat} {e' : TypeId} {v : Value} {ys : List Value} (h : RdIs w q b l p) (ho : w.ownsRow base e' size v n ys) (hg : w.grownBy w' v.ownBlock) (h1 : e' ≠ 5) (h2 : e' ≠ 98) : RdIs w' q b l p := by
  obtain ⟨u, hB, hO⟩ := h
  exact ⟨u, hB.grown hg (fun e => own_ne ho hB h2 e.symm), hO.grown hg (hO.apart ho (fun e => h1 e.symm))⟩
theorem a32_info : ∃ i z, Try.prog.info? 25 = some i ∧ i.zero = some z ∧ i.size = 32 ∧ i.bytes = 32 ∧ z.cells.size = 32 := by
  have h : (Try.prog.info? 25).map (fun i => (i.zero.map (·.cells.size), i.size, i.bytes)) = some (some 32, 32, 32) := by kernel_rfl
  cases hq : Try.prog.info? 25 with
  | none => rw [hq] at h; cases h
  | some i =>
    rw [hq] at h
    simp only [Option.map_some, Option.some.injEq, Prod.mk.injEq, Option.map_eq_some_iff] at h
    obtain ⟨⟨z, hz, h1⟩, h2, h3⟩ := h
    exact ⟨i, z, rfl, hz, h2, h3, h1⟩
theorem wpList_append_a32 {w : World} {ops : Array Oper} {rest : List Oper} {o : Oper} {a : Act} {Q : Exit → Act → World → Prop} (hgd : o.guard = none) (s x : Operand)
    (ho : o.op = .call { callee := .builtin .append, args := #[s, x], argTypes := #[67, 67] })
    (base : Nat) (v : Value) (n : Nat) (xs : List Value) (hs : a.eval s = v) (hown : w.ownsRow base 25 32 v n xs)
    (B : Nat) (A : Option Addr) (m c : Nat) (news : List Value) (hx : a.eval x = .slice A m c) (hr : Sl w B A news) (hl : news.length = m * 32) (h1 : ∀ u ∈ news, u.oneCell' = true)
    (hbytes : n + m ≤ 1000000) (hbase : base ≤ w.heap.size)
    (h : ∀ v' w', w'.ownsRow base 25 32 v' (n + m) (xs ++ news) → w.grownBy w' v.ownBlock → (v'.ownBlock = v.ownBlock ∨ v'.ownBlock = some w.heap.size) → wpList Try.prog ops Q rest (a.put o.dst v') w') :
    wpList Try.prog ops Q (o :: rest) a w := by
  obtain ⟨i, z, hi, hz, hsz, hby, hzc⟩ := a32_info
  exact wpList_append_sl hgd s x 67 ho base 25 i z 32 32 Try.underlying67 hi hz hsz hby hzc (by omega) v n xs hs hown B A m c news hx hr hl h1 (by unfold maxLen; omega) (by omega) hbase h

set_option maxRecDepth 100000 in
set_option maxHeartbeats 1000000 in
theorem parsed_full (l : List UInt8) (L c kind flags n : Nat) (A : Option Addr) (w : World) (hn1 : 1 ≤ n) (hn : n ≤ 1000) (hl : l.length = 8 + 32 * n) (hL : L = l.length) (hs : Sl w w.heap.size A (l.map b8)) (hk : kind < 256) (hf : flags < 256) :
    Calls Try.prog 27 #[.slice A L c, .int .u8 (kind : Nat), .int .u8 (flags : Nat), .int .i64 (n : Nat)] w (if parBad l kind flags n then ParNo 6 w else ParOk l n w) := by
  have h1 : ¬ (L : Int) < 8 + 32 * (n : Int) := by omega
  have h2 : ¬ 8 + 32 * (n : Int) < (L : Int) := by omega
  have hz : A = none → L = 0 := fun h => by have h3 := sl_none hs h; rw [List.map_eq_nil_iff] at h3; subst h3; simpa using hL
  have C := Lib.hid (newReader_calls l A L c (w.alloc (.cells #[.int .u8 0, .int .u8 0, .int .u16 0, .int .u32 0] 54)) ((hs.below ((Below.refl _ _).alloc (Nat.le_refl _) _)).more (by simp)) hL hz (by omega))
  have HL := Lib.hid hl
  generalize hQ : (if parBad l kind flags n then ParNo 6 w else ParOk l n w) = Q
  have HQ := Lib.hid hQ
  have hF := parH_fields l
  have hok := parH_ok l
  generalize hH : parH l = hd at hF hok
  obtain ⟨a0, a1, a2, a3⟩ := hd
  obtain ⟨k0, k1, k2, k3⟩ := hok
  simp only at k0 k1 k2 k3 hF
  have j0 : (a0 : Int) < 256 := by omega
  have j1 : (a1 : Int) < 256 := by omega
  have j2 : (a2 : Int) < 65536 := by omega
  have j3 : (a3 : Int) < 4294967296 := by omega
  have HH := Lib.hid hH
  have HF := Lib.hid hF
  have hLL : L = 8 + 32 * n := by omega
  have HLL := Lib.hid hLL
  clear hs hL hl hz hQ hF hLL hH
  go_enter Try.func27, Try.ntmps27
  go_upto_region 9 with (first
    | (go_at_call 34; refine C.out.mono ?_; rintro e w1 ⟨b, rfl, hzb, hb1, hR1⟩; replace hR1 := hR1.base; replace hzb : w.heap.size + 1 ≤ b := (by simpa using hzb); have C2 := Lib.hid (all_new [1, 1, 2, 4] #[.int .i64 1, .int .i64 1, .int .i64 2, .int .i64 4] l 0 _ b w1.heap.size 4 w1 hR1 (by decide) rfl rfl rfl (by decide) (by rw [HL.out]; simp) (by rw [HL.out]; omega) (by omega)); rw [HF.out] at C2; have HB1 := Lib.hid ((Blk.new_ (w := w) (t := 54) (cs := #[.int .u8 0, .int .u8 0, .int .u16 0, .int .u32 0]) rfl).below hb1 (by simp)); have HBB1 := Lib.hid (below_step ((Below.refl _ _).alloc (Nat.le_refl _) _) hb1); have hbz : b < w1.heap.size := hR1.lt; have hz1 : w.heap.size + 1 ≤ w1.heap.size := (by simpa using hb1.size); clear hb1 hR1)
    | (go_at_call 35; refine C2.out.mono ?_; rintro e w2 ⟨A4, d4, rfl, hg2, hR2, hO2⟩))
  rcases hO2.2 with ⟨_, h0⟩ | ⟨g4, cap4, cur4, hv4, hb4, hB4, _, _, _, ht4⟩
  · cases h0
  injection hv4 with hA4 _ hc4
  subst hA4 hc4
  have c0 : w2.cell? ⟨g4, 0, none⟩ = some (.int .u64 (a0 : Nat)) := by have := hO2.cells (g := g4) rfl 0 _ rfl; rwa [add_mk] at this
  have c1 : w2.cell? ⟨g4, 1, none⟩ = some (.int .u64 (a1 : Nat)) := by have := hO2.cells (g := g4) rfl 1 _ rfl; rwa [add_mk] at this
  have c2 : w2.cell? ⟨g4, 2, none⟩ = some (.int .u64 (a2 : Nat)) := by have := hO2.cells (g := g4) rfl 2 _ rfl; rwa [add_mk] at this
  have c3 : w2.cell? ⟨g4, 3, none⟩ = some (.int .u64 (a3 : Nat)) := by have := hO2.cells (g := g4) rfl 3 _ rfl; rwa [add_mk] at this
  have hB2 := HB1.out.grown hg2 (by intro e; injection e with e; omega)
  have d0 : w2.cell? ⟨w.heap.size, 0, none⟩ = some (.int .u8 0) := by rw [hB2.cell]; rfl
  have d1 : w2.cell? ⟨w.heap.size, 1, none⟩ = some (.int .u8 0) := by rw [hB2.cell]; rfl
  have d2 : w2.cell? ⟨w.heap.size, 2, none⟩ = some (.int .u16 0) := by rw [hB2.cell]; rfl
  have d3 : w2.cell? ⟨w.heap.size, 3, none⟩ = some (.int .u32 0) := by rw [hB2.cell]; rfl
  have f2 := hB2.frozen
  have hz2 := hg2.size
  have HB2 := Lib.hid hB2
  have HR2 := Lib.hid hR2
  have HBB2 := Lib.hid (HBB1.out.grown hg2 (by omega) (fun k e => by injection e with e; omega))
  clear hO2 ht4 hB4 hb4 hg2 hR2 hB2
  go_region
  have hB3 : Blk ((((w2.setCell ⟨w.heap.size, 0, none⟩ (.int .u8 (a0 : Nat))).setCell ⟨w.heap.size, 1, none⟩ (.int .u8 (a1 : Nat))).setCell ⟨w.heap.size, 2, none⟩ (.int .u16 (a2 : Nat))).setCell ⟨w.heap.size, 3, none⟩ (.int .u32 (a3 : Nat))).drew w.heap.size 54 #[.int .u8 (a0 : Nat), .int .u8 (a1 : Nat), .int .u16 (a2 : Nat), .int .u32 (a3 : Nat)] :=
    Blk.of_eq (((((HB2.out.set_ 0 _).set_ 1 _).set_ 2 _).set_ 3 _).drew) rfl
  have hg3 : w2.grownBy ((((w2.setCell ⟨w.heap.size, 0, none⟩ (.int .u8 (a0 : Nat))).setCell ⟨w.heap.size, 1, none⟩ (.int .u8 (a1 : Nat))).setCell ⟨w.heap.size, 2, none⟩ (.int .u16 (a2 : Nat))).setCell ⟨w.heap.size, 3, none⟩ (.int .u32 (a3 : Nat))).drew (some w.heap.size) :=
    grown_drew (Lib.grownBy_setB (Lib.grownBy_setB (Lib.grownBy_setB (Lib.grownBy_setB (World.grownBy.refl w2 _) 0 _) 1 _) 2 _) 3 _)
  generalize ((((w2.setCell ⟨w.heap.size, 0, none⟩ (.int .u8 (a0 : Nat))).setCell ⟨w.heap.size, 1, none⟩ (.int .u8 (a1 : Nat))).setCell ⟨w.heap.size, 2, none⟩ (.int .u16 (a2 : Nat))).setCell ⟨w.heap.size, 3, none⟩ (.int .u32 (a3 : Nat))).drew = w3 at hB3 hg3 ⊢
  have HB3 := Lib.hid hB3
  have HR3 := Lib.hid (HR2.out.farT hg3 HB2.out (by decide) (by omega))
  have HBB3 := Lib.hid (HBB2.out.grown hg3 (Nat.le_of_lt (by omega)) (fun k e => by injection e with e; omega))
  have hz3 := hg3.size
  clear hB3 hg3 HB2 HR2 HBB2 f2 d0 d1 d2 d3 c0 c1 c2 c3 HB1 HBB1
  go_wp2_with fail
  go_loopw [62, 9] (fun j v wr => ∃ i : Nat, i ≤ n ∧ j = .int .i64 (i : Nat) ∧ RdIs wr 0 b (l.drop (8 + 32 * i)) (8 + 32 * i) ∧ wr.ownsRow w.heap.size 25 32 v i ((parPs l i).flatten.map b8) ∧ Below w.heap.size w wr ∧ Blk wr w.heap.size 54 #[.int .u8 (a0 : Nat), .int .u8 (a1 : Nat), .int .u16 (a2 : Nat), .int .u32 (a3 : Nat)]) (fun j _ _ => n - (intOf j).toNat)
  case atStart => exact ⟨0, by omega, rfl, HR3.out, by simpa [parPs] using World.ownsRow_nil w3 _ _ 32, HBB3.out, HB3.out⟩
  case round =>
    clear HR3 HBB3 HB3
    obtain ⟨i, hi, rfl, hR, hO, hbw, hH⟩ := hrel
    rcases Nat.lt_or_ge i n with hin | hin
    · have hi0 : (i : Int) < (n : Int) := by omega
      obtain ⟨A0, c0, rfl, _, _, hl0, _⟩ := own_formN hO
      have hpl : (parP l i).length = 32 := parP_len l n i HL.out hin
      have C3 := Lib.hid (rTake_calls (l.drop (8 + 32 * i)) (8 + 32 * i) 32 0 b wr hR (by omega) (by rw [List.length_drop, HL.out]; omega) (by rw [List.length_drop, HL.out]; omega) (by omega))
      have hd1 : (l.drop (8 + 32 * i)).drop 32 = l.drop (8 + 32 * (i + 1)) := by rw [List.drop_drop]; congr 1
      have hd2 : (l.drop (8 + 32 * i)).take 32 = parP l i := rfl
      have hd3 : 8 + 32 * i + 32 = 8 + 32 * (i + 1) := by omega
      have hd4 : (parPs l (i + 1)).flatten = (parPs l i).flatten ++ parP l i := by rw [parPs_succ, List.flatten_append, List.flatten_cons, List.flatten_nil, List.append_nil]
      rw [hd1, hd2, hd3] at C3
      generalize parP l i = p at C3 hpl hd4
      have e1 : (Try.prog.info? 25).map (·.size) = some p.length := by rw [hpl]; exact a32_size
      have E1 := Lib.hid e1
      have HP := Lib.hid hpl
      have HT := Lib.hid hd4
      have hne : (Value.slice A0 i c0).ownBlock ≠ some b := by obtain ⟨u, hB, _⟩ := hR; exact own_ne hO hB (by decide)
      have HNE := Lib.hid hne
      have HO := Lib.hid hO
      have HB := Lib.hid hbw
      have HC := Lib.hid hH
      have hwz := hbw.size
      clear e1 hpl hd1 hd2 hd3 hd4 hne hO hbw hH hR hl0
      go_wp2_with (first
        | (go_at_call 36; refine C3.out.mono ?_; rintro e w4 ⟨s, rfl, hg4, hR4, hO4⟩; obtain ⟨A5, c5, rfl, hc5, _, hs5⟩ := hO4.form8; rw [HP.out] at hc5 ⊢; obtain ⟨b5, o5, rfl, _, hr5⟩ := hs5 (by rw [ne_eq, List.map_eq_nil_iff]; intro e; have := HP.out; rw [e] at this; simp at this); have HR5 := Lib.hid hr5; have HG4 := Lib.hid hg4; have HR4 := Lib.hid hR4; have hz4 := hg4.size; clear hr5 hg4 hR4 hO4 hs5)
        | (with_reducible refine wpList_arrayAt rfl 25 (.tmp 70) rfl (some ⟨b5, o5, none⟩) 32 c5 rfl Try.underlying25 (Nat.le_refl _) ?_)
        | (with_reducible refine wpList_load_arr rfl 25 (.tmp 71) rfl b5 o5 rfl p _ HR5.out Try.underlying25 rfl E1.out ?_)
        | (with_reducible refine wpList_build_one rfl (.tmp 72) rfl p rfl HP.out ?_)
        | (at_builtin; refine wpList_append_a32 rfl (.tmp 69) (.tmp 73) rfl w.heap.size _ i ((parPs l i).flatten.map b8) rfl ((HO.out.kept HG4.out (Or.inr HNE.out)).alloc _) (w4.heap.size + 1) (some ⟨w4.heap.size, 0, none⟩) 1 1 (p.map b8) rfl (sl_new w4 p) (by rw [List.length_map, HP.out]) (arr8_one p) (by omega) (by simp; omega) ?_; intro v2 w6 hO6 hg6 hh6; rw [← List.map_append, ← HT.out] at hO6))
      go_roundw
      case rel =>
        have hO5 := (HO.out.kept HG4.out (Or.inr HNE.out)).alloc (.cells (arrC b8 p) 25)
        refine ⟨i + 1, by omega, by go_num, (HR4.out.alloc _).appT hO5 hg6 (by decide) (by decide), hO6, ((HB.out.grown HG4.out (by omega) (fun k e => by injection e with e; omega)).alloc (by omega) _).grown hg6 (by simp; omega) (fun k hk => (HO.out.lt k hk).1), ?_⟩
        exact ((HC.out.grown HG4.out (by intro e; injection e with e; omega)).alloc _).grown hg6 (fun e => own_ne hO5 ((HC.out.grown HG4.out (by intro e; injection e with e; omega)).alloc _) (by decide) e.symm)
      case measure => simp [intOf]; omega
    · obtain rfl : n = i := by omega
      rcases hO.2 with ⟨_, h0⟩ | ⟨g, cap, cur, hv, hbg, hBg, hnc, hcm, hcs, htk⟩
      · omega
      subst hv
      have hp0 : 0 < n := by omega
      have hp1 : (0 : Int) < (n : Int) := by omega
      have hq0 : IntKind.i64.wrap ((n : Int) - 1) = (n : Int) - 1 := IntWalk.i64_in _ (by omega)
      have hq1 : (0 : Int) ≤ (n : Int) - 1 := by omega
      have hq2 : (n : Int) - 1 < (n : Int) := by omega
      have hq3 : ((n : Int) - 1).toNat = n - 1 := by omega
      have hgl : g < wr.heap.size := (Array.getElem?_eq_some_iff.1 hBg).1
      have hpl : (parP l (n - 1)).length = 32 := parP_len l n (n - 1) HL.out (by omega)
      have hr : wr.rangeAt g ((n - 1) * 32) ((parP l (n - 1)).map b8) := fun j v hj => by
        have hj1 : j < 32 := by have := (List.getElem?_eq_some_iff.1 hj).1; rwa [List.length_map, hpl] at this
        have h3 := flat_at (parPs l n) (fun p hp => by
          unfold parPs at hp
          obtain ⟨k, hk, rfl⟩ := List.mem_map.1 hp
          exact parP_len l n k HL.out (List.mem_range.1 hk)) (n - 1) (by rw [parPs_len]; omega) j hj1
        have h4 : (parPs l n)[n - 1]'(by rw [parPs_len]; omega) = parP l (n - 1) := by simp [parPs]
        rw [h4] at h3
        have := hO.cells (g := g) rfl ((n - 1) * 32 + j) v (by rw [List.getElem?_map, h3, ← List.getElem?_map]; exact hj)
        rwa [add_mk, Nat.zero_add] at this
      have hbad : parBad l kind flags n = (decide (a0 ≠ kind) || (decide (flags < a1) || (decide (0 < flags) && (decide (a1 = 0) && !sameB (parP l (n - 1)) (List.replicate 32 0))))) := by unfold parBad; rw [HH.out]
      generalize parP l (n - 1) = p at hpl hr hbad
      have e1 : (Try.prog.info? 25).map (·.size) = some p.length := by rw [hpl]; exact a32_size
      have e2 : (Try.prog.info? 25).map (·.size) = some (arrC b8 p).size := by rw [arrC_size, hpl]; exact a32_size
      have e3 : 0 + (arrC b8 p).size ≤ (arrC b8 (List.replicate 32 0)).size := by rw [arrC_size, hpl]; decide
      have E1 := Lib.hid e1
      have E2 := Lib.hid e2
      have E3 := Lib.hid e3
      have HP := Lib.hid hpl
      have HX := Lib.hid hr
      have HO := Lib.hid hO
      have HB := Lib.hid hbw
      have HC := Lib.hid hH
      have HD := Lib.hid hbad
      have hwz := hbw.size
      clear e1 e2 e3 hpl hr hO hbw hH hR hBg hcs htk hbad hcm
      go_upto_region 18 with (first
        | (with_reducible refine wpList_build_zero rfl rfl ?_)
        | ((with_reducible refine wpList_store_to rfl 25 (.tmp 15) (.tmp 76) rfl rfl rfl rfl (Blk.new_ rfl) a32_zsize a32_zfit (arrC_one b8_one) ?_); intro w7 hB7 hg7 hz7; replace hB7 := Blk.of_eq hB7 (spl_all _ _ (by simp [arrC_size])); have HB7 := Lib.hid hB7; have HG7 := Lib.hid hg7; have hr7 := Lib.hid (rangeAt_keep HX.out ((hg7.block g (by simp; omega) (by intro e; injection e with e; omega)).trans (Below.heap_alloc wr _ g hgl))); clear hB7 hg7 hz7)
        | (with_reducible refine wpList_load_arr rfl 25 (.tmp 82) rfl g ((n - 1) * 32) rfl p _ hr7.out Try.underlying25 rfl E1.out ?_)
        | ((with_reducible refine wpList_store_to rfl 25 (.tmp 15) (.tmp 83) rfl rfl rfl rfl HB7.out E2.out E3.out (arrC_one b8_one) ?_); intro w8 hB8 hg8 hz8; rw [spl_all _ _ (by simp [arrC_size, HP.out])] at hB8))
      have hb8 : Below wr.heap.size wr w8 := below_grown (below_grown ((Below.refl _ _).alloc (Nat.le_refl _) _) HG7.out (Nat.le_refl _)) hg8 (Nat.le_refl _)
      have hC8 := HC.out.below hb8 HC.out.lt
      have h0 : w8.cell? ⟨w.heap.size, 0, none⟩ = some (.int .u8 (a0 : Nat)) := by rw [hC8.cell]; rfl
      have h1 : w8.cell? ⟨w.heap.size, 1, none⟩ = some (.int .u8 (a1 : Nat)) := by rw [hC8.cell]; rfl
      have h2 : w8.cell? ⟨w.heap.size, 2, none⟩ = some (.int .u16 (a2 : Nat)) := by rw [hC8.cell]; rfl
      have h3 : w8.cell? ⟨w.heap.size, 3, none⟩ = some (.int .u32 (a3 : Nat)) := by rw [hC8.cell]; rfl
      have f8 := hC8.frozen
      have HC8 := Lib.hid hC8
      have HP8 := Lib.hid (sl_arr hB8)
      have HO8 := Lib.hid (own_below HO.out hb8 (Nat.le_refl _))
      have HBB := Lib.hid (below_step HB.out hb8)
      have HR8 := Lib.hid (show w8.rangeAt wr.heap.size 0 (p.map b8) from fun j v hj => by rw [hB8.cell, Nat.zero_add]; unfold arrC; rw [List.getElem?_toArray]; exact hj)
      clear hC8 hb8 hB8 hg8 hz8 HG7 HB7 hr7 HX HB HC HO HP8
      by_cases g1 : a0 = kind
      · by_cases g2 : flags < a1
        · have hq : Hid (Q = ParNo 6 w) := by have h9 : parBad l kind flags n = true := by { rw [HD.out]; simp [g1, g2] }; have h10 := HQ.out; rw [if_pos h9] at h10; exact h10.symm
          subst g1
          have e5 : (flags : Int) < (a1 : Int) := by omega
          go_wp2_with (first
            | (with_reducible refine wpListG_load_arr rfl 25 (.tmp 15) rfl wr.heap.size 0 rfl p _ HR8.out Try.underlying25 rfl E1.out ?_)
            | (with_reducible refine wpListG_build_zero rfl rfl ?_)
            | (with_reducible refine wpListG_neq_arrB rfl (.tmp 103) (.tmp 104) _ rfl p (List.replicate 32 0) rfl rfl HP.out (by simp) _ _ G5.out rfl ?_))
          refine ret_rtt rfl rfl (Blk.of_eq ((((HC8.out.set_ 0 (.int .u8 0)).set_ 1 (.int .u8 0)).set_ 2 (.int .u16 0)).set_ 3 (.int .u32 0)) rfl) Try.underlying54 rfl head_size rfl rfl rfl ?_
          rw [hq.out]
          exact ⟨rfl, (((HBB.out.setCell (p := ⟨w.heap.size, 0, none⟩) (Nat.le_refl _) _).setCell (p := ⟨w.heap.size, 1, none⟩) (Nat.le_refl _) _).setCell (p := ⟨w.heap.size, 2, none⟩) (Nat.le_refl _) _).setCell (p := ⟨w.heap.size, 3, none⟩) (Nat.le_refl _) _⟩
        · by_cases g3 : 0 < flags
          · by_cases g4 : a1 = 0
            · cases g5 : sameB p (List.replicate 32 0)
              · have hq : Hid (Q = ParNo 6 w) := by have h9 : parBad l kind flags n = true := by { rw [HD.out, g5]; simp [g3, g4] }; have h10 := HQ.out; rw [if_pos h9] at h10; exact h10.symm
                subst g1
                have e7 : ((a1 : Int) == 0) = true := by simp; omega
                have e8 : (a1 == 0) = true := by simpa using g4
                clear g4
                have e6 : (0 : Int) < (flags : Int) := by omega
                have G5 := Lib.hid g5
                clear g5
                go_wp2_with (first
                  | (with_reducible refine wpListG_load_arr rfl 25 (.tmp 15) rfl wr.heap.size 0 rfl p _ HR8.out Try.underlying25 rfl E1.out ?_)
                  | (with_reducible refine wpListG_build_zero rfl rfl ?_)
                  | (with_reducible refine wpListG_neq_arrB rfl (.tmp 103) (.tmp 104) _ rfl p (List.replicate 32 0) rfl rfl HP.out (by simp) _ _ G5.out rfl ?_))
                refine ret_rtt rfl rfl (Blk.of_eq ((((HC8.out.set_ 0 (.int .u8 0)).set_ 1 (.int .u8 0)).set_ 2 (.int .u16 0)).set_ 3 (.int .u32 0)) rfl) Try.underlying54 rfl head_size rfl rfl rfl ?_
                rw [hq.out]
                exact ⟨rfl, (((HBB.out.setCell (p := ⟨w.heap.size, 0, none⟩) (Nat.le_refl _) _).setCell (p := ⟨w.heap.size, 1, none⟩) (Nat.le_refl _) _).setCell (p := ⟨w.heap.size, 2, none⟩) (Nat.le_refl _) _).setCell (p := ⟨w.heap.size, 3, none⟩) (Nat.le_refl _) _⟩
              · have hq : Hid (Q = ParOk l n w) := by have h9 : parBad l kind flags n = false := by { rw [HD.out, g5]; simp [g1, g2] }; have h10 := HQ.out; rw [if_neg (by rw [h9]; exact Bool.false_ne_true)] at h10; exact h10.symm
                subst g1
                have e7 : ((a1 : Int) == 0) = true := by simp; omega
                have e8 : (a1 == 0) = true := by simpa using g4
                clear g4
                have e6 : (0 : Int) < (flags : Int) := by omega
                have G5 := Lib.hid g5
                clear g5
                go_wp2_with (first
                  | (with_reducible refine wpListG_load_arr rfl 25 (.tmp 15) rfl wr.heap.size 0 rfl p _ HR8.out Try.underlying25 rfl E1.out ?_)
                  | (with_reducible refine wpListG_build_zero rfl rfl ?_)
                  | (with_reducible refine wpListG_neq_arrB rfl (.tmp 103) (.tmp 104) _ rfl p (List.replicate 32 0) rfl rfl HP.out (by simp) _ _ G5.out rfl ?_))
                refine ret_rtt rfl rfl (Blk.of_eq ((((HC8.out.set_ 0 (.int .u8 (a0 : Nat))).set_ 1 (.int .u8 (a1 : Nat))).set_ 2 (.int .u16 (a2 : Nat))).set_ 3 (.int .u32 (a3 : Nat))) rfl) Try.underlying54 rfl head_size rfl rfl rfl ?_
                rw [hq.out]
                exact ⟨some ⟨g, 0, none⟩, cap, by rw [HH.out]; rfl, (((HBB.out.setCell (p := ⟨w.heap.size, 0, none⟩) (Nat.le_refl _) _).setCell (p := ⟨w.heap.size, 1, none⟩) (Nat.le_refl _) _).setCell (p := ⟨w.heap.size, 2, none⟩) (Nat.le_refl _) _).setCell (p := ⟨w.heap.size, 3, none⟩) (Nat.le_refl _) _, HO8.out.kept (Lib.grownBy_setB (Lib.grownBy_setB (Lib.grownBy_setB (Lib.grownBy_setB (World.grownBy.refl w8 _) 0 _) 1 _) 2 _) 3 _) (Or.inr (own_ne HO8.out HC8.out (by decide)))⟩
            · have hq : Hid (Q = ParOk l n w) := by have h9 : parBad l kind flags n = false := by { rw [HD.out]; simp [g1, g2, g3, g4] }; have h10 := HQ.out; rw [if_neg (by rw [h9]; exact Bool.false_ne_true)] at h10; exact h10.symm
              subst g1
              have e6 : (0 : Int) < (flags : Int) := by omega
              have e7 : ((a1 : Int) == 0) = false := by simp; omega
              have e8 : (a1 == 0) = false := by simpa using g4
              have e9 : ¬ (flags : Int) < (a1 : Int) := by omega
              go_wp2_with (first
                | (with_reducible refine wpListG_load_arr rfl 25 (.tmp 15) rfl wr.heap.size 0 rfl p _ HR8.out Try.underlying25 rfl E1.out ?_)
                | (with_reducible refine wpListG_build_zero rfl rfl ?_)
                | (with_reducible refine wpListG_neq_arrB rfl (.tmp 103) (.tmp 104) _ rfl p (List.replicate 32 0) rfl rfl HP.out (by simp) _ _ G5.out rfl ?_))
              refine ret_rtt rfl rfl (Blk.of_eq ((((HC8.out.set_ 0 (.int .u8 (a0 : Nat))).set_ 1 (.int .u8 (a1 : Nat))).set_ 2 (.int .u16 (a2 : Nat))).set_ 3 (.int .u32 (a3 : Nat))) rfl) Try.underlying54 rfl head_size rfl rfl rfl ?_
              rw [hq.out]
              exact ⟨some ⟨g, 0, none⟩, cap, by rw [HH.out]; rfl, (((HBB.out.setCell (p := ⟨w.heap.size, 0, none⟩) (Nat.le_refl _) _).setCell (p := ⟨w.heap.size, 1, none⟩) (Nat.le_refl _) _).setCell (p := ⟨w.heap.size, 2, none⟩) (Nat.le_refl _) _).setCell (p := ⟨w.heap.size, 3, none⟩) (Nat.le_refl _) _, HO8.out.kept (Lib.grownBy_setB (Lib.grownBy_setB (Lib.grownBy_setB (Lib.grownBy_setB (World.grownBy.refl w8 _) 0 _) 1 _) 2 _) 3 _) (Or.inr (own_ne HO8.out HC8.out (by decide)))⟩
          · have hq : Hid (Q = ParOk l n w) := by have h9 : parBad l kind flags n = false := by { rw [HD.out]; simp [g1, g2, g3] }; have h10 := HQ.out; rw [if_neg (by rw [h9]; exact Bool.false_ne_true)] at h10; exact h10.symm
            subst g1
            obtain rfl : flags = 0 := by omega
            have e9 : ¬ ((0 : Nat) : Int) < (a1 : Int) := by omega
            go_wp2_with (first
              | (with_reducible refine wpListG_load_arr rfl 25 (.tmp 15) rfl wr.heap.size 0 rfl p _ HR8.out Try.underlying25 rfl E1.out ?_)
              | (with_reducible refine wpListG_build_zero rfl rfl ?_)
              | (with_reducible refine wpListG_neq_arrB rfl (.tmp 103) (.tmp 104) _ rfl p (List.replicate 32 0) rfl rfl HP.out (by simp) _ _ G5.out rfl ?_))
            refine ret_rtt rfl rfl (Blk.of_eq ((((HC8.out.set_ 0 (.int .u8 (a0 : Nat))).set_ 1 (.int .u8 (a1 : Nat))).set_ 2 (.int .u16 (a2 : Nat))).set_ 3 (.int .u32 (a3 : Nat))) rfl) Try.underlying54 rfl head_size rfl rfl rfl ?_
            rw [hq.out]
            exact ⟨some ⟨g, 0, none⟩, cap, by rw [HH.out]; rfl, (((HBB.out.setCell (p := ⟨w.heap.size, 0, none⟩) (Nat.le_refl _) _).setCell (p := ⟨w.heap.size, 1, none⟩) (Nat.le_refl _) _).setCell (p := ⟨w.heap.size, 2, none⟩) (Nat.le_refl _) _).setCell (p := ⟨w.heap.size, 3, none⟩) (Nat.le_refl _) _, HO8.out.kept (Lib.grownBy_setB (Lib.grownBy_setB (Lib.grownBy_setB (Lib.grownBy_setB (World.grownBy.refl w8 _) 0 _) 1 _) 2 _) 3 _) (Or.inr (own_ne HO8.out HC8.out (by decide)))⟩
      · have hq : Hid (Q = ParNo 6 w) := by have h9 : parBad l kind flags n = true := by { rw [HD.out]; simp [g1] }; have h10 := HQ.out; rw [if_pos h9] at h10; exact h10.symm
        have e1 : ((a0 : Int) != (kind : Int)) = true := by simp; omega
        have e2 : (a0 != kind) = true := by simpa using g1
        have e3 : ((a0 : Int) == (kind : Int)) = false := by simp; omega
        go_wp2_with (first
          | (with_reducible refine wpListG_load_arr rfl 25 (.tmp 15) rfl wr.heap.size 0 rfl p _ HR8.out Try.underlying25 rfl E1.out ?_)
          | (with_reducible refine wpListG_build_zero rfl rfl ?_)
          | (with_reducible refine wpListG_neq_arrB rfl (.tmp 103) (.tmp 104) _ rfl p (List.replicate 32 0) rfl rfl HP.out (by simp) _ _ G5.out rfl ?_))
        refine ret_rtt rfl rfl (Blk.of_eq ((((HC8.out.set_ 0 (.int .u8 0)).set_ 1 (.int .u8 0)).set_ 2 (.int .u16 0)).set_ 3 (.int .u32 0)) rfl) Try.underlying54 rfl head_size rfl rfl rfl ?_
        rw [hq.out]
        exact ⟨rfl, (((HBB.out.setCell (p := ⟨w.heap.size, 0, none⟩) (Nat.le_refl _) _).setCell (p := ⟨w.heap.size, 1, none⟩) (Nat.le_refl _) _).setCell (p := ⟨w.heap.size, 2, none⟩) (Nat.le_refl _) _).setCell (p := ⟨w.heap.size, 3, none⟩) (Nat.le_refl _) _⟩
end Go.Proofs.Ytfamififoifagaa
