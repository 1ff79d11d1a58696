/- Contracts of sha's digest: Sum. -/
import Derived.Test.YtfamififoifagaaShaF
import Derived.Deep.Cut
namespace Go.Proofs.Ytfamififoifagaa
open Go.RowKit Words

/-- the bytes of a count of bits -/
def lenB (n : Nat) (i : Nat) : UInt8 := UInt8.ofNat ((n * 8) >>> (56 - 8 * i))
def pad1 (l : List UInt8) : List UInt8 := l ++ [0x80]
def pad2 (l : List UInt8) : List UInt8 := pad1 l ++ List.replicate ((120 - ((pad1 l).length - 64 * ((pad1 l).length / 64))) % 64) 0
def pad3 (l : List UInt8) (i : Nat) : List UInt8 := pad2 l ++ (List.range i).map (lenB l.length)
theorem pad3_succ (l : List UInt8) (i : Nat) : pad3 l (i + 1) = pad3 l i ++ [lenB l.length i] := by unfold pad3; rw [List.range_succ, List.map_append, ← List.append_assoc]; rfl
theorem pad3_zero (l : List UInt8) : pad3 l 0 = pad2 l := by unfold pad3; simp
theorem pad1_len (l : List UInt8) : (pad1 l).length = l.length + 1 := by unfold pad1; simp
theorem pad2_len (l : List UInt8) : (pad2 l).length ≤ l.length + 64 := by unfold pad2; rw [List.length_append, pad1_len, List.length_replicate]; omega
theorem pad3_len (l : List UInt8) (i : Nat) : (pad3 l i).length ≤ l.length + 64 + i := by unfold pad3; rw [List.length_append, List.length_map, List.length_range]; have := pad2_len l; omega
/-- the bytes of a state -/
def outB (s : List UInt32) (i : Nat) : UInt8 := ((s.getD (i / 4) 0) >>> (UInt32.ofNat (24 - 8 * (i % 4)))).toUInt8
def sumF (l : List UInt8) : List UInt8 := (List.range 32).map (outB (stC (pad3 l 8) ((pad3 l 8).length / 64)))
theorem sumF_len (l : List UInt8) : (sumF l).length = 32 := by unfold sumF; simp

theorem zeroDigest_one : ∀ v ∈ Try.zeroCells117.toList, v.oneCell' = true := fun v hv =>
  List.all_eq_true.1 (show Try.zeroCells117.toList.all (fun x => x.oneCell') = true by kernel_rfl) v hv
theorem zeroDigest_size : Try.zeroCells117.size = 75 := by kernel_rfl
theorem DigIs.below {w w' : World} {base b : Nat} {l : List UInt8} (h : DigIs w base b l) (hb : Below w.heap.size w w') : DigIs w' base b l := by
  obtain ⟨v, hB, hO⟩ := h
  exact ⟨v, hB.below hb hB.lt, hO.below hb (Nat.le_refl _)⟩
theorem outB_val (st : List UInt32) (i : Nat) : V32 (st[i / 4]?.getD 0) / 2 ^ (24 - 8 * (i % 4)) % 256 = ((outB st i).toNat : Int) := by
  unfold outB V32
  rw [List.getD_eq_getElem?_getD]
  generalize st[i / 4]?.getD 0 = x
  rw [UInt32.toNat_toUInt8, UInt32.toNat_shiftRight, UInt32.toNat_ofNat', Nat.mod_eq_of_lt (by omega : 24 - 8 * (i % 4) < 2 ^ 32), Nat.mod_eq_of_lt (by omega : 24 - 8 * (i % 4) < 32), Nat.shiftRight_eq_div_pow]
  rw [Int.natCast_emod, Int.natCast_ediv, Int.natCast_pow]
  rfl
theorem made_u8 (n : Nat) : madeCells (Value.int .u8 0).cells n = Array.replicate n (b8 0) := by
  apply Array.ext'
  unfold madeCells
  apply List.ext_getElem?
  intro j
  rcases Nat.lt_or_ge j n with hj | hj
  · simp [hj, b8, Nat.mod_one, Value.cells]
  · simp [hj]
theorem make_u8 (w : World) (n : Nat) (hn : n ≤ 1000000) :
    (Instr.makeSlice 22 (.int .i64 (n : Int)) (.int .i64 (n : Int))).run Try.prog w = .ok (.slice (some ⟨w.heap.size, 0, none⟩) n n) (w.alloc (.cells (Array.replicate n (b8 0)) 5)) := by
  obtain ⟨i, hi, hz, hsz, hby⟩ := u8_info
  have h := run_make (P := Try.prog) w 22 5 i (.int .u8 0) Try.underlying22 hi hz .i64 .i64 (n : Int) (n : Int) (by omega) (by omega) (by rw [hby]; omega) (by omega)
  rw [hsz, Nat.mul_one, Int.toNat_natCast, made_u8] at h
  exact h
theorem sl_made (w : World) (cs : Array Value) (xs : List UInt8) (h : cs = (xs.map b8).toArray) : Sl (w.alloc (.cells cs 5)) (w.heap.size + 1) (some ⟨w.heap.size, 0, none⟩) (xs.map b8) := fun _ =>
  ⟨w.heap.size, 0, rfl, by omega, fun j v hj => by
    subst h
    rw [(Blk.new_ (w := w) (t := 5) (cs := (xs.map b8).toArray) rfl).cell, Nat.zero_add, List.getElem?_toArray]
    exact hj⟩
theorem zeros_arr (n : Nat) : Array.replicate n (b8 0) = ((List.replicate n (0 : UInt8)).map b8).toArray := by rw [List.map_replicate, List.toArray_replicate]
theorem DigIs.lt {w : World} {base b : Nat} {l : List UInt8} (h : DigIs w base b l) : b < w.heap.size := by
  obtain ⟨v, hB, _⟩ := h
  exact hB.lt
theorem write_list (l xs : List UInt8) (cs : Array Value) (n : Nat) (hx : cs = (xs.map b8).toArray) (hn : n = xs.length) (B b : Nat) (w : World) (hD : DigIs w B b l) (hb : B ≤ b) (hlen : l.length + xs.length ≤ 70368744177664) :
    Calls Try.prog 55 #[.pointer (some ⟨b, 0, none⟩), .slice (some ⟨w.heap.size, 0, none⟩) n n] (w.alloc (.cells cs 5)) fun e w' => e = .returned (.int .i64 0) ∧ Below B w w' ∧ DigIs w' B b (l ++ xs) := by
  subst hn
  have hlt := hD.lt
  have hA : ∀ a : Addr, some (⟨w.heap.size, 0, none⟩ : Addr) = some a → a.block ≠ b := by
    intro a ha
    injection ha with ha
    subst ha
    exact fun h => by simp only [] at h; omega
  have h := write_calls l xs B b xs.length (some ⟨w.heap.size, 0, none⟩) (w.alloc (.cells cs 5)) (hD.below ((Below.refl _ _).alloc (Nat.le_refl _) _)) ((sl_made w cs xs hx).more (by simp)) (fun _ => hA) hb hlen
  exact h.mono fun e w' ⟨h1, h2, h3⟩ => ⟨h1, ((Below.refl B w).alloc (by omega) _).trans h2, h3⟩
theorem write_one (l : List UInt8) (x : UInt8) (xv : Int) (hx : xv = (x.toNat : Int)) (B b : Nat) (w : World) (hD : DigIs w B b l) (hb : B ≤ b) (hlen : l.length + 1 ≤ 70368744177664) :
    Calls Try.prog 55 #[.pointer (some ⟨b, 0, none⟩), .slice (some ⟨w.heap.size, 0, none⟩) 1 1] (w.alloc (.cells #[.int .u8 xv] 5)) fun e w' => e = .returned (.int .i64 0) ∧ Below B w w' ∧ DigIs w' B b (l ++ [x]) :=
  write_list l [x] #[.int .u8 xv] 1 (by subst hx; rfl) rfl B b w hD hb hlen

set_option maxRecDepth 100000 in
set_option maxHeartbeats 1000000 in
theorem sum_calls (l : List UInt8) (base b : Nat) (w : World) (hD : DigIs w base b l) (hlen : l.length ≤ 35184372088832) :
    Calls Try.prog 56 #[.pointer (some ⟨b, 0, none⟩)] w fun e w' => e = .returned (.agg (arrC b8 (sumF l))) ∧ Below w.heap.size w w' := by
  have hlt : b < w.heap.size := by obtain ⟨v, hB, _⟩ := hD; exact hB.lt
  have HD := Lib.hid hD
  clear hD
  go_enter Try.func56, Try.ntmps56
  go_upto_region 5 with (first
    | ((with_reducible refine wpList_store_part rfl 117 (.tmp 3) (.tmp 7) rfl rfl rfl (Blk.new_ (by simp)) (by rw [zeroDigest_size]; kernel_rfl) (by rw [zeroDigest_size]; exact Nat.le_refl _) zeroDigest_one ?_); intro w1 hB1 hg1 hz1; rw [spl_all _ _ rfl] at hB1; have hO1 := Blk.grown ((Blk.new_ (w := w) (t := 25) rfl).alloc _) hg1 (by simp); have hb1 := below_grown (a := w) (by go_grown) hg1 (by omega); have HD1 := HD.out.below hb1; have hsz1 : w.heap.size + 2 ≤ w1.heap.size := (by rw [hz1]; simp); clear hz1)
    | (go_at_call 65; refine (copy_calls l base b w1 HD1).mono ?_; rintro e w2 ⟨b', rfl, hb'1, hb2, v, hB2, hO2⟩; obtain ⟨A2, c2, rfl, hc2, hm2, hs2⟩ := hO2.form8; generalize (l.drop (64 * (l.length / 64))).length = n2 at hB2 hO2 hc2 hs2 ⊢)
    | (with_reducible refine wpList_load_all rfl 117 (.tmp 12) rfl rfl hB2 Try.underlying117 rfl (by rw [dC_size]; kernel_rfl) ?_)
    | ((with_reducible refine wpList_store_part rfl 117 (.tmp 3) (.tmp 13) rfl rfl rfl (hB1.below hb2 hB1.lt) (by rw [dC_size]; kernel_rfl) (by rw [dC_size, zeroDigest_size]; exact Nat.le_refl _) (dC_one _ _ _ _ rfl) ?_); intro w3 hB3 hg3 hz3; rw [spl_all _ _ (by rw [dC_size]; exact zeroDigest_size.symm)] at hB3; have hO3 := (hO1.below hb2 hO1.lt).grown hg3 (by simp); have hb3 := below_grown (below_step hb1 hb2) hg3 (by omega); have hD3 : DigIs w3 (w.heap.size + 1) (w.heap.size + 1) l := ⟨_, hB3, (hO2.grown hg3 (Or.inr (hO2.ne (hB1.below hb2 hB1.lt) (by decide)))).base (by omega)⟩; have hr3 : w3.cell? ⟨w.heap.size + 1, 74, none⟩ = some (.int .i64 (l.length : Nat)) := (by rw [hB3.cell, dC_n]); have W1 := Lib.hid (write_one l 0x80 128 rfl (w.heap.size + 1) (w.heap.size + 1) w3 hD3 (Nat.le_refl _) (by omega)); clear hB3 hz3)
    | (go_at_call 55; refine W1.out.mono ?_; rintro e w4 ⟨rfl, hb4, hD4⟩))
  go_upto_region 6 with (go_at_call 55; refine W1.out.mono ?_; rintro e w4 ⟨rfl, hb4, hD4⟩)
  have hO4 := hO3.below hb4 (by omega)
  have hb5 := hb3.trans (hb4.mono (by omega))
  obtain ⟨v4, hB4, hR4⟩ := hD4
  obtain ⟨A4, c4, rfl, hc4, hm4, hs4⟩ := hR4.form8
  have hl4 : ((l ++ [0x80]).drop (64 * ((l ++ [0x80]).length / 64))).length = (pad1 l).length - 64 * ((pad1 l).length / 64) := List.length_drop
  generalize ((l ++ [0x80]).drop (64 * ((l ++ [0x80]).length / 64))).length = n4 at hB4 hR4 hc4 hs4 hl4
  have hr4 : w4.cell? ⟨w.heap.size + 1, 73, none⟩ = some (.slice A4 n4 c4) := by rw [hB4.cell, dC_rest]
  have hn4 : n4 < 64 := by omega
  have hw4 : IntKind.i64.wrap (120 - (n4 : Int)) = 120 - (n4 : Int) := IntWalk.i64_in _ (by omega)
  have hD4 : DigIs w4 (w.heap.size + 1) (w.heap.size + 1) (l ++ [0x80]) := ⟨_, hB4, hR4⟩
  clear hO3 hb3 hb4 hD3 hr3 W1 hB4 hR4 hs4
  have hm0 : (0 : Int) ≤ 120 - (n4 : Int) := by omega
  generalize hz : ((120 - n4) % 64 : Nat) = z
  have hz64 : z ≤ 64 := by omega
  have hz2 : (120 - (n4 : Int)) % 64 = ((z : Nat) : Int) := by omega
  have HM := make_u8 w4 z (by omega)
  have HZ := Lib.hid hz
  have HL4 := Lib.hid hl4
  clear hl4 hz
  have W2 := Lib.hid (write_list (l ++ [0x80]) (List.replicate z 0) (Array.replicate z (b8 0)) z (zeros_arr z) (by simp) (w.heap.size + 1) (w.heap.size + 1) w4 hD4 (Nat.le_refl _) (by simp; omega))
  go_upto_region 7 with (go_at_call 55; refine W2.out.mono ?_; rintro e w5 ⟨rfl, hb6, hD5⟩)
  have hO5 := hO4.below hb6 (by omega)
  have hb7 := hb5.trans (hb6.mono (by omega))
  have hp : (l ++ [0x80]) ++ List.replicate z 0 = pad3 l 0 := by rw [pad3_zero, ← HZ.out, HL4.out]; rfl
  rw [hp] at hD5
  have H1 := Lib.hid hO5
  have H2 := Lib.hid hb7
  have H3 := Lib.hid hD5
  clear hO5 hb7 hD5 hp hO4 hb5 hb6 hD4 hr4 HM W2 hz2 hm0 hw4 hn4 hz64
  go_wp2_with fail
  go_loopw [27] (fun j wr => ∃ i : Nat, i ≤ 8 ∧ j = .int .i64 (i : Nat) ∧ DigIs wr (w.heap.size + 1) (w.heap.size + 1) (pad3 l i) ∧ Blk wr w.heap.size 25 (Array.replicate 32 (.int .u8 0)) ∧ Below w.heap.size w wr) (fun j _ => 8 - (intOf j).toNat)
  case atStart => exact ⟨0, by omega, rfl, H3.out, H1.out, H2.out⟩
  case round =>
    clear H1 H2 H3
    obtain ⟨i, hi, rfl, hD, hO, hb⟩ := hrel
    rcases Nat.lt_or_ge i 8 with h8 | h8
    · have W3 := fun xv hx => write_one (pad3 l i) (lenB l.length i) xv hx (w.heap.size + 1) (w.heap.size + 1) wr hD (Nat.le_refl _) (by have := pad3_len l i; omega)
      have W3 := Lib.hid W3
      have HO := Lib.hid hO
      have HB := Lib.hid hb
      clear hO hb hD
      have hi0 : (i : Int) < 8 := by omega
      go_wp2_with (go_at_call 55; refine (W3.out _ ?hx).mono ?_; rotate_left; rintro e w6 ⟨rfl, hb8, hD8⟩)
      case roundEnd =>
        go_roundw
        case rel => exact ⟨i + 1, by omega, by go_num, by rw [pad3_succ]; exact hD8, HO.out.below hb8 (by omega), HB.out.trans (hb8.mono (by omega))⟩
        case measure => simp [intOf]; omega
      case hx =>
        unfold lenB
        rw [UInt8.toNat_ofNat', Nat.shiftRight_eq_div_pow]
        push_cast
        rfl
    · obtain rfl : i = 8 := by omega
      obtain ⟨v8, hB8, hO8⟩ := hD
      have hl0 : (stC (pad3 l 8) ((pad3 l 8).length / 64)).length = 8 := stC_len _ _
      have E := Lib.hid (show sumF l = (List.range 32).map (outB (stC (pad3 l 8) ((pad3 l 8).length / 64))) from rfl)
      have hc8 : ∀ j, j < 8 → wr.cell? ⟨w.heap.size + 1, j, none⟩ = some (.int .u32 (V32 ((stC (pad3 l 8) ((pad3 l 8).length / 64)).getD j 0))) := by
        intro j hj
        rw [hB8.cell]
        unfold dC
        rw [List.getElem?_toArray, List.getElem?_append_left (by simp [stC_len]; omega), List.getElem?_append_left (by simp [stC_len]; omega), List.getElem?_map, getD_get _ _ _ (by omega), List.getElem?_eq_getElem (by omega)]
        rfl
      generalize stC (pad3 l 8) ((pad3 l 8).length / 64) = st at hl0 E hc8
      have HC8 := Lib.hid hc8
      have HO := Lib.hid hO
      have HB := Lib.hid hb
      clear hO hb hB8 hO8 hc8
      go_wp2_with fail
      go_loopw [39] (fun j wr => ∃ i : Nat, i ≤ 32 ∧ j = .int .i64 (i : Nat) ∧ (∀ j, j < 8 → wr.cell? ⟨w.heap.size + 1, j, none⟩ = some (.int .u32 (V32 (st.getD j 0)))) ∧ Blk wr w.heap.size 25 (fillC b8 0 32 ((List.range i).map (outB st))) ∧ Below w.heap.size w wr) (fun j _ => 32 - (intOf j).toNat)
      case atStart => exact ⟨0, by omega, rfl, HC8.out, HO.out, HB.out⟩
      case round =>
        clear HC8 HO HB
        obtain ⟨i, hi, rfl, hc, hO, hb⟩ := hrel
        have hlo := hO.lt
        have hln : ((List.range i).map (outB st)).length = i := by simp
        rcases Nat.lt_or_ge i 32 with h32 | h32
        · have hi0 : (i : Int) < 32 := by omega
          have c1 : wr.cell? ⟨w.heap.size, i, none⟩ = some (.int .u8 0) := by
            have h := fillC_at (f := b8) (z := 0) (n := 32) (l := (List.range i).map (outB st)) (by rw [hln]; exact h32)
            rw [hln] at h
            rw [hO.cell]; exact h
          have f1 := hO.frozen
          have X := hc (i / 4) (by omega)
          have HC := Lib.hid hc
          have HO := Lib.hid hO
          have HB := Lib.hid hb
          have HN := Lib.hid hln
          clear hc hO hb hln
          go_wp2_with fail
          rw [outB_val]
          go_roundw
          case rel =>
            refine ⟨i + 1, by omega, by go_num, fun j hj => (World.cell?_of_block (w := wr) (a := ⟨w.heap.size + 1, j, none⟩) (Below.heap_setCell wr _ _ (w.heap.size + 1) (by simp))).trans (HC.out j hj), ?_, HB.out.setCell (Nat.le_refl _) _⟩
            rw [List.range_succ, List.map_append]
            have h := fillC_set (f := b8) (z := 0) (n := 32) (l := (List.range i).map (outB st)) (outB st i) (by rw [HN.out]; exact h32)
            rw [HN.out] at h
            exact Blk.of_eq (HO.out.set_ i _) h
          case measure => simp [intOf]; omega
        · obtain rfl : i = 32 := by omega
          rw [fillC_full (by simp)] at hO
          have hE := E.out
          rw [← hE] at hO
          have HO := Lib.hid hO
          have HB := Lib.hid hb
          clear hO hb hc hln hE
          go_wp2_with (first
            | (with_reducible refine wpList_load_all rfl 25 (.tmp 2) rfl rfl HO.out Try.underlying25 rfl (by rw [arrC_size, sumF_len]; kernel_rfl) ?_)
            | ((with_reducible refine wpList_store_part rfl 25 (.tmp 2) (.tmp 57) rfl rfl rfl HO.out (by rw [arrC_size, sumF_len]; kernel_rfl) (by simp) (arrC_one b8_one) ?_); intro w9 hB9 hg9 hz9))
          rw [spl_all _ _ rfl] at hB9
          exact ret_row rfl rfl hB9 Try.underlying25 rfl (by rw [arrC_size, sumF_len]; kernel_rfl) ⟨rfl, below_grown HB.out hg9 (Nat.le_refl _)⟩ rfl
end Go.Proofs.Ytfamififoifagaa
