/- The law AuthRejects: its walk. -/
import Derived.Test.YtfamififoifagaaAuthK
import Derived.BigRegion
import Derived.Outline
namespace Go.Proofs.Ytfamififoifagaa
open Go.RowKit Words

set_option maxRecDepth 100000 in
set_option maxHeartbeats 4000000 in
theorem rejects_long (n c : Nat) (bit : Int) (A : Option Addr) (H S : ByteArray) (F G : List UInt8) (w : World) (h : ¬ (n ≤ 80 ∧ H.size ≤ 240 ∧ S.size ≤ 240)) :
    Calls Try.prog 4 #[.agg #[.slice A n c, .string H, .string S], .agg (arrC b8 F), .agg (arrC b8 G), .int .i64 bit] w (RetBool true w) := by
  have C := fun wx => short_no A n c H S wx h
  have C := Lib.hid C
  clear h
  go_enter Try.func4, Try.ntmps4
  go_wp2_with (first
    | (go_at_call 7; refine (C.out _).mono ?_; rintro e w1 ⟨rfl, hb1⟩)
    | (go_at_call 8; refine (known_calls _).mono ?_; rintro e w2 ⟨rfl, hb2⟩))
  go_ret
  exact ⟨rfl, below_step (below_step ((((Below.refl _ _).alloc (Nat.le_refl _) _).alloc (by simp) _).alloc (by simp; omega) _) hb1) hb2⟩
set_option maxRecDepth 100000 in
set_option maxHeartbeats 4000000 in
theorem rejects_bit (n c : Nat) (bit : Int) (A : Option Addr) (H S : ByteArray) (F G : List UInt8) (w : World) (h1 : n ≤ 80) (h2 : H.size ≤ 240) (h3 : S.size ≤ 240) (h : bit < 0 ∨ 255 < bit) :
    Calls Try.prog 4 #[.agg #[.slice A n c, .string H, .string S], .agg (arrC b8 F), .agg (arrC b8 G), .int .i64 bit] w (RetBool true w) := by
  have C := fun wx => short_yes A n c H S wx h1 h2 h3
  have C := Lib.hid C
  clear h1 h2 h3
  rcases Int.lt_or_le bit 0 with h0 | h0
  · clear h
    go_enter Try.func4, Try.ntmps4
    go_wp2_with (first
      | (go_at_call 7; refine (C.out _).mono ?_; rintro e w1 ⟨rfl, hb1⟩)
      | (go_at_call 8; refine (known_calls _).mono ?_; rintro e w2 ⟨rfl, hb2⟩))
    go_ret
    exact ⟨rfl, below_step (below_step ((((Below.refl _ _).alloc (Nat.le_refl _) _).alloc (by simp) _).alloc (by simp; omega) _) hb1) hb2⟩
  · have h4 : 255 < bit := by omega
    have h5 : ¬ bit < 0 := by omega
    clear h
    go_enter Try.func4, Try.ntmps4
    go_wp2_with (first
      | (go_at_call 7; refine (C.out _).mono ?_; rintro e w1 ⟨rfl, hb1⟩)
      | (go_at_call 8; refine (known_calls _).mono ?_; rintro e w2 ⟨rfl, hb2⟩))
    go_ret
    exact ⟨rfl, below_step (below_step ((((Below.refl _ _).alloc (Nat.le_refl _) _).alloc (by simp) _).alloc (by simp; omega) _) hb1) hb2⟩
set_option maxRecDepth 100000 in
set_option maxHeartbeats 4000000 in
theorem rejects_party (n c : Nat) (bit : Nat) (A : Option Addr) (H S : ByteArray) (F G : List UInt8) (w : World) (h1 : n ≤ 80) (h2 : H.size ≤ 240) (h3 : S.size ≤ 240) (hbt : bit ≤ 255) (hv : validB n H S = false) :
    Calls Try.prog 4 #[.agg #[.slice A n c, .string H, .string S], .agg (arrC b8 F), .agg (arrC b8 G), .int .i64 (bit : Nat)] w (RetBool true w) := by
  have C := fun wx => short_yes A n c H S wx h1 h2 h3
  have C := Lib.hid C
  have e1 : ¬ (bit : Int) < 0 := by omega
  have e2 : ¬ 255 < (bit : Int) := by omega
  go_enter Try.func4, Try.ntmps4
  go_upto_region 1 with fail
  have hX0 : Blk (((w.alloc (.cells #[.slice A n c, .string H, .string S] 24)).alloc (.cells (arrC b8 F) 25)).alloc (.cells (arrC b8 G) 25)) w.heap.size 24 #[.slice A n c, .string H, .string S] := ((Blk.new_ rfl).alloc _).alloc _
  have hX1 : Blk (((w.alloc (.cells #[.slice A n c, .string H, .string S] 24)).alloc (.cells (arrC b8 F) 25)).alloc (.cells (arrC b8 G) 25)) (w.heap.size + 1) 25 (arrC b8 F) := (Blk.new_ (by simp)).alloc _
  have hX2 : Blk (((w.alloc (.cells #[.slice A n c, .string H, .string S] 24)).alloc (.cells (arrC b8 F) 25)).alloc (.cells (arrC b8 G) 25)) (w.heap.size + 1 + 1) 25 (arrC b8 G) := Blk.new_ (by simp)
  have hB0 : Below w.heap.size w (((w.alloc (.cells #[.slice A n c, .string H, .string S] 24)).alloc (.cells (arrC b8 F) 25)).alloc (.cells (arrC b8 G) 25)) := (((Below.refl _ _).alloc (Nat.le_refl _) _).alloc (by simp) _).alloc (by simp; omega) _
  generalize ((w.alloc (.cells #[.slice A n c, .string H, .string S] 24)).alloc (.cells (arrC b8 F) 25)).alloc (.cells (arrC b8 G) 25) = w0 at hX0 hX1 hX2 hB0 ⊢
  have r0 : w0.cell? ⟨w.heap.size, 0, none⟩ = some (.slice A n c) := by rw [hX0.cell]; rfl
  have r1 : w0.cell? ⟨w.heap.size, 1, none⟩ = some (.string H) := by rw [hX0.cell]; rfl
  have r2 : w0.cell? ⟨w.heap.size, 2, none⟩ = some (.string S) := by rw [hX0.cell]; rfl
  have HX0 := Lib.hid hX0
  have HX1 := Lib.hid hX1
  have HX2 := Lib.hid hX2
  have HB0 := Lib.hid hB0
  have hz0 := hB0.size
  have hl2 := hX2.lt
  clear hX0 hX1 hX2 hB0
  go_upto_region 3 with (go_at_call 7; refine (C.out w0).mono ?_; rintro e w1 ⟨rfl, hb1⟩; have X0_1 := Lib.hid (HX0.out.below hb1 HX0.out.lt); have X1_1 := Lib.hid (HX1.out.below hb1 HX1.out.lt); have X2_1 := Lib.hid (HX2.out.below hb1 HX2.out.lt); have HB_1 := Lib.hid (below_step HB0.out hb1); have hz_1 := hb1.size; clear hb1; have r10 : w1.cell? ⟨w.heap.size, 0, none⟩ = some (.slice A n c) := (by rw [X0_1.out.cell]; rfl); have r11 : w1.cell? ⟨w.heap.size, 1, none⟩ = some (.string H) := (by rw [X0_1.out.cell]; rfl); have r12 : w1.cell? ⟨w.heap.size, 2, none⟩ = some (.string S) := (by rw [X0_1.out.cell]; rfl))
  go_upto_region 4 with (go_at_call 9; refine (newVerifier_bad n c A H S w1 (by omega) (by omega) hv).mono ?_; rintro e w2 ⟨rfl, hb2⟩; have X0_2 := Lib.hid (X0_1.out.below hb2 X0_1.out.lt); have X1_2 := Lib.hid (X1_1.out.below hb2 X1_1.out.lt); have X2_2 := Lib.hid (X2_1.out.below hb2 X2_1.out.lt); have HB_2 := Lib.hid (below_step HB_1.out hb2); have hz_2 := hb2.size; clear hb2; have r20 : w2.cell? ⟨w.heap.size, 0, none⟩ = some (.slice A n c) := (by rw [X0_2.out.cell]; rfl); have r21 : w2.cell? ⟨w.heap.size, 1, none⟩ = some (.string H) := (by rw [X0_2.out.cell]; rfl); have r22 : w2.cell? ⟨w.heap.size, 2, none⟩ = some (.string S) := (by rw [X0_2.out.cell]; rfl))
  go_upto_region 5 with (go_at_call 10; refine (newProver_bad n c A H S w2 (by omega) (by omega) hv).mono ?_; rintro e w3 ⟨rfl, hb3⟩; have X0_3 := Lib.hid (X0_2.out.below hb3 X0_2.out.lt); have X1_3 := Lib.hid (X1_2.out.below hb3 X1_2.out.lt); have X2_3 := Lib.hid (X2_2.out.below hb3 X2_2.out.lt); have HB_3 := Lib.hid (below_step HB_2.out hb3); have hz_3 := hb3.size; clear hb3)
  go_wp2_with (go_at_call 8; refine (known_calls _).mono ?_; rintro e w4 ⟨rfl, hb4⟩; have X0_4 := Lib.hid (X0_3.out.below hb4 X0_3.out.lt); have X1_4 := Lib.hid (X1_3.out.below hb4 X1_3.out.lt); have X2_4 := Lib.hid (X2_3.out.below hb4 X2_3.out.lt); have HB_4 := Lib.hid (below_step HB_3.out hb4); have hz_4 := hb4.size; clear hb4)
  go_ret
  exact ⟨rfl, HB_4.out⟩
theorem OwnAt.some_ {w : World} {base : Nat} {e : TypeId} {A : Option Addr} {n c : Nat} {xs : List Value} (h : OwnAt w base e (.slice A n c) xs) (hn : 0 < n) : ∃ g o, A = some ⟨g, o, none⟩ ∧ base ≤ g ∧ g < w.heap.size := by
  rcases h with ⟨h, _⟩ | ⟨g, o, cap, cur, hv, hb, hB, _⟩
  · injection h with _ h _
    omega
  · injection hv with ha _ _
    exact ⟨g, o, ha, hb, hB.lt⟩
/-- the byte of a response in which the bit lies -/
def bitOf (R : List UInt8) (bit : Nat) : UInt8 := R.getD (bit / 8) 0
def flipB (R : List UInt8) (bit : Nat) (y : UInt8) : List UInt8 := R.set (bit / 8) (bitOf R bit ^^^ y)
/-- the bit itself -/
def maskOf (bit : Nat) : UInt8 := UInt8.ofNat (2 ^ (bit % 8))
theorem mask_lt (bit : Nat) : 2 ^ (bit % 8) < 256 := Nat.pow_lt_pow_right (by decide) (Nat.mod_lt _ (by decide)) |> fun h => Nat.lt_of_lt_of_le h (by decide)
theorem mask_val (bit : Nat) : ((2 : Int) ^ (bit % 8) % 256) = ((maskOf bit).toNat : Int) := by
  unfold maskOf
  rw [UInt8.toNat_ofNat']
  have h := mask_lt bit
  rw [Nat.mod_eq_of_lt h, show (2 : Int) ^ (bit % 8) = ((2 ^ (bit % 8) : Nat) : Int) by simp]
  generalize (2 ^ (bit % 8) : Nat) = m at h ⊢
  omega
theorem mask_ne (bit : Nat) : maskOf bit ≠ 0 := by
  intro h
  have h1 := congrArg UInt8.toNat h
  unfold maskOf at h1
  rw [UInt8.toNat_ofNat', Nat.mod_eq_of_lt (mask_lt bit)] at h1
  have := Nat.two_pow_pos (bit % 8)
  have h2 : (0 : UInt8).toNat = 0 := rfl
  omega
theorem grown_above {a w : World} {row : Option Nat} {p : Addr} (h : a.grownBy w row) (hp : a.heap.size ≤ p.block) (u : Value) : a.grownBy (w.setCell p u).drew row :=
  ⟨h.os, h.tape, h.output, by show _ ≤ (w.setCell p u).heap.size; simpa [World.setCell] using h.size, fun k hk hr => (Below.heap_setCell w _ u k (by omega)).trans (h.block k hk hr)⟩
theorem bits_xor8 (x y : UInt8) : bits .xor .u8 (x.toNat : Int) (y.toNat : Int) = ((x ^^^ y).toNat : Int) := by
  show IntKind.u8.wrap ((BitVec.ofInt 8 _ ^^^ BitVec.ofInt 8 _).toNat : Int) = _
  rw [ofInt8, ofInt8]
  exact in8 _
theorem flip_get (h : Hd) (R : List UInt8) (ps : List (List UInt8)) (bit : Nat) (hR : R.length = 32) (hk : bit / 8 < 32) : (msgB h (R :: ps))[8 + bit / 8]? = some (bitOf R bit) := by
  unfold msgB bitOf
  rw [List.getElem?_append_right (by rw [hdB_len]; omega), hdB_len, List.flatten_cons, show 8 + bit / 8 - 8 = bit / 8 by omega, List.getElem?_append_left (by omega), List.getD_eq_getElem?_getD, List.getElem?_eq_getElem (by omega)]
  rfl
theorem flip_set (h : Hd) (R : List UInt8) (ps : List (List UInt8)) (bit : Nat) (y : UInt8) (hR : R.length = 32) (hk : bit / 8 < 32) : (msgB h (R :: ps)).set (8 + bit / 8) (bitOf R bit ^^^ y) = msgB h (flipB R bit y :: ps) := by
  unfold msgB flipB
  rw [List.set_append_right _ _ (by rw [hdB_len]; omega), hdB_len, List.flatten_cons, List.flatten_cons, show 8 + bit / 8 - 8 = bit / 8 by omega, List.set_append_left _ _ (by omega)]
theorem flip_len (R : List UInt8) (bit : Nat) (y : UInt8) : (flipB R bit y).length = R.length := by unfold flipB; rw [List.length_set]
theorem flip_ne (R : List UInt8) (bit : Nat) (y : UInt8) (hR : R.length = 32) (hk : bit / 8 < 32) (hy : y ≠ 0) : sameB (flipB R bit y) R = false := by
  unfold sameB
  rw [decide_eq_false_iff_not]
  intro he
  have h1 := congrArg (fun l : List UInt8 => l[bit / 8]?) he
  have h2 : bitOf R bit = R[bit / 8]'(by omega) := by
    unfold bitOf
    rw [List.getD_eq_getElem?_getD, List.getElem?_eq_getElem (by omega)]
    rfl
  simp only [flipB] at h1
  rw [List.getElem?_set_self (by omega), List.getElem?_eq_getElem (by omega), h2] at h1
  injection h1 with h1
  apply hy
  have h3 : R[bit / 8]'(by omega) ^^^ (R[bit / 8]'(by omega) ^^^ y) = R[bit / 8]'(by omega) ^^^ R[bit / 8]'(by omega) := congrArg _ h1
  rw [← UInt8.xor_assoc, UInt8.xor_self, UInt8.zero_xor] at h3
  exact h3
attribute [local go_sem high] Words.xor8
set_option maxRecDepth 100000 in
set_option maxHeartbeats 16000000 in
theorem rejects_good (K : List UInt8) (n c : Nat) (bit : Nat) (A : Option Addr) (H S : ByteArray) (F G : List UInt8) (w : World) (hs : Sl w w.heap.size A (K.map b8)) (hn : n = K.length) (hA : A = none → n = 0) (hF : F.length = 32) (hG : G.length = 32) (h1 : n ≤ 80) (h2 : H.size ≤ 240) (h3 : S.size ≤ 240) (hbt : bit ≤ 255) (hv : validB n H S = true) :
    Calls Try.prog 4 #[.agg #[.slice A n c, .string H, .string S], .agg (arrC b8 F), .agg (arrC b8 G), .int .i64 (bit : Nat)] w (RetBool true w) := by
  have hK0 : 0 < K.length := by
    have h5 := hv
    unfold validB at h5
    simp only [Bool.and_eq_true, decide_eq_true_eq] at h5
    omega
  have hKl : K.length ≤ 80 := by omega
  have HS := Lib.hid hs
  have HN := Lib.hid hn
  have HA := Lib.hid hA
  have HF := Lib.hid hF
  have HG := Lib.hid hG
  have HV := Lib.hid hv
  clear hs hn hA hF hG hv
  have C := fun wx => short_yes A n c H S wx h1 h2 h3
  have C := Lib.hid C
  have e1 : ¬ (bit : Int) < 0 := by omega
  have e2 : ¬ 255 < (bit : Int) := by omega
  go_enter Try.func4, Try.ntmps4
  go_upto_region 1 with fail
  have hX0 : Blk (((w.alloc (.cells #[.slice A n c, .string H, .string S] 24)).alloc (.cells (arrC b8 F) 25)).alloc (.cells (arrC b8 G) 25)) w.heap.size 24 #[.slice A n c, .string H, .string S] := ((Blk.new_ rfl).alloc _).alloc _
  have hX1 : Blk (((w.alloc (.cells #[.slice A n c, .string H, .string S] 24)).alloc (.cells (arrC b8 F) 25)).alloc (.cells (arrC b8 G) 25)) (w.heap.size + 1) 25 (arrC b8 F) := (Blk.new_ (by simp)).alloc _
  have hX2 : Blk (((w.alloc (.cells #[.slice A n c, .string H, .string S] 24)).alloc (.cells (arrC b8 F) 25)).alloc (.cells (arrC b8 G) 25)) (w.heap.size + 1 + 1) 25 (arrC b8 G) := Blk.new_ (by simp)
  have hB0 : Below w.heap.size w (((w.alloc (.cells #[.slice A n c, .string H, .string S] 24)).alloc (.cells (arrC b8 F) 25)).alloc (.cells (arrC b8 G) 25)) := (((Below.refl _ _).alloc (Nat.le_refl _) _).alloc (by simp) _).alloc (by simp; omega) _
  generalize ((w.alloc (.cells #[.slice A n c, .string H, .string S] 24)).alloc (.cells (arrC b8 F) 25)).alloc (.cells (arrC b8 G) 25) = w0 at hX0 hX1 hX2 hB0 ⊢
  have r0 : w0.cell? ⟨w.heap.size, 0, none⟩ = some (.slice A n c) := by rw [hX0.cell]; rfl
  have r1 : w0.cell? ⟨w.heap.size, 1, none⟩ = some (.string H) := by rw [hX0.cell]; rfl
  have r2 : w0.cell? ⟨w.heap.size, 2, none⟩ = some (.string S) := by rw [hX0.cell]; rfl
  have HX0 := Lib.hid hX0
  have HX1 := Lib.hid hX1
  have HX2 := Lib.hid hX2
  have HB0 := Lib.hid hB0
  have hz0 := hB0.size
  have hl2 := hX2.lt
  clear hX0 hX1 hX2 hB0
  go_upto_region 3 with (go_at_call 7; refine (C.out w0).mono ?_; rintro e w1 ⟨rfl, hb1⟩; have X0_1 := Lib.hid (HX0.out.below hb1 HX0.out.lt); have X1_1 := Lib.hid (HX1.out.below hb1 HX1.out.lt); have X2_1 := Lib.hid (HX2.out.below hb1 HX2.out.lt); have HB_1 := Lib.hid (below_step HB0.out hb1); have hz_1 := hb1.size; clear hb1; have r10 : w1.cell? ⟨w.heap.size, 0, none⟩ = some (.slice A n c) := (by rw [X0_1.out.cell]; rfl); have r11 : w1.cell? ⟨w.heap.size, 1, none⟩ = some (.string H) := (by rw [X0_1.out.cell]; rfl); have r12 : w1.cell? ⟨w.heap.size, 2, none⟩ = some (.string S) := (by rw [X0_1.out.cell]; rfl))
  go_upto_region 4 with (go_at_call 9; refine (newVerifier_ok K n c A H S w1 (by omega) (by omega) HV.out ((HS.out.below HB_1.out).more HB_1.out.size) HN.out HA.out (by omega)).mono ?_; rintro e w2 ⟨bv, rfl, hzv, hb2, hV2⟩; have X0_2 := Lib.hid (X0_1.out.below hb2 X0_1.out.lt); have X1_2 := Lib.hid (X1_1.out.below hb2 X1_1.out.lt); have X2_2 := Lib.hid (X2_1.out.below hb2 X2_1.out.lt); have HB_2 := Lib.hid (below_step HB_1.out hb2); have hz_2 := hb2.size; clear hb2; have r20 : w2.cell? ⟨w.heap.size, 0, none⟩ = some (.slice A n c) := (by rw [X0_2.out.cell]; rfl); have r21 : w2.cell? ⟨w.heap.size, 1, none⟩ = some (.string H) := (by rw [X0_2.out.cell]; rfl); have r22 : w2.cell? ⟨w.heap.size, 2, none⟩ = some (.string S) := (by rw [X0_2.out.cell]; rfl); have Ev := Lib.hid hV2; clear hV2)
  go_upto_region 5 with (go_at_call 10; refine (newProver_ok K n c A H S w2 (by omega) (by omega) HV.out ((HS.out.below HB_2.out).more HB_2.out.size) HN.out HA.out (by omega)).mono ?_; rintro e w3 ⟨bp, rfl, hzp, hb3, hP3⟩; have X0_3 := Lib.hid (X0_2.out.below hb3 X0_2.out.lt); have X1_3 := Lib.hid (X1_2.out.below hb3 X1_2.out.lt); have X2_3 := Lib.hid (X2_2.out.below hb3 X2_2.out.lt); have Ev_3 := Lib.hid (Ev.out.below hb3); have HB_3 := Lib.hid (below_step HB_2.out hb3); have hz_3 := hb3.size; clear hb3; have Ep := Lib.hid hP3; clear hP3)
  have hvp : bp ≠ bv := Ev_3.out.ne Ep.out (by decide)
  have E1 : Hid ((Try.prog.info? 25).map (·.size) = some F.length) := by show _ = _; rw [HF.out]; exact a32_size
  have E2 : Hid ((Try.prog.info? 25).map (·.size) = some G.length) := by show _ = _; rw [HG.out]; exact a32_size
  go_upto_region 8 with (first
    | (with_reducible refine wpList_load_arr rfl 25 (.tmp 5) rfl (w.heap.size + 1) 0 rfl F _ (blk_range X1_3.out) Try.underlying25 rfl E1.out ?_)
    | (go_at_call 11; refine (challenge_ok K (List.replicate 32 0) F H S Hd.zero false false 1 0 bv w3 Ev_3.out hK0 (by simp) HF.out (by decide) (by decide) (by decide)).mono ?_; rintro e w4 ⟨s1, rfl, hO4, hg4, hV4⟩))
  have X0_4 := Lib.hid (X0_3.out.grown hg4 (by intro e; injection e with e; omega))
  have X1_4 := Lib.hid (X1_3.out.grown hg4 (by intro e; injection e with e; omega))
  have X2_4 := Lib.hid (X2_3.out.grown hg4 (by intro e; injection e with e; omega))
  have Ep_4 := Lib.hid (Ep.out.other Ev_3.out (by omega) (by decide) hg4)
  have HB_4 := Lib.hid (HB_3.out.grown hg4 HB_3.out.size (fun k e => by injection e with e; omega))
  have hz_4 := hg4.size
  have Ev_4 := Lib.hid hV4
  clear hg4 hV4
  obtain ⟨A1, c1, rfl, _, _, _⟩ := hO4.form8
  rw [msg_len1 _ _ HF.out] at hO4 ⊢
  have Om_4 := Lib.hid hO4
  clear hO4
  have okc : Hid (Hd.ok ⟨1, 0, 0, 1⟩) := ok_of (by decide) (by decide) (by decide) (by decide)
  have okr : Hid (Hd.ok ⟨2, 1, 0, 1⟩) := ok_of (by decide) (by decide) (by decide) (by decide)
  have oks : Hid (Hd.ok ⟨3, 1, 0, 1⟩) := ok_of (by decide) (by decide) (by decide) (by decide)
  have PE1 := Lib.hid (parE_one ⟨1, 0, 0, 1⟩ F 1 0 okc.out HF.out rfl (Nat.le_refl _) (by intro h; omega))
  have PH1 := Lib.hid (parH_msg ⟨1, 0, 0, 1⟩ [F] okc.out)
  have PL1 := Lib.hid (msg_len1 ⟨1, 0, 0, 1⟩ F HF.out)
  have PP1 := Lib.hid (parP_one ⟨1, 0, 0, 1⟩ F HF.out)
  go_upto_region 9 with (first
    | (with_reducible refine wpList_load_arr rfl 25 (.tmp 6) rfl (w.heap.size + 1 + 1) 0 rfl G _ (blk_range X2_4.out) Try.underlying25 rfl E2.out ?_)
    | (go_at_call 12; refine (answer_both K (List.replicate 32 0) G (msgB ⟨1, 0, 0, 1⟩ [F]) H S Hd.zero false false bp 40 c1 1 0 0 1 A1 w4 Ep_4.out hK0 (by omega) (by simp) HG.out (by omega) (by omega) PL1.out.symm Om_4.out.sl PE1.out PH1.out).mono ?_; rintro e w5 ⟨s2, rfl, hO5, hg5, hP5⟩; rw [PP1.out] at hO5))
  generalize hRB : respB K H S F ⟨2, 1, 0, 1⟩ 72 = RB at hO5
  have hRl : RB.length = 32 := by rw [← hRB]; exact respB_len _ _ _ _ _ _
  have X0_5 := Lib.hid (X0_4.out.grown hg5 (by intro e; injection e with e; omega))
  have X1_5 := Lib.hid (X1_4.out.grown hg5 (by intro e; injection e with e; omega))
  have X2_5 := Lib.hid (X2_4.out.grown hg5 (by intro e; injection e with e; omega))
  have Ev_5 := Lib.hid (Ev_4.out.other Ep_4.out (by omega) (by decide) hg5)
  have Om_5 := Lib.hid (Om_4.out.other Ep_4.out (by decide) hg5)
  have HB_5 := Lib.hid (HB_4.out.grown hg5 HB_4.out.size (fun k e => by injection e with e; omega))
  have hz_5 := hg5.size
  have Ep_5 := Lib.hid hP5
  clear hg5 hP5
  obtain ⟨A2, c2, rfl, _, _, _⟩ := hO5.form8
  rw [msg_len2 _ _ _ hRl HG.out] at hO5 ⊢
  have hk32 : bit / 8 < 32 := by omega
  have PE2 := Lib.hid (parE_two ⟨2, 1, 0, 1⟩ RB G 2 1 okr.out hRl HG.out rfl (by show (1 : Nat) ≤ 1; omega) (by intro _ h; cases h))
  have PH2 := Lib.hid (parH_msg ⟨2, 1, 0, 1⟩ [RB, G] okr.out)
  have PL2 := Lib.hid (msg_len2 ⟨2, 1, 0, 1⟩ RB G hRl HG.out)
  have PR2 : Hid (sameB (parP (msgB ⟨2, 1, 0, 1⟩ [RB, G]) 0) (respB K H S F ⟨2, 1, 0, 1⟩ 72) = true) := by
    show _ = _
    rw [parP_two0 _ _ _ hRl, hRB]
    exact same_refl _
  have PQ2 := Lib.hid (parP_two1 ⟨2, 1, 0, 1⟩ RB G hRl HG.out)
  have HRB := Lib.hid hRB
  have HRL := Lib.hid hRl
  clear hRB hRl
  have Or_5 := Lib.hid hO5
  clear hO5
  go_upto_region 12 with (go_at_call 17; refine (cpv_ok K F H S _ true false bv w5 Ev_5.out hK0 HF.out).mono ?_; rintro e w6 ⟨bx, rfl, hzx, hb6, hX6⟩)
  have hvx : bx ≠ bv := (by have := Ev_5.out.lt; omega)
  have Ex := Lib.hid hX6
  clear hX6
  have X0_6 := Lib.hid (X0_5.out.below hb6 X0_5.out.lt)
  have X1_6 := Lib.hid (X1_5.out.below hb6 X1_5.out.lt)
  have X2_6 := Lib.hid (X2_5.out.below hb6 X2_5.out.lt)
  have Ev_6 := Lib.hid (Ev_5.out.below hb6)
  have Ep_6 := Lib.hid (Ep_5.out.below hb6)
  have Om_6 := Lib.hid (Om_5.out.below hb6 (Nat.le_refl _))
  have Or_6 := Lib.hid (Or_5.out.below hb6 (Nat.le_refl _))
  have HB_6 := Lib.hid (below_step HB_5.out hb6)
  have hz_6 := hb6.size
  clear hb6
  have hxp : bp ≠ bx := Ex.out.ne Ep_6.out (by decide)
  go_upto_region 13 with (go_at_call 18; refine (own_calls (msgB ⟨2, 1, 0, 1⟩ [RB, G]) A2 72 c2 w6 Or_6.out.sl PL2.out.symm (by rw [PL2.out]; omega)).mono ?_; rintro e w7 ⟨s3, rfl, hO7, hb7⟩)
  obtain ⟨A3, c3, rfl, _, _, _⟩ := hO7.form8
  rw [PL2.out] at hO7 ⊢
  obtain ⟨g, off, rfl, hg6, hg7⟩ := hO7.some_ (by omega)
  have hcl : w7.cell? ⟨g, off + (8 + bit / 8), none⟩ = some (.int .u8 ((bitOf RB bit).toNat : Int)) := hO7.range (8 + bit / 8) _ (by rw [List.getElem?_map, flip_get _ _ _ _ HRL.out hk32]; rfl)
  have hfz := hO7.frozen
  have HO7 := Lib.hid hO7
  have HB7 := Lib.hid hb7
  clear hO7 hb7
  go_region
  rw [mask_val, bits_xor8]
  have hO8 := HO7.out.set (b8 (bitOf RB bit ^^^ maskOf bit)) (show 8 + bit / 8 < 72 by omega)
  rw [← List.map_set, flip_set _ _ _ _ _ HRL.out hk32] at hO8
  have hb8 : Below w6.heap.size w6 ((w7.setCell ⟨g, off + (8 + bit / 8), none⟩ (.int .u8 ((bitOf RB bit ^^^ maskOf bit).toNat : Int))).drew) := (HB7.out.setCell hg6 _).drew
  have hO8 : OwnAt ((w7.setCell ⟨g, off + (8 + bit / 8), none⟩ (.int .u8 ((bitOf RB bit ^^^ maskOf bit).toNat : Int))).drew) w6.heap.size 5 (.slice (some ⟨g, off, none⟩) 72 c3) ((msgB ⟨2, 1, 0, 1⟩ [flipB RB bit (maskOf bit), G]).map b8) := hO8
  generalize (w7.setCell ⟨g, off + (8 + bit / 8), none⟩ (.int .u8 ((bitOf RB bit ^^^ maskOf bit).toNat : Int))).drew = w8 at hO8 hb8 ⊢
  clear hcl hfz HO7 HB7
  have hXl : (flipB RB bit (maskOf bit)).length = 32 := by rw [flip_len, HRL.out]
  have hXn : sameB (flipB RB bit (maskOf bit)) RB = false := flip_ne _ _ _ HRL.out hk32 (mask_ne bit)
  generalize flipB RB bit (maskOf bit) = RX at hO8 hXl hXn
  have PE3 := Lib.hid (parE_two ⟨2, 1, 0, 1⟩ RX G 2 1 okr.out hXl HG.out rfl (by show (1 : Nat) ≤ 1; omega) (by intro _ h; cases h))
  have PH3 := Lib.hid (parH_msg ⟨2, 1, 0, 1⟩ [RX, G] okr.out)
  have PL3 := Lib.hid (msg_len2 ⟨2, 1, 0, 1⟩ RX G hXl HG.out)
  have PR3 : Hid (sameB (parP (msgB ⟨2, 1, 0, 1⟩ [RX, G]) 0) (respB K H S F ⟨2, 1, 0, 1⟩ 72) = false) := by
    show _ = _
    rw [parP_two0 _ _ _ hXl, HRB.out]
    exact hXn
  clear hXl hXn
  have X0_7 := Lib.hid (X0_6.out.below hb8 X0_6.out.lt)
  have X1_7 := Lib.hid (X1_6.out.below hb8 X1_6.out.lt)
  have X2_7 := Lib.hid (X2_6.out.below hb8 X2_6.out.lt)
  have Ev_7 := Lib.hid (Ev_6.out.below hb8)
  have Ep_7 := Lib.hid (Ep_6.out.below hb8)
  have Ex_7 := Lib.hid (Ex.out.below hb8)
  have Om_7 := Lib.hid (Om_6.out.below hb8 (Nat.le_refl _))
  have Or_7 := Lib.hid (Or_6.out.below hb8 (Nat.le_refl _))
  have HB_7 := Lib.hid (below_step HB_6.out hb8)
  have hz_7 := hb8.size
  clear hb8
  have Oy_7 := Lib.hid hO8
  clear hO8
  go_upto_region 15 with (go_at_call 15; refine (check_bad K F _ H S false bv 72 c3 2 1 0 1 1 0 _ w8 Ev_7.out hK0 (by omega) HF.out (by omega) (by omega) PL3.out.symm Oy_7.out.sl PE3.out PH3.out PR3.out).mono ?_; rintro e w9 ⟨rfl, hg9, hV9⟩)
  have X0_8 := Lib.hid (X0_7.out.grown hg9 (by intro e; injection e with e; omega))
  have X1_8 := Lib.hid (X1_7.out.grown hg9 (by intro e; injection e with e; omega))
  have X2_8 := Lib.hid (X2_7.out.grown hg9 (by intro e; injection e with e; omega))
  have Ep_8 := Lib.hid (Ep_7.out.other Ev_7.out (by omega) (by decide) hg9)
  have Ex_8 := Lib.hid (Ex_7.out.other Ev_7.out (by omega) (by decide) hg9)
  have Om_8 := Lib.hid (Om_7.out.other Ev_7.out (by decide) hg9)
  have Or_8 := Lib.hid (Or_7.out.other Ev_7.out (by decide) hg9)
  have Oy_8 := Lib.hid (Oy_7.out.other Ev_7.out (by decide) hg9)
  have HB_8 := Lib.hid (HB_7.out.grown hg9 HB_7.out.size (fun k e => by injection e with e; omega))
  have hz_8 := hg9.size
  have Ev_8 := Lib.hid hV9
  clear hg9 hV9
  go_upto_region 16 with (go_at_call 15; refine (check_shut K F _ H S false bv 72 c2 2 1 0 1 1 0 A2 w9 Ev_8.out hK0 HF.out PL2.out.symm Or_8.out.sl PE2.out PH2.out).mono ?_; rintro e w10 ⟨rfl, hb10⟩; have X0_9 := Lib.hid (X0_8.out.below hb10 X0_8.out.lt); have X1_9 := Lib.hid (X1_8.out.below hb10 X1_8.out.lt); have X2_9 := Lib.hid (X2_8.out.below hb10 X2_8.out.lt); have Ev_9 := Lib.hid (Ev_8.out.below hb10); have Ep_9 := Lib.hid (Ep_8.out.below hb10); have Ex_9 := Lib.hid (Ex_8.out.below hb10); have Om_9 := Lib.hid (Om_8.out.below hb10 (Nat.le_refl _)); have Or_9 := Lib.hid (Or_8.out.below hb10 (Nat.le_refl _)); have Oy_9 := Lib.hid (Oy_8.out.below hb10 (Nat.le_refl _)); have HB_9 := Lib.hid (below_step HB_8.out hb10); have hz_9 := hb10.size; clear hb10)
  go_upto_region 18 with (go_at_call 13; refine (dnv_calls K F H S _ false false bv w10 Ev_9.out HF.out).mono ?_; rintro e w11 ⟨rfl, hb11⟩; have X0_10 := Lib.hid (X0_9.out.below hb11 X0_9.out.lt); have X1_10 := Lib.hid (X1_9.out.below hb11 X1_9.out.lt); have X2_10 := Lib.hid (X2_9.out.below hb11 X2_9.out.lt); have Ev_10 := Lib.hid (Ev_9.out.below hb11); have Ep_10 := Lib.hid (Ep_9.out.below hb11); have Ex_10 := Lib.hid (Ex_9.out.below hb11); have Om_10 := Lib.hid (Om_9.out.below hb11 (Nat.le_refl _)); have Or_10 := Lib.hid (Or_9.out.below hb11 (Nat.le_refl _)); have Oy_10 := Lib.hid (Oy_9.out.below hb11 (Nat.le_refl _)); have HB_10 := Lib.hid (below_step HB_9.out hb11); have hz_10 := hb11.size; clear hb11)
  go_upto_region 19 with (go_at_call 15; refine (check_ok K F _ H S false bx 72 c2 2 1 0 1 1 0 A2 w11 Ex_10.out hK0 (by omega) HF.out (by omega) (by omega) PL2.out.symm Or_10.out.sl PE2.out PH2.out PR2.out).mono ?_; rintro e w12 ⟨s4, rfl, hO12, hg12, hV12⟩; rw [PQ2.out] at hO12; rw [show ansB K H S G ⟨2, 1, 0, 1⟩ = respB K H S G ⟨2, 1, 0, 1⟩ 67 from if_pos rfl] at hO12)
  generalize hRC : respB K H S G ⟨2, 1, 0, 1⟩ 67 = RC at hO12
  have hRl : RC.length = 32 := by rw [← hRC]; exact respB_len _ _ _ _ _ _
  have HRC := Lib.hid hRC
  have HCL := Lib.hid hRl
  obtain ⟨A4, c4, rfl, _, _, _⟩ := hO12.form8
  rw [msg_len1 _ _ hRl] at hO12 ⊢
  clear hRC hRl
  obtain ⟨g2, off2, rfl, hg11, hg12'⟩ := hO12.some_ (by omega)
  go_upto_region 21 with fail
  have hcl : w12.cell? ⟨g2, off2 + (8 + bit / 8), none⟩ = some (.int .u8 ((bitOf RC bit).toNat : Int)) := hO12.range (8 + bit / 8) _ (by rw [List.getElem?_map, flip_get _ _ _ _ HCL.out hk32]; rfl)
  have hfz := hO12.frozen
  have HO12 := Lib.hid hO12
  have HG12 := Lib.hid hg12
  clear hO12 hg12 hV12
  go_region
  rw [mask_val, bits_xor8]
  have hO13 := HO12.out.set (b8 (bitOf RC bit ^^^ maskOf bit)) (show 8 + bit / 8 < 40 by omega)
  rw [← List.map_set, flip_set _ _ _ _ _ HCL.out hk32] at hO13
  have hg13 := grown_above HG12.out (p := ⟨g2, off2 + (8 + bit / 8), none⟩) hg11 (.int .u8 ((bitOf RC bit ^^^ maskOf bit).toNat : Int))
  have hO13 : OwnAt ((w12.setCell ⟨g2, off2 + (8 + bit / 8), none⟩ (.int .u8 ((bitOf RC bit ^^^ maskOf bit).toNat : Int))).drew) w11.heap.size 5 (.slice (some ⟨g2, off2, none⟩) 40 c4) ((msgB ⟨3, 1, 0, 1⟩ [flipB RC bit (maskOf bit)]).map b8) := hO13
  generalize (w12.setCell ⟨g2, off2 + (8 + bit / 8), none⟩ (.int .u8 ((bitOf RC bit ^^^ maskOf bit).toNat : Int))).drew = w13 at hO13 hg13 ⊢
  clear hcl hfz HO12 HG12
  have hXl : (flipB RC bit (maskOf bit)).length = 32 := by rw [flip_len, HCL.out]
  have hXn : sameB (flipB RC bit (maskOf bit)) RC = false := flip_ne _ _ _ HCL.out hk32 (mask_ne bit)
  generalize flipB RC bit (maskOf bit) = RY at hO13 hXl hXn
  have PE4 := Lib.hid (parE_one ⟨3, 1, 0, 1⟩ RY 3 1 oks.out hXl rfl (by show (1 : Nat) ≤ 1; omega) (by intro _ h; cases h))
  have PH4 := Lib.hid (parH_msg ⟨3, 1, 0, 1⟩ [RY] oks.out)
  have PL4 := Lib.hid (msg_len1 ⟨3, 1, 0, 1⟩ RY hXl)
  have PR4 : Hid (sameB (parP (msgB ⟨3, 1, 0, 1⟩ [RY]) 0) (respB K H S G ⟨2, 1, 0, 1⟩ 67) = false) := by
    show _ = _
    rw [parP_one _ _ hXl, HRC.out]
    exact hXn
  clear hXl hXn
  have X0_11 := Lib.hid (X0_10.out.grown hg13 (by intro e; injection e with e; omega))
  have X1_11 := Lib.hid (X1_10.out.grown hg13 (by intro e; injection e with e; omega))
  have X2_11 := Lib.hid (X2_10.out.grown hg13 (by intro e; injection e with e; omega))
  have Ev_11 := Lib.hid (Ev_10.out.other Ex_10.out (by omega) (by decide) hg13)
  have Ep_11 := Lib.hid (Ep_10.out.other Ex_10.out (by omega) (by decide) hg13)
  have Om_11 := Lib.hid (Om_10.out.other Ex_10.out (by decide) hg13)
  have Or_11 := Lib.hid (Or_10.out.other Ex_10.out (by decide) hg13)
  have Oy_11 := Lib.hid (Oy_10.out.other Ex_10.out (by decide) hg13)
  have HB_11 := Lib.hid (HB_10.out.grown hg13 HB_10.out.size (fun k e => by injection e with e; omega))
  have hz_11 := hg13.size
  clear hg13
  have Os_11 := Lib.hid hO13
  clear hO13
  go_wp2_with (first
    | (go_at_call 16; refine (finish_bad K G _ H S false bp 40 c4 3 0 1 _ w13 Ep_11.out hK0 HG.out (by omega) (by omega) (by omega) PL4.out.symm Os_11.out.sl PE4.out PH4.out PR4.out).mono ?_; rintro e w14 ⟨rfl, hg14, hP14⟩; have X0_12 := Lib.hid (X0_11.out.grown hg14 (by intro e; injection e with e; omega)); have X1_12 := Lib.hid (X1_11.out.grown hg14 (by intro e; injection e with e; omega)); have X2_12 := Lib.hid (X2_11.out.grown hg14 (by intro e; injection e with e; omega)); have Ev_12 := Lib.hid (Ev_11.out.other Ep_11.out (by omega) (by decide) hg14); have Om_12 := Lib.hid (Om_11.out.other Ep_11.out (by decide) hg14); have Or_12 := Lib.hid (Or_11.out.other Ep_11.out (by decide) hg14); have Oy_12 := Lib.hid (Oy_11.out.other Ep_11.out (by decide) hg14); have Os_12 := Lib.hid (Os_11.out.other Ep_11.out (by decide) hg14); have HB_12 := Lib.hid (HB_11.out.grown hg14 HB_11.out.size (fun k e => by injection e with e; omega)); have hz_12 := hg14.size; have Ep_12 := Lib.hid hP14; clear hg14 hP14)
    | (go_at_call 14; refine (dnp_calls K G H S _ false false bp w14 Ep_12.out HG.out).mono ?_; rintro e w15 ⟨rfl, hb15⟩; have X0_13 := Lib.hid (X0_12.out.below hb15 X0_12.out.lt); have X1_13 := Lib.hid (X1_12.out.below hb15 X1_12.out.lt); have X2_13 := Lib.hid (X2_12.out.below hb15 X2_12.out.lt); have Ev_13 := Lib.hid (Ev_12.out.below hb15); have Ep_13 := Lib.hid (Ep_12.out.below hb15); have Om_13 := Lib.hid (Om_12.out.below hb15 (Nat.le_refl _)); have Or_13 := Lib.hid (Or_12.out.below hb15 (Nat.le_refl _)); have Oy_13 := Lib.hid (Oy_12.out.below hb15 (Nat.le_refl _)); have Os_13 := Lib.hid (Os_12.out.below hb15 (Nat.le_refl _)); have HB_13 := Lib.hid (below_step HB_12.out hb15); have hz_13 := hb15.size; clear hb15)
    | (go_at_call 16; refine (finish_shut K G _ H S _ false bp 40 c4 3 1 0 1 _ w15 Ep_13.out hK0 HG.out PL4.out.symm Os_13.out.sl PE4.out PH4.out).mono ?_; rintro e w16 ⟨rfl, hb16⟩; have X0_14 := Lib.hid (X0_13.out.below hb16 X0_13.out.lt); have X1_14 := Lib.hid (X1_13.out.below hb16 X1_13.out.lt); have X2_14 := Lib.hid (X2_13.out.below hb16 X2_13.out.lt); have Ev_14 := Lib.hid (Ev_13.out.below hb16); have Ep_14 := Lib.hid (Ep_13.out.below hb16); have Om_14 := Lib.hid (Om_13.out.below hb16 (Nat.le_refl _)); have Or_14 := Lib.hid (Or_13.out.below hb16 (Nat.le_refl _)); have Oy_14 := Lib.hid (Oy_13.out.below hb16 (Nat.le_refl _)); have Os_14 := Lib.hid (Os_13.out.below hb16 (Nat.le_refl _)); have HB_14 := Lib.hid (below_step HB_13.out hb16); have hz_14 := hb16.size; clear hb16)
    | (go_at_call 8; refine (known_calls _).mono ?_; rintro e w17 ⟨rfl, hb17⟩))
  go_ret
  exact ⟨rfl, below_step HB_14.out hb17⟩
end Go.Proofs.Ytfamififoifagaa
