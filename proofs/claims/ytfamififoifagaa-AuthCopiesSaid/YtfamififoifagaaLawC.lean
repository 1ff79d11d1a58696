/- The law AuthCopies: its walk. -/
import Derived.Test.YtfamififoifagaaAuthK
import Derived.Outline
namespace Go.Proofs.Ytfamififoifagaa
open Go.RowKit Words

set_option maxRecDepth 100000 in
set_option maxHeartbeats 4000000 in
theorem copies_long (n c queue : Nat) (A : Option Addr) (H S : ByteArray) (F : List UInt8) (w : World) (h : ¬ (n ≤ 80 ∧ H.size ≤ 240 ∧ S.size ≤ 240)) :
    Calls Try.prog 5 #[.agg #[.slice A n c, .string H, .string S], .agg (arrC b8 F), .int .u16 (queue : Nat)] w (RetBool true w) := by
  have C := fun wx => short_no A n c H S wx h
  have C := Lib.hid C
  clear h
  go_enter Try.func5, Try.ntmps5
  go_wp2_with (first
    | (go_at_call 7; refine (C.out _).mono ?_; rintro e w1 ⟨rfl, hb1⟩)
    | (go_at_call 8; refine (known_calls _).mono ?_; rintro e w2 ⟨rfl, hb2⟩))
  go_ret
  exact ⟨rfl, below_step (below_step (((Below.refl _ _).alloc (Nat.le_refl _) _).alloc (by simp) _) hb1) hb2⟩
set_option maxRecDepth 100000 in
set_option maxHeartbeats 4000000 in
theorem copies_bad (n c queue : Nat) (A : Option Addr) (H S : ByteArray) (F : List UInt8) (w : World) (h1 : n ≤ 80) (h2 : H.size ≤ 240) (h3 : S.size ≤ 240) (hv : validB n H S = false) :
    Calls Try.prog 5 #[.agg #[.slice A n c, .string H, .string S], .agg (arrC b8 F), .int .u16 (queue : Nat)] w (RetBool true w) := by
  have C := fun wx => short_yes A n c H S wx h1 h2 h3
  have C := Lib.hid C
  go_enter Try.func5, Try.ntmps5
  go_upto_region 1 with fail
  have hX0 : Blk ((w.alloc (.cells #[.slice A n c, .string H, .string S] 24)).alloc (.cells (arrC b8 F) 25)) w.heap.size 24 #[.slice A n c, .string H, .string S] := (Blk.new_ rfl).alloc _
  have hX1 : Blk ((w.alloc (.cells #[.slice A n c, .string H, .string S] 24)).alloc (.cells (arrC b8 F) 25)) (w.heap.size + 1) 25 (arrC b8 F) := Blk.new_ (by simp)
  have hB0 : Below w.heap.size w ((w.alloc (.cells #[.slice A n c, .string H, .string S] 24)).alloc (.cells (arrC b8 F) 25)) := ((Below.refl _ _).alloc (Nat.le_refl _) _).alloc (by simp) _
  generalize (w.alloc (.cells #[.slice A n c, .string H, .string S] 24)).alloc (.cells (arrC b8 F) 25) = w0 at hX0 hX1 hB0 ⊢
  have r0 : w0.cell? ⟨w.heap.size, 0, none⟩ = some (.slice A n c) := by rw [hX0.cell]; rfl
  have r1 : w0.cell? ⟨w.heap.size, 1, none⟩ = some (.string H) := by rw [hX0.cell]; rfl
  have r2 : w0.cell? ⟨w.heap.size, 2, none⟩ = some (.string S) := by rw [hX0.cell]; rfl
  have HX0 := Lib.hid hX0
  have HX1 := Lib.hid hX1
  have HB0 := Lib.hid hB0
  have hz0 := hB0.size
  have hl2 := hX1.lt
  clear hX0 hX1 hB0
  go_upto_region 3 with (go_at_call 7; refine (C.out w0).mono ?_; rintro e w1 ⟨rfl, hb1⟩; have X0_1 := Lib.hid (HX0.out.below hb1 HX0.out.lt); have X1_1 := Lib.hid (HX1.out.below hb1 HX1.out.lt); have HB_1 := Lib.hid (below_step HB0.out hb1); have hz_1 := hb1.size; clear hb1; have r10 : w1.cell? ⟨w.heap.size, 0, none⟩ = some (.slice A n c) := (by rw [X0_1.out.cell]; rfl); have r11 : w1.cell? ⟨w.heap.size, 1, none⟩ = some (.string H) := (by rw [X0_1.out.cell]; rfl); have r12 : w1.cell? ⟨w.heap.size, 2, none⟩ = some (.string S) := (by rw [X0_1.out.cell]; rfl))
  go_upto_region 4 with (go_at_call 9; refine (newVerifier_bad n c A H S w1 (by omega) (by omega) hv).mono ?_; rintro e w2 ⟨rfl, hb2⟩; have X0_2 := Lib.hid (X0_1.out.below hb2 X0_1.out.lt); have X1_2 := Lib.hid (X1_1.out.below hb2 X1_1.out.lt); have HB_2 := Lib.hid (below_step HB_1.out hb2); have hz_2 := hb2.size; clear hb2; have r20 : w2.cell? ⟨w.heap.size, 0, none⟩ = some (.slice A n c) := (by rw [X0_2.out.cell]; rfl); have r21 : w2.cell? ⟨w.heap.size, 1, none⟩ = some (.string H) := (by rw [X0_2.out.cell]; rfl); have r22 : w2.cell? ⟨w.heap.size, 2, none⟩ = some (.string S) := (by rw [X0_2.out.cell]; rfl))
  go_upto_region 5 with (go_at_call 10; refine (newProver_bad n c A H S w2 (by omega) (by omega) hv).mono ?_; rintro e w3 ⟨rfl, hb3⟩; have X0_3 := Lib.hid (X0_2.out.below hb3 X0_2.out.lt); have X1_3 := Lib.hid (X1_2.out.below hb3 X1_2.out.lt); have HB_3 := Lib.hid (below_step HB_2.out hb3); have hz_3 := hb3.size; clear hb3)
  go_wp2_with (go_at_call 8; refine (known_calls _).mono ?_; rintro e w4 ⟨rfl, hb4⟩; have X0_4 := Lib.hid (X0_3.out.below hb4 X0_3.out.lt); have X1_4 := Lib.hid (X1_3.out.below hb4 X1_3.out.lt); have HB_4 := Lib.hid (below_step HB_3.out hb4); have hz_4 := hb4.size; clear hb4)
  go_ret
  exact ⟨rfl, HB_4.out⟩
set_option maxRecDepth 100000 in
set_option maxHeartbeats 16000000 in
theorem copies_good (K : List UInt8) (n c queue : Nat) (A : Option Addr) (H S : ByteArray) (F : List UInt8) (w : World) (hs : Sl w w.heap.size A (K.map b8)) (hn : n = K.length) (hA : A = none → n = 0) (hF : F.length = 32) (h1 : n ≤ 80) (h2 : H.size ≤ 240) (h3 : S.size ≤ 240) (hqu : queue < 65536) (hv : validB n H S = true) :
    Calls Try.prog 5 #[.agg #[.slice A n c, .string H, .string S], .agg (arrC b8 F), .int .u16 (queue : Nat)] w (RetBool true w) := by
  have hK0 : 0 < K.length := by
    have h5 := hv
    unfold validB at h5
    simp only [Bool.and_eq_true, decide_eq_true_eq] at h5
    omega
  have hKl : K.length ≤ 80 := by omega
  have HS := Lib.hid hs
  have HN := Lib.hid hn
  have HA := Lib.hid hA
  have HF := Lib.hid hF
  have HV := Lib.hid hv
  clear hs hn hA hF hv
  have C := fun wx => short_yes A n c H S wx h1 h2 h3
  have C := Lib.hid C
  go_enter Try.func5, Try.ntmps5
  go_upto_region 1 with fail
  have hX0 : Blk ((w.alloc (.cells #[.slice A n c, .string H, .string S] 24)).alloc (.cells (arrC b8 F) 25)) w.heap.size 24 #[.slice A n c, .string H, .string S] := (Blk.new_ rfl).alloc _
  have hX1 : Blk ((w.alloc (.cells #[.slice A n c, .string H, .string S] 24)).alloc (.cells (arrC b8 F) 25)) (w.heap.size + 1) 25 (arrC b8 F) := Blk.new_ (by simp)
  have hB0 : Below w.heap.size w ((w.alloc (.cells #[.slice A n c, .string H, .string S] 24)).alloc (.cells (arrC b8 F) 25)) := ((Below.refl _ _).alloc (Nat.le_refl _) _).alloc (by simp) _
  generalize (w.alloc (.cells #[.slice A n c, .string H, .string S] 24)).alloc (.cells (arrC b8 F) 25) = w0 at hX0 hX1 hB0 ⊢
  have r0 : w0.cell? ⟨w.heap.size, 0, none⟩ = some (.slice A n c) := by rw [hX0.cell]; rfl
  have r1 : w0.cell? ⟨w.heap.size, 1, none⟩ = some (.string H) := by rw [hX0.cell]; rfl
  have r2 : w0.cell? ⟨w.heap.size, 2, none⟩ = some (.string S) := by rw [hX0.cell]; rfl
  have HX0 := Lib.hid hX0
  have HX1 := Lib.hid hX1
  have HB0 := Lib.hid hB0
  have hz0 := hB0.size
  have hl2 := hX1.lt
  clear hX0 hX1 hB0
  go_upto_region 3 with (go_at_call 7; refine (C.out w0).mono ?_; rintro e w1 ⟨rfl, hb1⟩; have X0_1 := Lib.hid (HX0.out.below hb1 HX0.out.lt); have X1_1 := Lib.hid (HX1.out.below hb1 HX1.out.lt); have HB_1 := Lib.hid (below_step HB0.out hb1); have hz_1 := hb1.size; clear hb1; have r10 : w1.cell? ⟨w.heap.size, 0, none⟩ = some (.slice A n c) := (by rw [X0_1.out.cell]; rfl); have r11 : w1.cell? ⟨w.heap.size, 1, none⟩ = some (.string H) := (by rw [X0_1.out.cell]; rfl); have r12 : w1.cell? ⟨w.heap.size, 2, none⟩ = some (.string S) := (by rw [X0_1.out.cell]; rfl))
  go_upto_region 4 with (go_at_call 9; refine (newVerifier_ok K n c A H S w1 (by omega) (by omega) HV.out ((HS.out.below HB_1.out).more HB_1.out.size) HN.out HA.out (by omega)).mono ?_; rintro e w2 ⟨bv, rfl, hzv, hb2, hV2⟩; have X0_2 := Lib.hid (X0_1.out.below hb2 X0_1.out.lt); have X1_2 := Lib.hid (X1_1.out.below hb2 X1_1.out.lt); have HB_2 := Lib.hid (below_step HB_1.out hb2); have hz_2 := hb2.size; clear hb2; have r20 : w2.cell? ⟨w.heap.size, 0, none⟩ = some (.slice A n c) := (by rw [X0_2.out.cell]; rfl); have r21 : w2.cell? ⟨w.heap.size, 1, none⟩ = some (.string H) := (by rw [X0_2.out.cell]; rfl); have r22 : w2.cell? ⟨w.heap.size, 2, none⟩ = some (.string S) := (by rw [X0_2.out.cell]; rfl); have Ev := Lib.hid hV2; clear hV2)
  go_upto_region 5 with (go_at_call 10; refine (newProver_ok K n c A H S w2 (by omega) (by omega) HV.out ((HS.out.below HB_2.out).more HB_2.out.size) HN.out HA.out (by omega)).mono ?_; rintro e w3 ⟨bp, rfl, hzp, hb3, hP3⟩; have X0_3 := Lib.hid (X0_2.out.below hb3 X0_2.out.lt); have X1_3 := Lib.hid (X1_2.out.below hb3 X1_2.out.lt); have Ev_3 := Lib.hid (Ev.out.below hb3); have HB_3 := Lib.hid (below_step HB_2.out hb3); have hz_3 := hb3.size; clear hb3; have Ep := Lib.hid hP3; clear hP3)
  have hvp : bp ≠ bv := Ev_3.out.ne Ep.out (by decide)
  have E1 : Hid ((Try.prog.info? 25).map (·.size) = some F.length) := by show _ = _; rw [HF.out]; exact a32_size
  go_upto_region 8 with (first
    | (with_reducible refine wpList_load_arr rfl 25 (.tmp 4) rfl (w.heap.size + 1) 0 rfl F _ (blk_range X1_3.out) Try.underlying25 rfl E1.out ?_)
    | (go_at_call 11; refine (challenge_ok K (List.replicate 32 0) F H S Hd.zero false false 9 queue bv w3 Ev_3.out hK0 (by simp) HF.out (by decide) (by decide) hqu).mono ?_; rintro e w4 ⟨s1, rfl, hO4, hg4, hV4⟩))
  have X0_4 := Lib.hid (X0_3.out.grown hg4 (by intro e; injection e with e; omega))
  have X1_4 := Lib.hid (X1_3.out.grown hg4 (by intro e; injection e with e; omega))
  have Ep_4 := Lib.hid (Ep.out.other Ev_3.out (by omega) (by decide) hg4)
  have HB_4 := Lib.hid (HB_3.out.grown hg4 HB_3.out.size (fun k e => by injection e with e; omega))
  have hz_4 := hg4.size
  have Ev_4 := Lib.hid hV4
  clear hg4 hV4
  obtain ⟨A1, c1, rfl, _, _, _⟩ := hO4.form8
  rw [msg_len1 _ _ HF.out] at hO4 ⊢
  have Om_4 := Lib.hid hO4
  clear hO4
  have okc : Hid (Hd.ok ⟨1, 0, queue, 9⟩) := ⟨show (1 : Nat) < 256 by omega, show (0 : Nat) < 256 by omega, hqu, show (9 : Nat) < 4294967296 by omega⟩
  have okr : Hid (Hd.ok ⟨2, 1, queue, 9⟩) := ⟨show (2 : Nat) < 256 by omega, show (1 : Nat) < 256 by omega, hqu, show (9 : Nat) < 4294967296 by omega⟩
  have oks : Hid (Hd.ok ⟨3, 1, queue, 9⟩) := ⟨show (3 : Nat) < 256 by omega, show (1 : Nat) < 256 by omega, hqu, show (9 : Nat) < 4294967296 by omega⟩
  have PE1 := Lib.hid (parE_one ⟨1, 0, queue, 9⟩ F 1 0 okc.out HF.out rfl (Nat.le_refl _) (by intro h; omega))
  have PH1 := Lib.hid (parH_msg ⟨1, 0, queue, 9⟩ [F] okc.out)
  have PL1 := Lib.hid (msg_len1 ⟨1, 0, queue, 9⟩ F HF.out)
  have PP1 := Lib.hid (parP_one ⟨1, 0, queue, 9⟩ F HF.out)
  go_upto_region 9 with (first
    | (with_reducible refine wpList_load_arr rfl 25 (.tmp 4) rfl (w.heap.size + 1) 0 rfl F _ (blk_range X1_4.out) Try.underlying25 rfl E1.out ?_)
    | (go_at_call 12; refine (answer_both K (List.replicate 32 0) F (msgB ⟨1, 0, queue, 9⟩ [F]) H S Hd.zero false false bp 40 c1 1 0 queue 9 A1 w4 Ep_4.out hK0 (by omega) (by simp) HF.out (by omega) (by omega) PL1.out.symm Om_4.out.sl PE1.out PH1.out).mono ?_; rintro e w5 ⟨s2, rfl, hO5, hg5, hP5⟩; rw [PP1.out] at hO5))
  generalize hRB : respB K H S F ⟨2, 1, queue, 9⟩ 72 = RB at hO5
  have hRl : RB.length = 32 := by rw [← hRB]; exact respB_len _ _ _ _ _ _
  have X0_5 := Lib.hid (X0_4.out.grown hg5 (by intro e; injection e with e; omega))
  have X1_5 := Lib.hid (X1_4.out.grown hg5 (by intro e; injection e with e; omega))
  have Ev_5 := Lib.hid (Ev_4.out.other Ep_4.out (by omega) (by decide) hg5)
  have Om_5 := Lib.hid (Om_4.out.other Ep_4.out (by decide) hg5)
  have HB_5 := Lib.hid (HB_4.out.grown hg5 HB_4.out.size (fun k e => by injection e with e; omega))
  have hz_5 := hg5.size
  have Ep_5 := Lib.hid hP5
  clear hg5 hP5
  obtain ⟨A2, c2, rfl, _, _, _⟩ := hO5.form8
  rw [msg_len2 _ _ _ hRl HF.out] at hO5 ⊢
  have PE2 := Lib.hid (parE_two ⟨2, 1, queue, 9⟩ RB F 2 1 okr.out hRl HF.out rfl (by show (1 : Nat) ≤ 1; omega) (by intro _ h; cases h))
  have PH2 := Lib.hid (parH_msg ⟨2, 1, queue, 9⟩ [RB, F] okr.out)
  have PL2 := Lib.hid (msg_len2 ⟨2, 1, queue, 9⟩ RB F hRl HF.out)
  have PR2 : Hid (sameB (parP (msgB ⟨2, 1, queue, 9⟩ [RB, F]) 0) (respB K H S F ⟨2, 1, queue, 9⟩ 72) = true) := by
    show _ = _
    rw [parP_two0 _ _ _ hRl, hRB]
    exact same_refl _
  have PQ2 := Lib.hid (parP_two1 ⟨2, 1, queue, 9⟩ RB F hRl HF.out)
  clear hRB hRl
  have Or_5 := Lib.hid hO5
  clear hO5
  go_upto_region 11 with (first
    | (go_at_call 17; refine (cpv_ok K F H S _ true false bv w5 Ev_5.out hK0 HF.out).mono ?_; rintro e w6 ⟨bx, rfl, hzx, hb6, hX6⟩; have hvx : bx ≠ bv := (by have := Ev_5.out.lt; omega); have Ex := Lib.hid hX6; clear hX6; have X0_6 := Lib.hid (X0_5.out.below hb6 X0_5.out.lt); have X1_6 := Lib.hid (X1_5.out.below hb6 X1_5.out.lt); have Ev_6 := Lib.hid (Ev_5.out.below hb6); have Ep_6 := Lib.hid (Ep_5.out.below hb6); have Om_6 := Lib.hid (Om_5.out.below hb6 (Nat.le_refl _)); have Or_6 := Lib.hid (Or_5.out.below hb6 (Nat.le_refl _)); have HB_6 := Lib.hid (below_step HB_5.out hb6); have hz_6 := hb6.size; clear hb6)
    | (go_at_call 19; refine (cpp_ok K F H S _ true false bp w6 Ep_6.out hK0 HF.out).mono ?_; rintro e w7 ⟨bz, rfl, hzz, hb7, hZ7⟩; have hpz : bz ≠ bp := (by have := Ep_6.out.lt; omega); have Ez := Lib.hid hZ7; clear hZ7; have X0_7 := Lib.hid (X0_6.out.below hb7 X0_6.out.lt); have X1_7 := Lib.hid (X1_6.out.below hb7 X1_6.out.lt); have Ev_7 := Lib.hid (Ev_6.out.below hb7); have Ep_7 := Lib.hid (Ep_6.out.below hb7); have Ex_7 := Lib.hid (Ex.out.below hb7); have Om_7 := Lib.hid (Om_6.out.below hb7 (Nat.le_refl _)); have Or_7 := Lib.hid (Or_6.out.below hb7 (Nat.le_refl _)); have HB_7 := Lib.hid (below_step HB_6.out hb7); have hz_7 := hb7.size; clear hb7))
  have hxz : bz ≠ bx := Ex_7.out.ne Ez.out (by decide)
  have hxp : bp ≠ bx := Ex_7.out.ne Ep_7.out (by decide)
  have hvz : bz ≠ bv := Ev_7.out.ne Ez.out (by decide)
  go_upto_region 13 with (go_at_call 15; refine (check_ok K F _ H S false bv 72 c2 2 1 queue 9 1 0 A2 w7 Ev_7.out hK0 (by omega) HF.out (by omega) (by omega) PL2.out.symm Or_7.out.sl PE2.out PH2.out PR2.out).mono ?_; rintro e w8 ⟨s3, rfl, hO8, hg8, hV8⟩; rw [PQ2.out] at hO8; rw [show ansB K H S F ⟨2, 1, queue, 9⟩ = respB K H S F ⟨2, 1, queue, 9⟩ 67 from if_pos rfl] at hO8)
  generalize hRC : respB K H S F ⟨2, 1, queue, 9⟩ 67 = RC at hO8
  have hRl : RC.length = 32 := by rw [← hRC]; exact respB_len _ _ _ _ _ _
  have X0_8 := Lib.hid (X0_7.out.grown hg8 (by intro e; injection e with e; omega))
  have X1_8 := Lib.hid (X1_7.out.grown hg8 (by intro e; injection e with e; omega))
  have Ep_8 := Lib.hid (Ep_7.out.other Ev_7.out (by omega) (by decide) hg8)
  have Ex_8 := Lib.hid (Ex_7.out.other Ev_7.out (by omega) (by decide) hg8)
  have Ez_8 := Lib.hid (Ez.out.other Ev_7.out (by omega) (by decide) hg8)
  have Om_8 := Lib.hid (Om_7.out.other Ev_7.out (by decide) hg8)
  have Or_8 := Lib.hid (Or_7.out.other Ev_7.out (by decide) hg8)
  have HB_8 := Lib.hid (HB_7.out.grown hg8 HB_7.out.size (fun k e => by injection e with e; omega))
  have hz_8 := hg8.size
  have Ev_8 := Lib.hid hV8
  clear hg8 hV8
  obtain ⟨A3, c3, rfl, _, _, _⟩ := hO8.form8
  rw [msg_len1 _ _ hRl] at hO8 ⊢
  have PE3 := Lib.hid (parE_one ⟨3, 1, queue, 9⟩ RC 3 1 oks.out hRl rfl (by show (1 : Nat) ≤ 1; omega) (by intro _ h; cases h))
  have PH3 := Lib.hid (parH_msg ⟨3, 1, queue, 9⟩ [RC] oks.out)
  have PL3 := Lib.hid (msg_len1 ⟨3, 1, queue, 9⟩ RC hRl)
  have PR3 : Hid (sameB (parP (msgB ⟨3, 1, queue, 9⟩ [RC]) 0) (respB K H S F ⟨2, 1, queue, 9⟩ 67) = true) := by
    show _ = _
    rw [parP_one _ _ hRl, hRC]
    exact same_refl _
  have HRC := Lib.hid hRC
  have HRL := Lib.hid hRl
  clear hRC hRl
  have Os_8 := Lib.hid hO8
  clear hO8
  go_upto_region 15 with (first
    | (go_at_call 16; refine (finish_two K F _ H S false bp 40 c3 3 queue 9 A3 w8 Ep_8.out hK0 HF.out (by omega) (by omega) (by omega) PL3.out.symm Os_8.out.sl PE3.out PH3.out PR3.out).mono ?_; rintro e w9 ⟨rfl, hg9, hP9⟩; have X0_9 := Lib.hid (X0_8.out.grown hg9 (by intro e; injection e with e; omega)); have X1_9 := Lib.hid (X1_8.out.grown hg9 (by intro e; injection e with e; omega)); have Ev_9 := Lib.hid (Ev_8.out.other Ep_8.out (by omega) (by decide) hg9); have Ex_9 := Lib.hid (Ex_8.out.other Ep_8.out (by omega) (by decide) hg9); have Ez_9 := Lib.hid (Ez_8.out.other Ep_8.out (by omega) (by decide) hg9); have Om_9 := Lib.hid (Om_8.out.other Ep_8.out (by decide) hg9); have Or_9 := Lib.hid (Or_8.out.other Ep_8.out (by decide) hg9); have Os_9 := Lib.hid (Os_8.out.other Ep_8.out (by decide) hg9); have HB_9 := Lib.hid (HB_8.out.grown hg9 HB_8.out.size (fun k e => by injection e with e; omega)); have hz_9 := hg9.size; have Ep_9 := Lib.hid hP9; clear hg9 hP9)
    | (go_at_call 13; refine (dnv_calls K F H S _ true false bx w9 Ex_9.out HF.out).mono ?_; rintro e w10 ⟨rfl, hb10⟩; have X0_10 := Lib.hid (X0_9.out.below hb10 X0_9.out.lt); have X1_10 := Lib.hid (X1_9.out.below hb10 X1_9.out.lt); have Ev_10 := Lib.hid (Ev_9.out.below hb10); have Ep_10 := Lib.hid (Ep_9.out.below hb10); have Ex_10 := Lib.hid (Ex_9.out.below hb10); have Ez_10 := Lib.hid (Ez_9.out.below hb10); have Om_10 := Lib.hid (Om_9.out.below hb10 (Nat.le_refl _)); have Or_10 := Lib.hid (Or_9.out.below hb10 (Nat.le_refl _)); have Os_10 := Lib.hid (Os_9.out.below hb10 (Nat.le_refl _)); have HB_10 := Lib.hid (below_step HB_9.out hb10); have hz_10 := hb10.size; clear hb10)
    | (go_at_call 14; refine (dnp_calls K F H S _ true false bz w10 Ez_10.out HF.out).mono ?_; rintro e w11 ⟨rfl, hb11⟩; have X0_11 := Lib.hid (X0_10.out.below hb11 X0_10.out.lt); have X1_11 := Lib.hid (X1_10.out.below hb11 X1_10.out.lt); have Ev_11 := Lib.hid (Ev_10.out.below hb11); have Ep_11 := Lib.hid (Ep_10.out.below hb11); have Ex_11 := Lib.hid (Ex_10.out.below hb11); have Ez_11 := Lib.hid (Ez_10.out.below hb11); have Om_11 := Lib.hid (Om_10.out.below hb11 (Nat.le_refl _)); have Or_11 := Lib.hid (Or_10.out.below hb11 (Nat.le_refl _)); have Os_11 := Lib.hid (Os_10.out.below hb11 (Nat.le_refl _)); have HB_11 := Lib.hid (below_step HB_10.out hb11); have hz_11 := hb11.size; clear hb11))
  go_upto_region 16 with (go_at_call 15; refine (check_ok K F _ H S false bx 72 c2 2 1 queue 9 1 0 A2 w11 Ex_11.out hK0 (by omega) HF.out (by omega) (by omega) PL2.out.symm Or_11.out.sl PE2.out PH2.out PR2.out).mono ?_; rintro e w12 ⟨s4, rfl, hO12, hg12, hV12⟩; rw [PQ2.out] at hO12; rw [show ansB K H S F ⟨2, 1, queue, 9⟩ = respB K H S F ⟨2, 1, queue, 9⟩ 67 from if_pos rfl] at hO12; rw [HRC.out] at hO12)
  have X0_12 := Lib.hid (X0_11.out.grown hg12 (by intro e; injection e with e; omega))
  have X1_12 := Lib.hid (X1_11.out.grown hg12 (by intro e; injection e with e; omega))
  have Ev_12 := Lib.hid (Ev_11.out.other Ex_11.out (by omega) (by decide) hg12)
  have Ep_12 := Lib.hid (Ep_11.out.other Ex_11.out (by omega) (by decide) hg12)
  have Ez_12 := Lib.hid (Ez_11.out.other Ex_11.out (by omega) (by decide) hg12)
  have Om_12 := Lib.hid (Om_11.out.other Ex_11.out (by decide) hg12)
  have Or_12 := Lib.hid (Or_11.out.other Ex_11.out (by decide) hg12)
  have Os_12 := Lib.hid (Os_11.out.other Ex_11.out (by decide) hg12)
  have HB_12 := Lib.hid (HB_11.out.grown hg12 HB_11.out.size (fun k e => by injection e with e; omega))
  have hz_12 := hg12.size
  have Ex_12 := Lib.hid hV12
  clear hg12 hV12
  obtain ⟨A4, c4, rfl, _, _, _⟩ := hO12.form8
  rw [PL3.out] at hO12 ⊢
  have Ot_12 := Lib.hid hO12
  clear hO12
  go_wp2_with (first
    | (go_at_call 20; refine (same_calls (msgB ⟨3, 1, queue, 9⟩ [RC]) A4 A3 40 40 c4 c3 w12 Ot_12.out.sl PL3.out.symm Os_12.out.sl PL3.out.symm).mono ?_; rintro e w13 ⟨rfl, rfl⟩)
    | (go_at_call 16; refine (finish_two K F _ H S false bz 40 c4 3 queue 9 A4 w12 Ez_12.out hK0 HF.out (by omega) (by omega) (by omega) PL3.out.symm Ot_12.out.sl PE3.out PH3.out PR3.out).mono ?_; rintro e w14 ⟨rfl, hg14, hP14⟩; have X0_13 := Lib.hid (X0_12.out.grown hg14 (by intro e; injection e with e; omega)); have X1_13 := Lib.hid (X1_12.out.grown hg14 (by intro e; injection e with e; omega)); have Ev_13 := Lib.hid (Ev_12.out.other Ez_12.out (by omega) (by decide) hg14); have Ep_13 := Lib.hid (Ep_12.out.other Ez_12.out (by omega) (by decide) hg14); have Ex_13 := Lib.hid (Ex_12.out.other Ez_12.out (by omega) (by decide) hg14); have Om_13 := Lib.hid (Om_12.out.other Ez_12.out (by decide) hg14); have Or_13 := Lib.hid (Or_12.out.other Ez_12.out (by decide) hg14); have Os_13 := Lib.hid (Os_12.out.other Ez_12.out (by decide) hg14); have Ot_13 := Lib.hid (Ot_12.out.other Ez_12.out (by decide) hg14); have HB_13 := Lib.hid (HB_12.out.grown hg14 HB_12.out.size (fun k e => by injection e with e; omega)); have hz_13 := hg14.size; have Ez_13 := Lib.hid hP14; clear hg14 hP14)
    | (go_at_call 13; refine (dnv_calls K F H S _ false true bx w14 Ex_13.out HF.out).mono ?_; rintro e w15 ⟨rfl, hb15⟩; have X0_14 := Lib.hid (X0_13.out.below hb15 X0_13.out.lt); have X1_14 := Lib.hid (X1_13.out.below hb15 X1_13.out.lt); have Ev_14 := Lib.hid (Ev_13.out.below hb15); have Ep_14 := Lib.hid (Ep_13.out.below hb15); have Ex_14 := Lib.hid (Ex_13.out.below hb15); have Ez_14 := Lib.hid (Ez_13.out.below hb15); have Om_14 := Lib.hid (Om_13.out.below hb15 (Nat.le_refl _)); have Or_14 := Lib.hid (Or_13.out.below hb15 (Nat.le_refl _)); have Os_14 := Lib.hid (Os_13.out.below hb15 (Nat.le_refl _)); have Ot_14 := Lib.hid (Ot_13.out.below hb15 (Nat.le_refl _)); have HB_14 := Lib.hid (below_step HB_13.out hb15); have hz_14 := hb15.size; clear hb15)
    | (go_at_call 14; refine (dnp_calls K F H S _ false true bz w15 Ez_14.out HF.out).mono ?_; rintro e w16 ⟨rfl, hb16⟩; have X0_15 := Lib.hid (X0_14.out.below hb16 X0_14.out.lt); have X1_15 := Lib.hid (X1_14.out.below hb16 X1_14.out.lt); have Ev_15 := Lib.hid (Ev_14.out.below hb16); have Ep_15 := Lib.hid (Ep_14.out.below hb16); have Ex_15 := Lib.hid (Ex_14.out.below hb16); have Ez_15 := Lib.hid (Ez_14.out.below hb16); have Om_15 := Lib.hid (Om_14.out.below hb16 (Nat.le_refl _)); have Or_15 := Lib.hid (Or_14.out.below hb16 (Nat.le_refl _)); have Os_15 := Lib.hid (Os_14.out.below hb16 (Nat.le_refl _)); have Ot_15 := Lib.hid (Ot_14.out.below hb16 (Nat.le_refl _)); have HB_15 := Lib.hid (below_step HB_14.out hb16); have hz_15 := hb16.size; clear hb16)
    | (go_at_call 8; refine (known_calls _).mono ?_; rintro e w17 ⟨rfl, hb17⟩))
  go_ret
  exact ⟨rfl, below_step HB_15.out hb17⟩
end Go.Proofs.Ytfamififoifagaa
