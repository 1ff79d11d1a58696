/- Contracts of auth: a response. -/
import Derived.Test.YtfamififoifagaaAuthP
namespace Go.Proofs.Ytfamififoifagaa
open Go.RowKit Words

/-- a name in a response -/
def nmB (s : ByteArray) : List UInt8 := leB s.size 2 ++ s.data.toList
def respF (h : Hd) (role : Nat) : List (Nat × Nat) := [(h.seq, 4), (h.queue, 2), (role, 1)]
/-- what is hashed for a response -/
def respM (H S : ByteArray) (N : List UInt8) (h : Hd) (role : Nat) : List UInt8 := N ++ fldB (respF h role) ++ nmB H ++ nmB S
def respB (K : List UInt8) (H S : ByteArray) (N : List UInt8) (h : Hd) (role : Nat) : List UInt8 := hmacF K (respM H S N h role)
theorem respB_len (K : List UInt8) (H S : ByteArray) (N : List UInt8) (h : Hd) (role : Nat) : (respB K H S N h role).length = 32 := hmacF_len _ _
theorem respF_ok {h : Hd} {role : Nat} (hh : h.ok) (hr : role < 256) : fldOk (respF h role) := by
  obtain ⟨h1, h2, h3, h4⟩ := hh
  intro f hf
  simp only [respF, List.mem_cons, List.not_mem_nil, or_false] at hf
  rcases hf with rfl | rfl | rfl <;> simp <;> omega
theorem respF_len (h : Hd) (role : Nat) : (fldB (respF h role)).length = 7 := by simp [respF, fldB, leB_len]
theorem nmB_len (s : ByteArray) : (nmB s).length = 2 + s.size := by unfold nmB; rw [List.length_append, leB_len, size_list]

set_option maxRecDepth 100000 in
set_option maxHeartbeats 4000000 in
theorem response_calls (K N : List UInt8) (n c : Nat) (A : Option Addr) (H S : ByteArray) (h : Hd) (role : Nat) (w : World) (hs : Sl w w.heap.size A (K.map b8)) (hn : n = K.length) (hK : K.length ≤ 100000) (hH : H.size ≤ 60000) (hS : S.size ≤ 60000) (hN : N.length = 32) (hh : h.ok) (hr : role < 256) :
    Calls Try.prog 28 #[.agg #[.slice A n c, .string H, .string S], .agg (arrC b8 N), .agg #[.int .u8 (h.kind : Nat), .int .u8 (h.flags : Nat), .int .u16 (h.queue : Nat), .int .u32 (h.seq : Nat)], .int .u8 (role : Nat)] w
      fun e w' => e = .returned (.agg (arrC b8 (respB K H S N h role))) ∧ Below w.heap.size w w' := by
  have i0 : ∀ wx, (Instr.index 85 (.agg #[.string H, .string S]) (.int .i64 0)).run Try.prog wx = .ok (.string H) wx := fun _ => by kernel_rfl
  have i1 : ∀ wx, (Instr.index 85 (.agg #[.string H, .string S]) (.int .i64 1)).run Try.prog wx = .ok (.string S) wx := fun _ => by kernel_rfl
  have hcv := fun s wx => Lib.run_convert_string_bytes (P := Try.prog) wx 9 22 5 s Try.underlying9 Try.underlying22 Try.underlying5
  have hF := respF_ok hh hr
  obtain ⟨h1, h2, h3, h4⟩ := hh
  have g3 : (h.queue : Int) < 65536 := by omega
  have g4 : (h.seq : Int) < 4294967296 := by omega
  have g5 : (role : Int) < 256 := by omega
  have HS := Lib.hid hs
  have HN := Lib.hid hn
  have HNL := Lib.hid hN
  clear hs hn hN
  go_enter Try.func28, Try.ntmps28
  go_upto_region 2 with fail
  change Code.wp _ _ _ _ (((((w.alloc (.cells #[.slice A n c, .string H, .string S] 52)).alloc (.cells (arrC b8 N) 25)).alloc (.cells #[.int .u8 (h.kind : Nat), .int .u8 (h.flags : Nat), .int .u16 (h.queue : Nat), .int .u32 (h.seq : Nat)] 54)).alloc (.cells (Array.replicate 32 (.int .u8 0)) 25)).alloc (.cells #[.slice none 0 0] 72))
  have hP : Blk (((((w.alloc (.cells #[.slice A n c, .string H, .string S] 52)).alloc (.cells (arrC b8 N) 25)).alloc (.cells #[.int .u8 (h.kind : Nat), .int .u8 (h.flags : Nat), .int .u16 (h.queue : Nat), .int .u32 (h.seq : Nat)] 54)).alloc (.cells (Array.replicate 32 (.int .u8 0)) 25)).alloc (.cells #[.slice none 0 0] 72)) w.heap.size 52 #[.slice A n c, .string H, .string S] := ((((Blk.new_ rfl).alloc _).alloc _).alloc _).alloc _
  have hX : Blk (((((w.alloc (.cells #[.slice A n c, .string H, .string S] 52)).alloc (.cells (arrC b8 N) 25)).alloc (.cells #[.int .u8 (h.kind : Nat), .int .u8 (h.flags : Nat), .int .u16 (h.queue : Nat), .int .u32 (h.seq : Nat)] 54)).alloc (.cells (Array.replicate 32 (.int .u8 0)) 25)).alloc (.cells #[.slice none 0 0] 72)) (w.heap.size + 1) 25 (arrC b8 N) := (((Blk.new_ (by simp)).alloc _).alloc _).alloc _
  have hD : Blk (((((w.alloc (.cells #[.slice A n c, .string H, .string S] 52)).alloc (.cells (arrC b8 N) 25)).alloc (.cells #[.int .u8 (h.kind : Nat), .int .u8 (h.flags : Nat), .int .u16 (h.queue : Nat), .int .u32 (h.seq : Nat)] 54)).alloc (.cells (Array.replicate 32 (.int .u8 0)) 25)).alloc (.cells #[.slice none 0 0] 72)) (w.heap.size + 1 + 1) 54 #[.int .u8 (h.kind : Nat), .int .u8 (h.flags : Nat), .int .u16 (h.queue : Nat), .int .u32 (h.seq : Nat)] := ((Blk.new_ (by simp)).alloc _).alloc _
  have hR : Blk (((((w.alloc (.cells #[.slice A n c, .string H, .string S] 52)).alloc (.cells (arrC b8 N) 25)).alloc (.cells #[.int .u8 (h.kind : Nat), .int .u8 (h.flags : Nat), .int .u16 (h.queue : Nat), .int .u32 (h.seq : Nat)] 54)).alloc (.cells (Array.replicate 32 (.int .u8 0)) 25)).alloc (.cells #[.slice none 0 0] 72)) (w.heap.size + 1 + 1 + 1) 25 (Array.replicate 32 (.int .u8 0)) := (Blk.new_ (by simp)).alloc _
  have hV : WrIs (((((w.alloc (.cells #[.slice A n c, .string H, .string S] 52)).alloc (.cells (arrC b8 N) 25)).alloc (.cells #[.int .u8 (h.kind : Nat), .int .u8 (h.flags : Nat), .int .u16 (h.queue : Nat), .int .u32 (h.seq : Nat)] 54)).alloc (.cells (Array.replicate 32 (.int .u8 0)) 25)).alloc (.cells #[.slice none 0 0] 72)) (w.heap.size + 1 + 1 + 1 + 1) (w.heap.size + 1 + 1 + 1 + 1) [] := ⟨_, Blk.new_ (by simp), OwnAt.nil _ _ _⟩
  have hbw : Below w.heap.size w (((((w.alloc (.cells #[.slice A n c, .string H, .string S] 52)).alloc (.cells (arrC b8 N) 25)).alloc (.cells #[.int .u8 (h.kind : Nat), .int .u8 (h.flags : Nat), .int .u16 (h.queue : Nat), .int .u32 (h.seq : Nat)] 54)).alloc (.cells (Array.replicate 32 (.int .u8 0)) 25)).alloc (.cells #[.slice none 0 0] 72)) := by go_grown
  have hz : (((((w.alloc (.cells #[.slice A n c, .string H, .string S] 52)).alloc (.cells (arrC b8 N) 25)).alloc (.cells #[.int .u8 (h.kind : Nat), .int .u8 (h.flags : Nat), .int .u16 (h.queue : Nat), .int .u32 (h.seq : Nat)] 54)).alloc (.cells (Array.replicate 32 (.int .u8 0)) 25)).alloc (.cells #[.slice none 0 0] 72)).heap.size = w.heap.size + 1 + 1 + 1 + 1 + 1 := by simp
  generalize (((((w.alloc (.cells #[.slice A n c, .string H, .string S] 52)).alloc (.cells (arrC b8 N) 25)).alloc (.cells #[.int .u8 (h.kind : Nat), .int .u8 (h.flags : Nat), .int .u16 (h.queue : Nat), .int .u32 (h.seq : Nat)] 54)).alloc (.cells (Array.replicate 32 (.int .u8 0)) 25)).alloc (.cells #[.slice none 0 0] 72)) = w5 at hP hX hD hR hV hbw hz ⊢
  generalize hb0 : w.heap.size + 1 + 1 + 1 + 1 = bw at hV hz ⊢
  have hz5 : bw < w5.heap.size := by omega
  have hbb : w.heap.size + 4 ≤ bw := by omega
  have C1 := Lib.hid (addBytes_arr [] N bw bw (w.heap.size + 1) 32 _ w5 hV hX HNL.out.symm (Nat.le_refl _) (by rw [HNL.out]; simp))
  rw [List.nil_append] at C1
  have HP := Lib.hid hP
  have HX := Lib.hid hX
  have HD := Lib.hid hD
  have HR := Lib.hid hR
  have HB := Lib.hid hbw
  have hE : fldC (respF h role) = [.int .u64 (h.seq : Nat), .int .i64 4, .int .u64 (h.queue : Nat), .int .i64 2, .int .u64 (role : Nat), .int .i64 1] := rfl
  have hE2 : (respF h role).length = 3 := rfl
  have hE3 := respF_len h role
  have hE4 : respM H S N h role = N ++ fldB (respF h role) ++ nmB H ++ nmB S := rfl
  generalize respF h role = F at hF hE hE2 hE3 hE4
  have HE := Lib.hid hE
  have HE2 := Lib.hid hE2
  have HE3 := Lib.hid hE3
  have HE4 := Lib.hid hE4
  clear hP hX hD hR hV hbw hz hb0 hE hE2 hE3 hE4
  go_upto_region 4 with (first
    | (go_at_call 32; refine C1.out.mono ?_; rintro e w6 ⟨rfl, hb6, hW6⟩; have hD6 := HD.out.below hb6 (by omega); have r2 : w6.cell? ⟨w.heap.size + 1 + 1, 2, none⟩ = some (.int .u16 (h.queue : Nat)) := (by rw [hD6.cell]; rfl); have r3 : w6.cell? ⟨w.heap.size + 1 + 1, 3, none⟩ = some (.int .u32 (h.seq : Nat)) := (by rw [hD6.cell]; rfl); have hz6 := hb6.size; have C2 := Lib.hid (addAll_new N F #[.int .u64 (h.seq : Nat), .int .i64 4, .int .u64 (h.queue : Nat), .int .i64 2, .int .u64 (role : Nat), .int .i64 1] bw bw w6.heap.size 3 w6 hW6 hF HE.out.symm rfl HE2.out.symm (by rw [HE2.out]; omega) (Nat.le_refl _) (by rw [HE2.out, HNL.out]; omega)); have HB6 := Lib.hid hb6; clear hb6 hW6 hD6 hF)
    | (go_at_call 31; refine C2.out.mono ?_; rintro e w7 ⟨rfl, hb7, hW7⟩))
  have HB7 := Lib.hid (HB6.out.trans hb7)
  have hz7 := hb7.size
  clear hb7
  have hP7 := HP.out.below HB7.out (by omega)
  have c1 : w7.cell? ⟨w.heap.size, 1, none⟩ = some (.string H) := by rw [hP7.cell]; rfl
  have c2 : w7.cell? ⟨w.heap.size, 2, none⟩ = some (.string S) := by rw [hP7.cell]; rfl
  have H8 : (H.size : Int) ≤ 60000 := by omega
  have S8 : (S.size : Int) ≤ 60000 := by omega
  have C3 := Lib.hid (wAdd_calls (N ++ fldB F) H.size 2 bw bw (by omega) (by omega) (by omega) w7 hW7 (Nat.le_refl _) (by simp only [List.length_append, HNL.out, HE3.out]; omega))
  clear hP7 hW7
  go_wp2_with fail
  refine wp_loop_rounds 3 ?_; rw [rounds_succ]
  go_wp2_with (first
    | (go_at_call 37; refine C3.out.mono ?_; rintro e w8 ⟨rfl, hbw8, hWw8⟩; have hzw8 := hbw8.size; have Cw9 := Lib.hid (addBytes_calls _ H.data.toList bw bw H.size (grownCap w8 H.size 0 5) (some ⟨w8.heap.size, 0, none⟩) (Lib.bytesWorld w8 5 H) (hWw8.below (below_conv w8 5 H)) (sl_conv w8 5 H) (size_list H).symm (Nat.le_refl _) (by rw [size_list]; simp only [List.length_append, leB_len, HNL.out, HE3.out]; omega)); have HBw8 := Lib.hid hbw8; clear hbw8 hWw8)
    | (go_at_call 32; refine Cw9.out.mono ?_; rintro e w9 ⟨rfl, hbw9, hWw9⟩))
  have HB9 := Lib.hid ((HB7.out.trans HBw8.out).trans (((below_conv w8 5 H).mono (by omega)).trans hbw9))
  have hz9 : w8.heap.size ≤ w9.heap.size := Nat.le_trans (by rw [Lib.bytesWorld_size]; omega) hbw9.size
  rw [List.append_assoc (N ++ fldB F)] at hWw9
  have C4 := Lib.hid (wAdd_calls (N ++ fldB F ++ nmB H) S.size 2 bw bw (by omega) (by omega) (by omega) w9 hWw9 (Nat.le_refl _) (by simp only [List.length_append, HNL.out, HE3.out, nmB_len]; omega))
  clear hbw9 hWw9 c1 c2
  rw [rounds_succ]
  go_wp2_with (first
    | (go_at_call 37; refine C4.out.mono ?_; rintro e w10 ⟨rfl, hbw10, hWw10⟩; have hzw10 := hbw10.size; have Cw11 := Lib.hid (addBytes_calls _ S.data.toList bw bw S.size (grownCap w10 S.size 0 5) (some ⟨w10.heap.size, 0, none⟩) (Lib.bytesWorld w10 5 S) (hWw10.below (below_conv w10 5 S)) (sl_conv w10 5 S) (size_list S).symm (Nat.le_refl _) (by rw [size_list]; simp only [List.length_append, leB_len, HNL.out, HE3.out, nmB_len]; omega)); have HBw10 := Lib.hid hbw10; clear hbw10 hWw10)
    | (go_at_call 32; refine Cw11.out.mono ?_; rintro e w11 ⟨rfl, hbw11, hWw11⟩))
  have HB11 := Lib.hid ((HB9.out.trans HBw10.out).trans (((below_conv w10 5 S).mono (by omega)).trans hbw11))
  have hz11 : w10.heap.size ≤ w11.heap.size := Nat.le_trans (by rw [Lib.bytesWorld_size]; omega) hbw11.size
  rw [List.append_assoc (N ++ fldB F ++ nmB H)] at hWw11
  rw [show N ++ fldB F ++ nmB H ++ (leB S.size 2 ++ S.data.toList) = respM H S N h role from HE4.out.symm] at hWw11
  clear hbw11
  rw [rounds_succ]
  go_wp2_with fail
  have hP11 := HP.out.below HB11.out (by omega)
  have c0 : w11.cell? ⟨w.heap.size, 0, none⟩ = some (.slice A n c) := by rw [hP11.cell]; rfl
  have hMl : (respM H S N h role).length ≤ 1000000 := by rw [HE4.out]; simp only [List.length_append, HNL.out, HE3.out, nmB_len]; omega
  have CB := Lib.hid (bytes_calls (respM H S N h role) bw bw w11.drew (by obtain ⟨v, h7, h8⟩ := hWw11; exact ⟨v, h7, h8⟩) (by omega))
  have hE5 : respB K H S N h role = hmacF K (respM H S N h role) := rfl
  generalize respM H S N h role = M at hMl CB hE5
  have hl5 := respB_len K H S N h role
  generalize hZ : respB K H S N h role = Z at hE5 hl5
  have HZ := Lib.hid hZ
  have HE5 := Lib.hid hE5
  have HL5 := Lib.hid hl5
  have hz11' : w5.heap.size ≤ w11.heap.size := HB11.out.size
  have HP11 := Lib.hid hP11
  clear hE5 hl5 hP11 hWw11 hZ
  refine wp_region_any (by kernel_rfl) ?_
  change wpAny _ _ _ _ _ _ _ (World.drew _)
  refine wpAny_take (i := 0) (v := .pointer (some ⟨w.heap.size, 0, none⟩)) rfl (by kernel_rfl) (by kernel_rfl) (by kernel_rfl) (fun _ _ _ h => h) (Or.inl ⟨by rfl, by intro w; go_simp⟩) ?_
  refine wpAny_ready (rs := [1, 2]) (by kernel_rfl) (by simp) ?_
  refine AllReady.cons rfl (fun K' hK' => ?_) (AllReady.cons rfl (fun K' hK' => ?_) AllReady.nil)
  · go_simp
    refine hK' _ _ ?_
    clear hK' K'
    go_simp
    refine wpAny_ready (rs := [2]) (by kernel_rfl) (by simp) ?_
    refine AllReady.cons rfl (fun K' hK' => ?_) AllReady.nil
    go_simp
    go_wp2_with (go_at_call 33; refine CB.out.mono ?_; rintro e w12 ⟨s, rfl, hO12, hb12⟩)
    obtain ⟨A12, d12, rfl, _, _, hs12⟩ := hO12.form8
    generalize hn12 : M.length = n12 at hs12 ⊢
    have hz12 : w11.heap.size ≤ w12.heap.size := hb12.size
    have hB12 : Below w.heap.size w w12 := below_step (HB.out.trans (HB11.out.mono (by omega))) (show Below w11.heap.size w11 w12 from ⟨hb12.os, hb12.tape, hb12.output, hb12.size, hb12.block⟩)
    have hR12 : Blk w12 (w.heap.size + 1 + 1 + 1) 25 (Array.replicate 32 (.int .u8 0)) := ((HR.out.below HB11.out (by omega)).drew).below hb12 (by show _ < w11.heap.size; omega)
    have c12 : w12.cell? ⟨w.heap.size, 0, none⟩ = some (.slice A n c) := by rw [(HP11.out.drew.below hb12 (by show _ < w11.heap.size; omega)).cell]; rfl
    have CH := Lib.hid (hmac_calls K M n c n12 d12 A A12 w12 ((HS.out.below hB12).more hB12.size) hs12 HN.out hn12.symm (by omega) hMl)
    have HB12 := Lib.hid hB12
    have HR12 := Lib.hid hR12
    clear hn12 hs12 hO12 hb12 hB12 hR12
    refine wpAny_ready (rs := [3]) (by kernel_rfl) (by simp) ?_
    refine AllReady.cons rfl (fun K' hK' => ?_) AllReady.nil
    refine step_call rfl (f := 38) rfl Try.func38 (by kernel_rfl) (by kernel_rfl) (by rw [List.map_toArray]; rfl) CH.out ?_
    intro w13 hb13
    have hR13 := HR12.out.below hb13 (by omega)
    have hB13 := below_step HB12.out hb13
    rw [← HE5.out]
    refine hK' _ _ ?_
    clear hK' K'
    go_simp
    refine wpAny_ready (rs := [4]) (by kernel_rfl) (by simp) ?_
    refine AllReady.cons rfl (fun K' hK' => ?_) AllReady.nil
    refine step_store_part rfl 25 (.tmp 8) (.tmp 46) rfl rfl rfl hR13 (by rw [arrC_size, HL5.out]; kernel_rfl) (by simp [arrC_size, HL5.out]) (arrC_one b8_one) ?_
    intro w14 hB14 hg14 hz14
    refine hK' _ _ ?_
    clear hK' K'
    refine wpAny_done (by kernel_rfl) ?_ _
    rw [spl_all _ _ (by rw [arrC_size, HL5.out]; rfl)] at hB14
    go_wp2_with fail
    exact ret_row rfl rfl hB14 Try.underlying25 rfl (by rw [arrC_size, HL5.out]; kernel_rfl) ⟨by rw [HZ.out], hB13.grown hg14 (Nat.le_trans HB12.out.size hb13.size) (fun k e => by injection e with e; omega)⟩ rfl
  · go_simp
    go_wp2_with (go_at_call 33; refine CB.out.mono ?_; rintro e w12 ⟨s, rfl, hO12, hb12⟩)
    obtain ⟨A12, d12, rfl, _, _, hs12⟩ := hO12.form8
    generalize hn12 : M.length = n12 at hs12 ⊢
    have hz12 : w11.heap.size ≤ w12.heap.size := hb12.size
    have hB12 : Below w.heap.size w w12 := below_step (HB.out.trans (HB11.out.mono (by omega))) (show Below w11.heap.size w11 w12 from ⟨hb12.os, hb12.tape, hb12.output, hb12.size, hb12.block⟩)
    have hR12 : Blk w12 (w.heap.size + 1 + 1 + 1) 25 (Array.replicate 32 (.int .u8 0)) := ((HR.out.below HB11.out (by omega)).drew).below hb12 (by show _ < w11.heap.size; omega)
    have c12 : w12.cell? ⟨w.heap.size, 0, none⟩ = some (.slice A n c) := by rw [(HP11.out.drew.below hb12 (by show _ < w11.heap.size; omega)).cell]; rfl
    have CH := Lib.hid (hmac_calls K M n c n12 d12 A A12 w12 ((HS.out.below hB12).more hB12.size) hs12 HN.out hn12.symm (by omega) hMl)
    have HB12 := Lib.hid hB12
    have HR12 := Lib.hid hR12
    clear hn12 hs12 hO12 hb12 hB12 hR12
    refine wpAny_ready (rs := [1]) (by kernel_rfl) (by simp) ?_
    refine AllReady.cons rfl (fun K' hK' => ?_) AllReady.nil
    go_simp
    refine hK' _ _ ?_
    clear hK' K'
    go_simp
    refine wpAny_ready (rs := [3]) (by kernel_rfl) (by simp) ?_
    refine AllReady.cons rfl (fun K' hK' => ?_) AllReady.nil
    refine step_call rfl (f := 38) rfl Try.func38 (by kernel_rfl) (by kernel_rfl) (by rw [List.map_toArray]; rfl) CH.out ?_
    intro w13 hb13
    have hR13 := HR12.out.below hb13 (by omega)
    have hB13 := below_step HB12.out hb13
    rw [← HE5.out]
    refine hK' _ _ ?_
    clear hK' K'
    go_simp
    refine wpAny_ready (rs := [4]) (by kernel_rfl) (by simp) ?_
    refine AllReady.cons rfl (fun K' hK' => ?_) AllReady.nil
    refine step_store_part rfl 25 (.tmp 8) (.tmp 46) rfl rfl rfl hR13 (by rw [arrC_size, HL5.out]; kernel_rfl) (by simp [arrC_size, HL5.out]) (arrC_one b8_one) ?_
    intro w14 hB14 hg14 hz14
    refine hK' _ _ ?_
    clear hK' K'
    refine wpAny_done (by kernel_rfl) ?_ _
    rw [spl_all _ _ (by rw [arrC_size, HL5.out]; rfl)] at hB14
    go_wp2_with fail
    exact ret_row rfl rfl hB14 Try.underlying25 rfl (by rw [arrC_size, HL5.out]; kernel_rfl) ⟨by rw [HZ.out], hB13.grown hg14 (Nat.le_trans HB12.out.size hb13.size) (fun k e => by injection e with e; omega)⟩ rfl
end Go.Proofs.Ytfamififoifagaa
