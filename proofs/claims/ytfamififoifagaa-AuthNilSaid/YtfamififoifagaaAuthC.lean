/- Contracts of auth: Check. -/
import Derived.Test.YtfamififoifagaaAuthS
namespace Go.Proofs.Ytfamififoifagaa
open Go.RowKit Words

/-- what a verifier sends back -/
def ansB (K : List UInt8) (H S : ByteArray) (M : List UInt8) (h : Hd) : List UInt8 := if h.flags = 1 then respB K H S M h 67 else List.replicate 32 0
def CkOk (b : Nat) (K : List UInt8) (H S : ByteArray) (last : Hd) (N : List UInt8) (h : Hd) (ans : List UInt8) (w : World) (e : Ending) (w' : World) : Prop :=
  ∃ s, e = .returned (.tuple #[s, .int .i64 0]) ∧ OwnAt w' w.heap.size 5 s ((msgB h [ans]).map b8) ∧ w.grownBy w' (some b) ∧ EndIs 56 w' b K H S last N false true
set_option maxRecDepth 100000 in
set_option maxHeartbeats 4000000 in
theorem check_ok (K N l : List UInt8) (H S : ByteArray) (d : Bool) (b L c a0 a1 a2 a3 lk lf : Nat) (A : Option Addr) (w : World) (hE : EndIs 56 w b K H S ⟨lk, lf, a2, a3⟩ N true d) (hK : 0 < K.length) (hKl : K.length ≤ 100000) (hN : N.length = 32) (hH : H.size ≤ 60000) (hS : S.size ≤ 60000)
    (hL : L = l.length) (hs : Sl w w.heap.size A (l.map b8)) (hPE : parE l 2 1 2 = 0) (hPH : parH l = ⟨a0, a1, a2, a3⟩) (hR : sameB (parP l 0) (respB K H S N ⟨a0, a1, a2, a3⟩ 72) = true) :
    Calls Try.prog 15 #[.pointer (some ⟨b, 0, none⟩), .slice A L c] w (CkOk b K H S ⟨lk, lf, a2, a3⟩ N ⟨3, a1, a2, a3⟩ (ansB K H S (parP l 1) ⟨a0, a1, a2, a3⟩) w) := by
  have hbl := hE.lt
  obtain ⟨v, hB, hO⟩ := hE
  obtain ⟨A1, c1, rfl, _, _, hs1⟩ := hO.form8
  have HKL := Lib.hid (rfl : K.length = K.length)
  generalize hnk : K.length = nk at hB hO hK hKl HKL
  have HNK := Lib.hid hnk
  have c0 : w.cell? ⟨b, 0, none⟩ = some (.slice A1 nk c1) := by rw [hB.cell]; rfl
  have c1' : w.cell? ⟨b, 1, none⟩ = some (.string H) := by rw [hB.cell]; rfl
  have c2 : w.cell? ⟨b, 2, none⟩ = some (.string S) := by rw [hB.cell]; rfl
  have HB := Lib.hid hB
  have HO := Lib.hid hO
  have HS := Lib.hid hs
  have HS1 := Lib.hid hs1
  have HNL := Lib.hid hN
  have HL := Lib.hid hL
  have HE := Lib.hid hPE
  have HH := Lib.hid hPH
  have HLL := Lib.hid (parE_len hPE)
  have HRS := Lib.hid hR
  clear hB hO hs hN hL hPE hPH hs1 hnk HKL hR
  go_enter Try.func15, Try.ntmps15
  go_upto_region 4 with (first
    | (go_at_call 25; refine (none_calls nk c1 A1 H S w hK).mono ?_; rintro e w2 ⟨rfl, hb2⟩; have HB2 := Lib.hid (HB.out.below hb2 hbl); have HBB2 := Lib.hid hb2; have hz2 := hb2.size; have CP := Lib.hid (parsed_yes l L c 2 1 2 a0 a1 a2 a3 A w2 (by omega) (by omega) HL.out ((HS.out.below hb2).more hb2.size) (by omega) (by omega) HE.out HH.out); clear hb2)
    | (go_at_call 27; refine CP.out.mono ?_; rintro e w3 ⟨gp, cp, rfl, hb3, hp1, hp2, hr3⟩; have hz3 := hb3.size; have HB3 := Lib.hid (HB2.out.below hb3 (by omega)); have HBB3 := Lib.hid (below_step HBB2.out hb3); have HR3 := Lib.hid hr3; clear hb3 hr3))
  have hD4 : Blk (w3.alloc (.cells #[.int .u8 (a0 : Nat), .int .u8 (a1 : Nat), .int .u16 (a2 : Nat), .int .u32 (a3 : Nat)] 54)) w3.heap.size 54 #[.int .u8 (a0 : Nat), .int .u8 (a1 : Nat), .int .u16 (a2 : Nat), .int .u32 (a3 : Nat)] := Blk.new_ rfl
  have hB4 := HB3.out.alloc (.cells #[.int .u8 (a0 : Nat), .int .u8 (a1 : Nat), .int .u16 (a2 : Nat), .int .u32 (a3 : Nat)] 54)
  have hb4 : Below w3.heap.size w3 (w3.alloc (.cells #[.int .u8 (a0 : Nat), .int .u8 (a1 : Nat), .int .u16 (a2 : Nat), .int .u32 (a3 : Nat)] 54)) := (Below.refl _ _).alloc (Nat.le_refl _) _
  generalize w3.alloc (.cells #[.int .u8 (a0 : Nat), .int .u8 (a1 : Nat), .int .u16 (a2 : Nat), .int .u32 (a3 : Nat)] 54) = w4 at hD4 hB4 hb4 ⊢
  have hz4 := hb4.size
  have HBB4 := Lib.hid (below_step HBB3.out hb4)
  have HR4 : Hid (∀ i, i < 2 → w4.rangeAt gp (i * 32) ((parP l i).map b8)) := fun i hi => rangeAt_keep (HR3.out i hi) (hb4.block gp hp2)
  generalize w3.heap.size = gh at hD4 hp2 hz3 hz4 hb4 ⊢
  have hghl := hD4.lt
  have q39 : w4.cell? ⟨b, 39, none⟩ = some (.bool true) := by rw [hB4.cell, endC_open HNL.out]
  have f4 := hB4.frozen
  have HD4 := Lib.hid hD4
  have HB4 := Lib.hid hB4
  clear hD4 hB4 hb4 c0 c1' c2
  have hbgh : b ≠ gh := by omega
  have hgpgh : gp ≠ gh := by omega
  go_upto_region 9 with fail
  have hB5 : Blk (w4.setCell ⟨b, 39, none⟩ (.bool false)) b 56 (endC (.slice A1 nk c1) H S ⟨lk, lf, a2, a3⟩ N false d).toArray := Blk.of_eq (HB4.out.set_ 39 _) (endC_setOpen HNL.out false)
  have hg5 : w4.grownBy (w4.setCell ⟨b, 39, none⟩ (.bool false)) (some b) := Lib.grownBy_setB (World.grownBy.refl w4 _) 39 _
  generalize w4.setCell ⟨b, 39, none⟩ (.bool false) = w5 at hB5 hg5 ⊢
  have HB5 := Lib.hid hB5
  have HD5 := Lib.hid (HD4.out.grown hg5 (by intro e; injection e with e; omega))
  have HR5 : Hid (∀ i, i < 2 → w5.rangeAt gp (i * 32) ((parP l i).map b8)) := fun i hi => rangeAt_keep (HR4.out i hi) (hg5.block gp (by omega) (by intro e; injection e with e; omega))
  have HG5 := Lib.hid (Lib.grownBy_trans (Lib.grownBy_below (World.grownBy.refl w (some b)) HBB4.out) hg5)
  have hz5 := hg5.size
  clear hB5 hg5 q39 f4
  refine wp_region_held (S := fun wx : World => Blk wx b 56 (endC (.slice A1 nk c1) H S ⟨lk, lf, a2, a3⟩ N false d).toArray ∧ Blk wx gh 54 #[.int .u8 (a0 : Nat), .int .u8 (a1 : Nat), .int .u16 (a2 : Nat), .int .u32 (a3 : Nat)] ∧ ∀ i, i < 2 → wx.rangeAt gp (i * 32) ((parP l i).map b8)) (by kernel_rfl) ?_
  change wpAnyH _ _ _ _ _ _ _ _ (World.drew _)
  refine wpAnyH_take (i := 0) (v := .pointer (some ⟨gh, 2, none⟩)) rfl (by kernel_rfl) (by kernel_rfl) (by kernel_rfl) (fun _ _ _ h => h) (Or.inl ⟨by rfl, by intro w _; go_simp⟩) ⟨HB5.out.drew, HD5.out.drew, HR5.out⟩ ?_
  refine wpAnyH_take (i := 1) (v := .int .u16 (a2 : Nat)) rfl (by kernel_rfl) (by kernel_rfl) (by kernel_rfl) (fun _ _ _ h => h) (Or.inl ⟨by rfl, by intro wz hz; have hc : wz.cell? ⟨gh, 2, none⟩ = some (.int .u16 (a2 : Nat)) := (by rw [hz.2.1.cell]; rfl); go_simp⟩) ⟨HB5.out.drew, HD5.out.drew, HR5.out⟩ ?_
  refine wpAnyH_take (i := 2) (v := .pointer (some ⟨b, 0, none⟩)) rfl (by kernel_rfl) (by kernel_rfl) (by kernel_rfl) (fun _ _ _ h => h) (Or.inl ⟨by rfl, by intro w _; go_simp⟩) ⟨HB5.out.drew, HD5.out.drew, HR5.out⟩ ?_
  go_simp
  refine wpAnyH_take (i := 3) (v := .pointer (some ⟨b, 0, none⟩)) rfl (by kernel_rfl) (by kernel_rfl) (by kernel_rfl) (fun _ _ _ h => h) (Or.inl ⟨by rfl, by intro w _; go_simp⟩) ⟨HB5.out.drew, HD5.out.drew, HR5.out⟩ ?_
  refine wpAnyH_take (i := 4) (v := .pointer (some ⟨b, 3, none⟩)) rfl (by kernel_rfl) (by kernel_rfl) (by kernel_rfl) (fun _ _ _ h => h) (Or.inl ⟨by rfl, by intro w _; go_simp⟩) ⟨HB5.out.drew, HD5.out.drew, HR5.out⟩ ?_
  refine wpAnyH_take (i := 5) (v := .pointer (some ⟨b, 5, none⟩)) rfl (by kernel_rfl) (by kernel_rfl) (by kernel_rfl) (fun _ _ _ h => h) (Or.inl ⟨by rfl, by intro w _; go_simp⟩) ⟨HB5.out.drew, HD5.out.drew, HR5.out⟩ ?_
  go_simp
  refine wpAnyH_take (i := 6) (v := .int .u16 (a2 : Nat)) rfl (by kernel_rfl) (by kernel_rfl) (by kernel_rfl) (fun _ _ _ h => h) (Or.inl ⟨by rfl, by intro wz hz; have hc : wz.cell? ⟨b, 5, none⟩ = some (.int .u16 (a2 : Nat)) := (by rw [hz.1.cell]; rfl); go_simp⟩) ⟨HB5.out.drew, HD5.out.drew, HR5.out⟩ ?_
  refine wpAnyH_take (i := 7) (v := .bool false) rfl (by kernel_rfl) (by kernel_rfl) (by kernel_rfl) (fun _ _ _ h => h) (Or.inl ⟨by rfl, by intro w _; go_simp⟩) ⟨HB5.out.drew, HD5.out.drew, HR5.out⟩ ?_
  refine wpAnyH_take (i := 8) (v := .bool false) rfl (by kernel_rfl) (by kernel_rfl) (by kernel_rfl) (fun _ _ _ h => h) (Or.inl ⟨by rfl, by intro w _; go_simp⟩) ⟨HB5.out.drew, HD5.out.drew, HR5.out⟩ ?_
  go_simp
  refine wpAnyH_take (i := 9) (v := .pointer (some ⟨gh, 3, none⟩)) rfl (by kernel_rfl) (by kernel_rfl) (by kernel_rfl) (fun _ _ _ h => h) (Or.inl ⟨by rfl, by intro w _; go_simp⟩) ⟨HB5.out.drew, HD5.out.drew, HR5.out⟩ ?_
  refine wpAnyH_take (i := 10) (v := .int .u32 (a3 : Nat)) rfl (by kernel_rfl) (by kernel_rfl) (by kernel_rfl) (fun _ _ _ h => h) (Or.inl ⟨by rfl, by intro wz hz; have hc : wz.cell? ⟨gh, 3, none⟩ = some (.int .u32 (a3 : Nat)) := (by rw [hz.2.1.cell]; rfl); go_simp⟩) ⟨HB5.out.drew, HD5.out.drew, HR5.out⟩ ?_
  refine wpAnyH_take (i := 11) (v := .pointer (some ⟨b, 0, none⟩)) rfl (by kernel_rfl) (by kernel_rfl) (by kernel_rfl) (fun _ _ _ h => h) (Or.inl ⟨by rfl, by intro w _; go_simp⟩) ⟨HB5.out.drew, HD5.out.drew, HR5.out⟩ ?_
  go_simp
  refine wpAnyH_take (i := 12) (v := .pointer (some ⟨b, 0, none⟩)) rfl (by kernel_rfl) (by kernel_rfl) (by kernel_rfl) (fun _ _ _ h => h) (Or.inl ⟨by rfl, by intro w _; go_simp⟩) ⟨HB5.out.drew, HD5.out.drew, HR5.out⟩ ?_
  go_simp
  refine wpAnyH_take (i := 13) (v := .pointer (some ⟨b, 3, none⟩)) rfl (by kernel_rfl) (by kernel_rfl) (by kernel_rfl) (fun _ _ _ h => h) (Or.inl ⟨by rfl, by intro w _; go_simp⟩) ⟨HB5.out.drew, HD5.out.drew, HR5.out⟩ ?_
  refine wpAnyH_take (i := 14) (v := .pointer (some ⟨b, 6, none⟩)) rfl (by kernel_rfl) (by kernel_rfl) (by kernel_rfl) (fun _ _ _ h => h) (Or.inl ⟨by rfl, by intro w _; go_simp⟩) ⟨HB5.out.drew, HD5.out.drew, HR5.out⟩ ?_
  go_simp
  refine wpAnyH_take (i := 15) (v := .int .u32 (a3 : Nat)) rfl (by kernel_rfl) (by kernel_rfl) (by kernel_rfl) (fun _ _ _ h => h) (Or.inl ⟨by rfl, by intro wz hz; have hc : wz.cell? ⟨b, 6, none⟩ = some (.int .u32 (a3 : Nat)) := (by rw [hz.1.cell]; rfl); go_simp⟩) ⟨HB5.out.drew, HD5.out.drew, HR5.out⟩ ?_
  refine wpAnyH_take (i := 16) (v := .bool false) rfl (by kernel_rfl) (by kernel_rfl) (by kernel_rfl) (fun _ _ _ h => h) (Or.inl ⟨by rfl, by intro w _; go_simp⟩) ⟨HB5.out.drew, HD5.out.drew, HR5.out⟩ ?_
  go_simp
  refine wpAnyH_take (i := 17) (v := .bool false) rfl (by kernel_rfl) (by kernel_rfl) (by kernel_rfl) (fun _ _ _ h => h) (Or.inl ⟨by rfl, by intro w _; go_simp⟩) ⟨HB5.out.drew, HD5.out.drew, HR5.out⟩ ?_
  go_simp
  refine wpAnyH_take (i := 18) (v := .bool false) rfl (by kernel_rfl) (by kernel_rfl) (by kernel_rfl) (fun _ _ _ h => h) (Or.inl ⟨by rfl, by intro w _; go_simp⟩) ⟨HB5.out.drew, HD5.out.drew, HR5.out⟩ ?_
  refine wpAnyH_done (by kernel_rfl) ?_ _
  go_upto_region 11 with fail
  go_simp
  have HO5 := Lib.hid (HO.out.grown HG5.out (Or.inr (HO.out.ne HB.out (by decide))))
  have CR := Lib.hid (response_calls K N nk c1 A1 H S ⟨a0, a1, a2, a3⟩ 72 w5.drew.drew (OwnAt.sl (w := w5.drew.drew) (OwnAt.drew (OwnAt.drew HO5.out))) HNK.out.symm (by rw [HNK.out]; exact hKl) hH hS HNL.out (HH.out ▸ parH_ok l) (by omega))
  have HP0 := Lib.hid (parP_len l 2 0 HLL.out (by omega))
  have HP1 := Lib.hid (parP_len l 2 1 HLL.out (by omega))
  refine wp_region_held (S := fun wx : World => Blk wx b 56 (endC (.slice A1 nk c1) H S ⟨lk, lf, a2, a3⟩ N false d).toArray ∧ Blk wx gh 54 #[.int .u8 (a0 : Nat), .int .u8 (a1 : Nat), .int .u16 (a2 : Nat), .int .u32 (a3 : Nat)] ∧ ∀ i, i < 2 → wx.rangeAt gp (i * 32) ((parP l i).map b8)) (by kernel_rfl) ?_
  change wpAnyH _ _ _ _ _ _ _ _ (World.drew _)
  refine wpAnyH_take (i := 0) (v := .slice (some ⟨gp, 0, none⟩) 2 cp) rfl (by kernel_rfl) (by kernel_rfl) (by kernel_rfl) (fun _ _ _ h => h) (Or.inl ⟨by rfl, by intro w _; go_simp⟩) ⟨HB5.out.drew.drew, HD5.out.drew.drew, HR5.out⟩ ?_
  refine wpAnyH_take (i := 1) (v := .pointer (some ⟨gp, 0, none⟩)) rfl (by kernel_rfl) (by kernel_rfl) (by kernel_rfl) (fun _ _ _ h => h) (Or.inl ⟨by rfl, by intro w _; go_simp⟩) ⟨HB5.out.drew.drew, HD5.out.drew.drew, HR5.out⟩ ?_
  refine wpAnyH_take (i := 2) (v := .agg (arrC b8 (parP l 0))) rfl (by kernel_rfl) (by kernel_rfl) (by kernel_rfl) (fun _ _ _ h => h) (yields_load (by rfl) 25 (.tmp 59) rfl gp 0 (by rfl) ((parP l 0).map b8) _ (fun _ h => by have := h.2.2 0 (by omega); simpa using this) Try.underlying25 rfl (by rw [List.length_map, HP0.out]; exact a32_size)) ⟨HB5.out.drew.drew, HD5.out.drew.drew, HR5.out⟩ ?_
  go_simp
  refine wpAnyH_take (i := 3) (v := .pointer (some ⟨b, 0, none⟩)) rfl (by kernel_rfl) (by kernel_rfl) (by kernel_rfl) (fun _ _ _ h => h) (Or.inl ⟨by rfl, by intro w _; go_simp⟩) ⟨HB5.out.drew.drew, HD5.out.drew.drew, HR5.out⟩ ?_
  refine wpAnyH_take (i := 4) (v := .pointer (some ⟨b, 0, none⟩)) rfl (by kernel_rfl) (by kernel_rfl) (by kernel_rfl) (fun _ _ _ h => h) (Or.inl ⟨by rfl, by intro w _; go_simp⟩) ⟨HB5.out.drew.drew, HD5.out.drew.drew, HR5.out⟩ ?_
  refine wpAnyH_take (i := 5) (v := .pointer (some ⟨b, 0, none⟩)) rfl (by kernel_rfl) (by kernel_rfl) (by kernel_rfl) (fun _ _ _ h => h) (Or.inl ⟨by rfl, by intro w _; go_simp⟩) ⟨HB5.out.drew.drew, HD5.out.drew.drew, HR5.out⟩ ?_
  go_simp
  refine wpAnyH_take (i := 6) (v := .agg #[.slice A1 nk c1, .string H, .string S]) rfl (by kernel_rfl) (by kernel_rfl) (by kernel_rfl) (fun _ _ _ h => h) (yields_load (by rfl) 52 (.tmp 63) rfl b 0 (by rfl) [.slice A1 nk c1, .string H, .string S] _ (fun _ h => end_range_party h.1) Try.underlying52 rfl party_size) ⟨HB5.out.drew.drew, HD5.out.drew.drew, HR5.out⟩ ?_
  refine wpAnyH_take (i := 7) (v := .pointer (some ⟨b, 0, none⟩)) rfl (by kernel_rfl) (by kernel_rfl) (by kernel_rfl) (fun _ _ _ h => h) (Or.inl ⟨by rfl, by intro w _; go_simp⟩) ⟨HB5.out.drew.drew, HD5.out.drew.drew, HR5.out⟩ ?_
  refine wpAnyH_take (i := 8) (v := .pointer (some ⟨b, 0, none⟩)) rfl (by kernel_rfl) (by kernel_rfl) (by kernel_rfl) (fun _ _ _ h => h) (Or.inl ⟨by rfl, by intro w _; go_simp⟩) ⟨HB5.out.drew.drew, HD5.out.drew.drew, HR5.out⟩ ?_
  go_simp
  refine wpAnyH_take (i := 9) (v := .pointer (some ⟨b, 7, none⟩)) rfl (by kernel_rfl) (by kernel_rfl) (by kernel_rfl) (fun _ _ _ h => h) (Or.inl ⟨by rfl, by intro w _; go_simp⟩) ⟨HB5.out.drew.drew, HD5.out.drew.drew, HR5.out⟩ ?_
  refine wpAnyH_take (i := 10) (v := .agg (arrC b8 N)) rfl (by kernel_rfl) (by kernel_rfl) (by kernel_rfl) (fun _ _ _ h => h) (yields_load (by rfl) 25 (.tmp 67) rfl b 7 (by rfl) (N.map b8) _ (fun _ h => end_range_nonce h.1) Try.underlying25 rfl (by rw [List.length_map, HNL.out]; exact a32_size)) ⟨HB5.out.drew.drew, HD5.out.drew.drew, HR5.out⟩ ?_
  refine wpAnyH_take (i := 11) (v := .agg #[.int .u8 (a0 : Nat), .int .u8 (a1 : Nat), .int .u16 (a2 : Nat), .int .u32 (a3 : Nat)]) rfl (by kernel_rfl) (by kernel_rfl) (by kernel_rfl) (fun _ _ _ h => h) (yields_load (by rfl) 54 (.tmp 6) rfl gh 0 (by rfl) [.int .u8 (a0 : Nat), .int .u8 (a1 : Nat), .int .u16 (a2 : Nat), .int .u32 (a3 : Nat)] _ (fun _ h => blk_range h.2.1) Try.underlying54 rfl head_size) ⟨HB5.out.drew.drew, HD5.out.drew.drew, HR5.out⟩ ?_
  go_simp
  refine heldOne (i := 12) (by kernel_rfl) rfl (fun K' hK' => ?_)
  refine step_call rfl (f := 28) rfl Try.func28 (by kernel_rfl) (by kernel_rfl) (by rw [List.map_toArray]; rfl) CR.out ?_
  intro w7 hb7
  have HB7 := Lib.hid (HB5.out.drew.drew.below hb7 HB5.out.lt)
  have HD7 := Lib.hid (HD5.out.drew.drew.below hb7 HD5.out.lt)
  have HR7 : Hid (∀ i, i < 2 → w7.rangeAt gp (i * 32) ((parP l i).map b8)) := fun i hi => rangeAt_keep (HR5.out i hi) (hb7.block gp (by show gp < w5.heap.size; omega))
  have HG7 := Lib.hid (Lib.grownBy_below (grown_drew (grown_drew HG5.out)) hb7)
  have HO7 := Lib.hid ((OwnAt.drew (OwnAt.drew HO5.out)).below hb7 (Nat.le_refl _))
  have hz7 : w5.heap.size ≤ w7.heap.size := hb7.size
  clear hb7
  refine hK' _ _ ⟨HB7.out, HD7.out, HR7.out⟩ ?_
  clear hK' K'
  go_simp
  refine heldOne (i := 13) (by kernel_rfl) rfl (fun K' hK' => ?_)
  refine step_neq_arr rfl (.tmp 60) (.tmp 70) _ rfl (parP l 0) (respB K H S N ⟨a0, a1, a2, a3⟩ 72) rfl rfl HP0.out (respB_len _ _ _ _ _ _) ?_
  rw [HRS.out]
  refine hK' _ _ ⟨HB7.out, HD7.out, HR7.out⟩ ?_
  clear hK' K'
  go_simp
  refine wpAnyH_take (i := 14) (v := .bool false) rfl (by kernel_rfl) (by kernel_rfl) (by kernel_rfl) (fun _ _ _ h => h) (Or.inl ⟨by rfl, by intro w _; go_simp⟩) ⟨HB7.out, HD7.out, HR7.out⟩ ?_
  go_simp
  refine wpAnyH_done (by kernel_rfl) ?_ _
  have q40 : w7.cell? ⟨b, 40, none⟩ = some (.bool d) := by rw [HB7.out.cell, endC_done HNL.out]
  have f7 := HB7.out.frozen
  go_upto_region 14 with fail
  have hB8 : Blk (w7.setCell ⟨b, 40, none⟩ (.bool true)) b 56 (endC (.slice A1 nk c1) H S ⟨lk, lf, a2, a3⟩ N false true).toArray := Blk.of_eq (HB7.out.set_ 40 _) (endC_setDone HNL.out true)
  have hg8 : w7.grownBy (w7.setCell ⟨b, 40, none⟩ (.bool true)) (some b) := Lib.grownBy_setB (World.grownBy.refl w7 _) 40 _
  generalize w7.setCell ⟨b, 40, none⟩ (.bool true) = w8 at hB8 hg8 ⊢
  have HB8 := Lib.hid hB8
  have HD8 := Lib.hid (HD7.out.grown hg8 (by intro e; injection e with e; omega))
  have HR8 : Hid (∀ i, i < 2 → w8.rangeAt gp (i * 32) ((parP l i).map b8)) := fun i hi => rangeAt_keep (HR7.out i hi) (hg8.block gp (by omega) (by intro e; injection e with e; omega))
  have HG8 := Lib.hid (Lib.grownBy_trans HG7.out hg8)
  have HO8 := Lib.hid (HO7.out.grown hg8 (Or.inr (HO7.out.ne HB7.out (by decide))))
  have hz8 := hg8.size
  clear hB8 hg8 q40 f7
  go_upto_region 15 with fail
  change Code.wp _ _ _ _ (w8.alloc (.cells (Array.replicate 32 (.int .u8 0)) 25))
  have hZ9 : Blk (w8.alloc (.cells (Array.replicate 32 (.int .u8 0)) 25)) w8.heap.size 25 (arrC b8 (List.replicate 32 0)) := Blk.of_eq (Blk.new_ rfl) (zeros_arr 32)
  have hb9 : Below w8.heap.size w8 (w8.alloc (.cells (Array.replicate 32 (.int .u8 0)) 25)) := (Below.refl _ _).alloc (Nat.le_refl _) _
  generalize w8.alloc (.cells (Array.replicate 32 (.int .u8 0)) 25) = w9 at hZ9 hb9 ⊢
  have HB9 := Lib.hid (HB8.out.below hb9 HB8.out.lt)
  have HD9 := Lib.hid (HD8.out.below hb9 HD8.out.lt)
  have HR9 : Hid (∀ i, i < 2 → w9.rangeAt gp (i * 32) ((parP l i).map b8)) := fun i hi => rangeAt_keep (HR8.out i hi) (hb9.block gp (by omega))
  have HG9 := Lib.hid (Lib.grownBy_below HG8.out hb9)
  have HO9 := Lib.hid (HO8.out.below hb9 (Nat.le_refl _))
  have hz9 := hb9.size
  generalize hg9 : w8.heap.size = g9 at hZ9 hb9 hz9 hz8 ⊢
  have HZ9 := Lib.hid hZ9
  have hgl9 := hZ9.lt
  have d0 : w9.cell? ⟨gh, 0, none⟩ = some (.int .u8 (a0 : Nat)) := by rw [HD9.out.cell]; rfl
  have d1 : w9.cell? ⟨gh, 1, none⟩ = some (.int .u8 (a1 : Nat)) := by rw [HD9.out.cell]; rfl
  have d2 : w9.cell? ⟨gh, 2, none⟩ = some (.int .u16 (a2 : Nat)) := by rw [HD9.out.cell]; rfl
  have d3 : w9.cell? ⟨gh, 3, none⟩ = some (.int .u32 (a3 : Nat)) := by rw [HD9.out.cell]; rfl
  have f9 := HD9.out.frozen
  have hbg9 : b ≠ g9 := by omega
  have hghg9 : gh ≠ g9 := by omega
  have hgpg9 : gp ≠ g9 := by omega
  clear hZ9 hb9 hg9
  by_cases ha : a1 = 1
  · subst ha
    go_upto_region 16 with fail
    have CR2 := Lib.hid (response_calls K (parP l 1) nk c1 A1 H S ⟨a0, 1, a2, a3⟩ 67 w9.drew (OwnAt.sl (w := w9.drew) (OwnAt.drew HO9.out)) HNK.out.symm (by rw [HNK.out]; exact hKl) hH hS HP1.out (HH.out ▸ parH_ok l) (by omega))
    refine wp_region_held (S := fun wx : World => Blk wx b 56 (endC (.slice A1 nk c1) H S ⟨lk, lf, a2, a3⟩ N false true).toArray ∧ Blk wx gh 54 #[.int .u8 (a0 : Nat), .int .u8 ((1 : Nat) : Int), .int .u16 (a2 : Nat), .int .u32 (a3 : Nat)] ∧ ∀ i, i < 2 → wx.rangeAt gp (i * 32) ((parP l i).map b8)) (by kernel_rfl) ?_
    change wpAnyH _ _ _ _ _ _ _ _ (World.drew _)
    refine wpAnyH_take (i := 0) (v := .pointer (some ⟨b, 0, none⟩)) rfl (by kernel_rfl) (by kernel_rfl) (by kernel_rfl) (fun _ _ _ h => h) (Or.inl ⟨by rfl, by intro w _; go_simp⟩) ⟨HB9.out.drew, HD9.out.drew, HR9.out⟩ ?_
    refine wpAnyH_take (i := 1) (v := .pointer (some ⟨b, 0, none⟩)) rfl (by kernel_rfl) (by kernel_rfl) (by kernel_rfl) (fun _ _ _ h => h) (Or.inl ⟨by rfl, by intro w _; go_simp⟩) ⟨HB9.out.drew, HD9.out.drew, HR9.out⟩ ?_
    refine wpAnyH_take (i := 2) (v := .pointer (some ⟨b, 0, none⟩)) rfl (by kernel_rfl) (by kernel_rfl) (by kernel_rfl) (fun _ _ _ h => h) (Or.inl ⟨by rfl, by intro w _; go_simp⟩) ⟨HB9.out.drew, HD9.out.drew, HR9.out⟩ ?_
    go_simp
    refine wpAnyH_take (i := 3) (v := .agg #[.slice A1 nk c1, .string H, .string S]) rfl (by kernel_rfl) (by kernel_rfl) (by kernel_rfl) (fun _ _ _ h => h) (yields_load (by rfl) 52 (.tmp 80) rfl b 0 (by rfl) [.slice A1 nk c1, .string H, .string S] _ (fun _ h => end_range_party h.1) Try.underlying52 rfl party_size) ⟨HB9.out.drew, HD9.out.drew, HR9.out⟩ ?_
    refine wpAnyH_take (i := 4) (v := .slice (some ⟨gp, 0, none⟩) 2 cp) rfl (by kernel_rfl) (by kernel_rfl) (by kernel_rfl) (fun _ _ _ h => h) (Or.inl ⟨by rfl, by intro w _; go_simp⟩) ⟨HB9.out.drew, HD9.out.drew, HR9.out⟩ ?_
    refine wpAnyH_take (i := 5) (v := .pointer (some ⟨gp, 32, none⟩)) rfl (by kernel_rfl) (by kernel_rfl) (by kernel_rfl) (fun _ _ _ h => h) (Or.inl ⟨by rfl, by intro w _; go_simp⟩) ⟨HB9.out.drew, HD9.out.drew, HR9.out⟩ ?_
    go_simp
    refine wpAnyH_take (i := 6) (v := .agg (arrC b8 (parP l 1))) rfl (by kernel_rfl) (by kernel_rfl) (by kernel_rfl) (fun _ _ _ h => h) (yields_load (by rfl) 25 (.tmp 83) rfl gp 32 (by rfl) ((parP l 1).map b8) _ (fun _ h => by have := h.2.2 1 (by omega); simpa using this) Try.underlying25 rfl (by rw [List.length_map, HP1.out]; exact a32_size)) ⟨HB9.out.drew, HD9.out.drew, HR9.out⟩ ?_
    refine wpAnyH_take (i := 7) (v := .agg #[.int .u8 (a0 : Nat), .int .u8 ((1 : Nat) : Int), .int .u16 (a2 : Nat), .int .u32 (a3 : Nat)]) rfl (by kernel_rfl) (by kernel_rfl) (by kernel_rfl) (fun _ _ _ h => h) (yields_load (by rfl) 54 (.tmp 6) rfl gh 0 (by rfl) [.int .u8 (a0 : Nat), .int .u8 ((1 : Nat) : Int), .int .u16 (a2 : Nat), .int .u32 (a3 : Nat)] _ (fun _ h => blk_range h.2.1) Try.underlying54 rfl head_size) ⟨HB9.out.drew, HD9.out.drew, HR9.out⟩ ?_
    refine heldOne (i := 8) (by kernel_rfl) rfl (fun K' hK' => ?_)
    refine step_call rfl (f := 28) rfl Try.func28 (by kernel_rfl) (by kernel_rfl) (by rw [List.map_toArray]; rfl) CR2.out ?_
    intro w11 hb11
    have HB11 := Lib.hid (HB9.out.drew.below hb11 HB9.out.lt)
    have HD11 := Lib.hid (HD9.out.drew.below hb11 HD9.out.lt)
    have HZ11 := Lib.hid (HZ9.out.drew.below hb11 HZ9.out.lt)
    have HR11 : Hid (∀ i, i < 2 → w11.rangeAt gp (i * 32) ((parP l i).map b8)) := fun i hi => rangeAt_keep (HR9.out i hi) (hb11.block gp (by show gp < w9.heap.size; omega))
    have HG11 := Lib.hid (Lib.grownBy_below (grown_drew HG9.out) hb11)
    have HO11 := Lib.hid ((OwnAt.drew HO9.out).below hb11 (Nat.le_refl _))
    have hz11 : w9.heap.size ≤ w11.heap.size := hb11.size
    clear hb11
    refine hK' _ _ ⟨HB11.out, HD11.out, HR11.out⟩ ?_
    clear hK' K'
    go_simp
    refine heldOne (i := 9) (by kernel_rfl) rfl (fun K' hK' => ?_)
    refine step_store_part rfl 25 (.tmp 9) (.tmp 86) rfl rfl rfl HZ11.out (by rw [arrC_size, respB_len]; kernel_rfl) (by simp [arrC_size, respB_len]) (arrC_one b8_one) ?_
    intro w12 hZ12 hg12 hz12
    replace hZ12 := Blk.of_eq hZ12 (spl_all _ _ (by simp [arrC_size, respB_len]))
    have HB12 := Lib.hid (HB11.out.grown hg12 (by intro e; injection e with e; omega))
    have HD12 := Lib.hid (HD11.out.grown hg12 (by intro e; injection e with e; omega))
    have HR12 : Hid (∀ i, i < 2 → w12.rangeAt gp (i * 32) ((parP l i).map b8)) := fun i hi => rangeAt_keep (HR11.out i hi) (hg12.block gp (by omega) (by intro e; injection e with e; omega))
    have HZ12 := Lib.hid hZ12
    have HG12 := Lib.hid (World.grownBy.andThen HG11.out hg12 (fun j e => by injection e with e; left; omega))
    have HO12 := Lib.hid (HO11.out.grown hg12 (Or.inr (HO11.out.ne HZ11.out (by decide))))
    clear hZ12 hg12 hz12
    refine hK' _ _ ⟨HB12.out, HD12.out, HR12.out⟩ ?_
    clear hK' K' d0 d1 d2 d3 f9
    refine wpAnyH_done (by kernel_rfl) ?_ _
    go_simp
    have d0 : w12.cell? ⟨gh, 0, none⟩ = some (.int .u8 (a0 : Nat)) := by rw [HD12.out.cell]; rfl
    have d1 : w12.cell? ⟨gh, 1, none⟩ = some (.int .u8 1) := by rw [HD12.out.cell]; rfl
    have d2 : w12.cell? ⟨gh, 2, none⟩ = some (.int .u16 (a2 : Nat)) := by rw [HD12.out.cell]; rfl
    have d3 : w12.cell? ⟨gh, 3, none⟩ = some (.int .u32 (a3 : Nat)) := by rw [HD12.out.cell]; rfl
    have f9 := HD12.out.frozen
    go_upto_region 18 with fail
    have hD10 : Blk (w12.setCell ⟨gh, 0, none⟩ (.int .u8 3)) gh 54 #[.int .u8 ((3 : Nat) : Int), .int .u8 ((1 : Nat) : Int), .int .u16 (a2 : Nat), .int .u32 (a3 : Nat)] := Blk.of_eq (HD12.out.set_ 0 _) rfl
    have hg10 : w12.grownBy (w12.setCell ⟨gh, 0, none⟩ (.int .u8 3)) (some gh) := Lib.grownBy_setB (World.grownBy.refl w12 _) 0 _
    generalize w12.setCell ⟨gh, 0, none⟩ (.int .u8 3) = w10 at hD10 hg10 ⊢
    have HB10 := Lib.hid (HB12.out.grown hg10 (by intro e; injection e with e; omega))
    have HZ10 := Lib.hid (HZ12.out.grown hg10 (by intro e; injection e with e; omega))
    have HG10 := Lib.hid (World.grownBy.andThen HG12.out hg10 (fun j e => by injection e with e; left; omega))
    have HO10 := Lib.hid (HO12.out.grown hg10 (Or.inr (HO12.out.ne HD12.out (by decide))))
    have p0 : w10.cell? ⟨gh, 0, none⟩ = some (.int .u8 3) := by rw [hD10.cell]; rfl
    have p1 : w10.cell? ⟨gh, 1, none⟩ = some (.int .u8 1) := by rw [hD10.cell]; rfl
    have p2 : w10.cell? ⟨gh, 2, none⟩ = some (.int .u16 (a2 : Nat)) := by rw [hD10.cell]; rfl
    have p3 : w10.cell? ⟨gh, 3, none⟩ = some (.int .u32 (a3 : Nat)) := by rw [hD10.cell]; rfl
    have E1 : Hid ((Try.prog.info? 25).map (·.size) = some (respB K H S (parP l 1) ⟨a0, 1, a2, a3⟩ 67).length) := by show _ = _; rw [respB_len _ _ _ _ _ _]; exact a32_size
    have hk' := HH.out ▸ parH_ok l
    have CB := Lib.hid (bytes_one ⟨3, 1, a2, a3⟩ (respB K H S (parP l 1) ⟨a0, 1, a2, a3⟩ 67) w10.heap.size w10 ⟨show (3 : Nat) < 256 by omega, hk'.2.1, hk'.2.2.1, hk'.2.2.2⟩ (respB_len _ _ _ _ _ _) rfl)
    clear hD10 hg10 hk' d0 d1 d2 d3 f9
    go_wp2_with (first
      | (with_reducible refine wpList_load_arr rfl 25 (.tmp 9) rfl g9 0 rfl (respB K H S (parP l 1) ⟨a0, 1, a2, a3⟩ 67) _ (blk_range HZ10.out) Try.underlying25 rfl E1.out ?_)
      | (with_reducible refine wpList_build_one rfl (.tmp 89) rfl (respB K H S (parP l 1) ⟨a0, 1, a2, a3⟩ 67) rfl (respB_len _ _ _ _ _ _) ?_)
      | (go_at_call 26; refine CB.out.mono ?_; rintro e w11 ⟨s, rfl, hO11, hb11⟩))
    go_ret2
    rw [show ansB K H S (parP l 1) ⟨a0, 1, a2, a3⟩ = respB K H S (parP l 1) ⟨a0, 1, a2, a3⟩ 67 from if_pos rfl]
    exact ⟨s, rfl, hO11.base HG10.out.size, Lib.grownBy_below HG10.out hb11, _, HB10.out.below hb11 HB10.out.lt, HO10.out.below hb11 (Nat.le_refl _)⟩
  · have ha1 : ((a1 : Int) == 1) = false := by simp; omega
    have ha2 : (a1 == 1) = false := by simpa using ha
    obtain ⟨Z0, hZ0⟩ : ∃ Z0, Z0 = List.replicate 32 (0 : UInt8) := ⟨_, rfl⟩
    rw [← hZ0] at HZ9
    have HL0 : Hid (Z0.length = 32) := by show _ = _; rw [hZ0, List.length_replicate]
    have HA := Lib.hid (show ansB K H S (parP l 1) ⟨a0, a1, a2, a3⟩ = Z0 from by rw [hZ0]; exact if_neg ha)
    clear hZ0 ha
    go_upto_region 18 with fail
    have hD10 : Blk (w9.setCell ⟨gh, 0, none⟩ (.int .u8 3)) gh 54 #[.int .u8 ((3 : Nat) : Int), .int .u8 (a1 : Nat), .int .u16 (a2 : Nat), .int .u32 (a3 : Nat)] := Blk.of_eq (HD9.out.set_ 0 _) rfl
    have hg10 : w9.grownBy (w9.setCell ⟨gh, 0, none⟩ (.int .u8 3)) (some gh) := Lib.grownBy_setB (World.grownBy.refl w9 _) 0 _
    generalize w9.setCell ⟨gh, 0, none⟩ (.int .u8 3) = w10 at hD10 hg10 ⊢
    have HB10 := Lib.hid (HB9.out.grown hg10 (by intro e; injection e with e; omega))
    have HZ10 := Lib.hid (HZ9.out.grown hg10 (by intro e; injection e with e; omega))
    have HG10 := Lib.hid (World.grownBy.andThen HG9.out hg10 (fun j e => by injection e with e; left; omega))
    have HO10 := Lib.hid (HO9.out.grown hg10 (Or.inr (HO9.out.ne HD9.out (by decide))))
    have p0 : w10.cell? ⟨gh, 0, none⟩ = some (.int .u8 3) := by rw [hD10.cell]; rfl
    have p1 : w10.cell? ⟨gh, 1, none⟩ = some (.int .u8 (a1 : Nat)) := by rw [hD10.cell]; rfl
    have p2 : w10.cell? ⟨gh, 2, none⟩ = some (.int .u16 (a2 : Nat)) := by rw [hD10.cell]; rfl
    have p3 : w10.cell? ⟨gh, 3, none⟩ = some (.int .u32 (a3 : Nat)) := by rw [hD10.cell]; rfl
    have E1 : Hid ((Try.prog.info? 25).map (·.size) = some (Z0).length) := by show _ = _; rw [HL0.out]; exact a32_size
    have hk' := HH.out ▸ parH_ok l
    have CB := Lib.hid (bytes_one ⟨3, a1, a2, a3⟩ (Z0) w10.heap.size w10 ⟨show (3 : Nat) < 256 by omega, hk'.2.1, hk'.2.2.1, hk'.2.2.2⟩ (HL0.out) rfl)
    clear hD10 hg10 hk' d0 d1 d2 d3 f9
    go_wp2_with (first
      | (with_reducible refine wpList_load_arr rfl 25 (.tmp 9) rfl g9 0 rfl (Z0) _ (blk_range HZ10.out) Try.underlying25 rfl E1.out ?_)
      | (with_reducible refine wpList_build_one rfl (.tmp 89) rfl (Z0) rfl (HL0.out) ?_)
      | (go_at_call 26; refine CB.out.mono ?_; rintro e w11 ⟨s, rfl, hO11, hb11⟩))
    go_ret2
    rw [HA.out]
    exact ⟨s, rfl, hO11.base HG10.out.size, Lib.grownBy_below HG10.out hb11, _, HB10.out.below hb11 HB10.out.lt, HO10.out.below hb11 (Nat.le_refl _)⟩
end Go.Proofs.Ytfamififoifagaa
