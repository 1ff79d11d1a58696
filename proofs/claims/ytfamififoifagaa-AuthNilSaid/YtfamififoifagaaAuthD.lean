/- Contracts of auth: Check, where it says no. -/
import Derived.Test.YtfamififoifagaaAuthC
namespace Go.Proofs.Ytfamififoifagaa
open Go.RowKit Words

def CkNo (b : Nat) (K : List UInt8) (H S : ByteArray) (last : Hd) (N : List UInt8) (d : Bool) (k : Int) (w : World) (e : Ending) (w' : World) : Prop :=
  e = .returned (.tuple #[.slice none 0 0, .int .i64 k]) ∧ w.grownBy w' (some b) ∧ EndIs 56 w' b K H S last N false d
set_option maxRecDepth 100000 in
set_option maxHeartbeats 4000000 in
theorem check_no (K N l : List UInt8) (H S : ByteArray) (last : Hd) (o d : Bool) (b L c : Nat) (k : Int) (A : Option Addr) (w : World) (hE : EndIs 56 w b K H S last N o d) (hK : 0 < K.length)
    (hL : L = l.length) (hs : Sl w w.heap.size A (l.map b8)) (hPE : parE l 2 1 2 = k) (h0 : k ≠ 0) :
    Calls Try.prog 15 #[.pointer (some ⟨b, 0, none⟩), .slice A L c] w (RetE k w) := by
  have hbl := hE.lt
  obtain ⟨v, hB, hO⟩ := hE
  obtain ⟨A1, c1, rfl, _, _, _⟩ := hO.form8
  generalize hnk : K.length = nk at hB hO hK
  have k1 : (k == 0) = false := by simpa using h0
  have k2 : (k != 0) = true := by simpa using h0
  have c0 : w.cell? ⟨b, 0, none⟩ = some (.slice A1 nk c1) := by rw [hB.cell]; rfl
  have c1' : w.cell? ⟨b, 1, none⟩ = some (.string H) := by rw [hB.cell]; rfl
  have c2 : w.cell? ⟨b, 2, none⟩ = some (.string S) := by rw [hB.cell]; rfl
  have HS := Lib.hid hs
  have HL := Lib.hid hL
  have HE := Lib.hid hPE
  have H0 := Lib.hid h0
  clear hB hO hs hL hPE hnk
  go_enter Try.func15, Try.ntmps15
  go_wp2_with (first
    | (go_at_call 25; refine (none_calls nk c1 A1 H S w hK).mono ?_; rintro e w2 ⟨rfl, hb2⟩; have HBB2 := Lib.hid hb2; have CP := Lib.hid (parsed_no l L c 2 1 2 k A w2 (by omega) (by omega) HL.out ((HS.out.below hb2).more hb2.size) (by omega) (by omega) HE.out H0.out); clear hb2)
    | (go_at_call 27; refine CP.out.mono ?_; rintro e w3 ⟨rfl, hb3⟩; have HBB3 := Lib.hid (below_step HBB2.out hb3); rw [show (hdC Hd.zero).toArray = #[.int .u8 0, .int .u8 0, .int .u16 0, .int .u32 0] from rfl]; clear hb3))
  go_ret2
  exact ⟨rfl, HBB3.out.alloc HBB3.out.size _⟩
set_option maxRecDepth 100000 in
set_option maxHeartbeats 4000000 in
theorem check_shut (K N l : List UInt8) (H S : ByteArray) (d : Bool) (b L c a0 a1 a2 a3 lk lf : Nat) (A : Option Addr) (w : World) (hE : EndIs 56 w b K H S ⟨lk, lf, a2, a3⟩ N false d) (hK : 0 < K.length) (hN : N.length = 32)
    (hL : L = l.length) (hs : Sl w w.heap.size A (l.map b8)) (hPE : parE l 2 1 2 = 0) (hPH : parH l = ⟨a0, a1, a2, a3⟩) :
    Calls Try.prog 15 #[.pointer (some ⟨b, 0, none⟩), .slice A L c] w (RetE 8 w) := by
  have hbl := hE.lt
  obtain ⟨v, hB, hO⟩ := hE
  obtain ⟨A1, c1, rfl, _, _, hs1⟩ := hO.form8
  have HKL := Lib.hid (rfl : K.length = K.length)
  generalize hnk : K.length = nk at hB hO hK HKL
  have HNK := Lib.hid hnk
  have c0 : w.cell? ⟨b, 0, none⟩ = some (.slice A1 nk c1) := by rw [hB.cell]; rfl
  have c1' : w.cell? ⟨b, 1, none⟩ = some (.string H) := by rw [hB.cell]; rfl
  have c2 : w.cell? ⟨b, 2, none⟩ = some (.string S) := by rw [hB.cell]; rfl
  have HB := Lib.hid hB
  have HO := Lib.hid hO
  have HS := Lib.hid hs
  have HS1 := Lib.hid hs1
  have HNL := Lib.hid hN
  have HL := Lib.hid hL
  have HE := Lib.hid hPE
  have HH := Lib.hid hPH
  have HLL := Lib.hid (parE_len hPE)
  clear hB hO hs hN hL hPE hPH hs1 hnk HKL
  go_enter Try.func15, Try.ntmps15
  go_upto_region 4 with (first
    | (go_at_call 25; refine (none_calls nk c1 A1 H S w hK).mono ?_; rintro e w2 ⟨rfl, hb2⟩; have HB2 := Lib.hid (HB.out.below hb2 hbl); have HBB2 := Lib.hid hb2; have hz2 := hb2.size; have CP := Lib.hid (parsed_yes l L c 2 1 2 a0 a1 a2 a3 A w2 (by omega) (by omega) HL.out ((HS.out.below hb2).more hb2.size) (by omega) (by omega) HE.out HH.out); clear hb2)
    | (go_at_call 27; refine CP.out.mono ?_; rintro e w3 ⟨gp, cp, rfl, hb3, hp1, hp2, hr3⟩; have hz3 := hb3.size; have HB3 := Lib.hid (HB2.out.below hb3 (by omega)); have HBB3 := Lib.hid (below_step HBB2.out hb3); have HR3 := Lib.hid hr3; clear hb3 hr3))
  have hD4 : Blk (w3.alloc (.cells #[.int .u8 (a0 : Nat), .int .u8 (a1 : Nat), .int .u16 (a2 : Nat), .int .u32 (a3 : Nat)] 54)) w3.heap.size 54 #[.int .u8 (a0 : Nat), .int .u8 (a1 : Nat), .int .u16 (a2 : Nat), .int .u32 (a3 : Nat)] := Blk.new_ rfl
  have hB4 := HB3.out.alloc (.cells #[.int .u8 (a0 : Nat), .int .u8 (a1 : Nat), .int .u16 (a2 : Nat), .int .u32 (a3 : Nat)] 54)
  have hb4 : Below w3.heap.size w3 (w3.alloc (.cells #[.int .u8 (a0 : Nat), .int .u8 (a1 : Nat), .int .u16 (a2 : Nat), .int .u32 (a3 : Nat)] 54)) := (Below.refl _ _).alloc (Nat.le_refl _) _
  generalize w3.alloc (.cells #[.int .u8 (a0 : Nat), .int .u8 (a1 : Nat), .int .u16 (a2 : Nat), .int .u32 (a3 : Nat)] 54) = w4 at hD4 hB4 hb4 ⊢
  have hz4 := hb4.size
  have HBB4 := Lib.hid (below_step HBB3.out hb4)
  have HR4 : Hid (∀ i, i < 2 → w4.rangeAt gp (i * 32) ((parP l i).map b8)) := fun i hi => rangeAt_keep (HR3.out i hi) (hb4.block gp hp2)
  generalize w3.heap.size = gh at hD4 hp2 hz3 hz4 hb4 ⊢
  have hghl := hD4.lt
  have q39 : w4.cell? ⟨b, 39, none⟩ = some (.bool false) := by rw [hB4.cell, endC_open HNL.out]
  have f4 := hB4.frozen
  have HD4 := Lib.hid hD4
  have HB4 := Lib.hid hB4
  clear hD4 hB4 hb4 c0 c1' c2
  have hbgh : b ≠ gh := by omega
  have hgpgh : gp ≠ gh := by omega
  go_wp2_with fail
  go_ret2
  exact ⟨rfl, HBB4.out⟩
set_option maxRecDepth 100000 in
set_option maxHeartbeats 4000000 in
theorem check_queue (K N l : List UInt8) (H S : ByteArray) (d : Bool) (b L c a0 a1 a2 a3 lk lf lq : Nat) (A : Option Addr) (w : World) (hE : EndIs 56 w b K H S ⟨lk, lf, lq, a3⟩ N true d) (hK : 0 < K.length) (hN : N.length = 32)
    (hL : L = l.length) (hs : Sl w w.heap.size A (l.map b8)) (hPE : parE l 2 1 2 = 0) (hPH : parH l = ⟨a0, a1, a2, a3⟩) (hne : a2 ≠ lq) :
    Calls Try.prog 15 #[.pointer (some ⟨b, 0, none⟩), .slice A L c] w (CkNo b K H S ⟨lk, lf, lq, a3⟩ N d 3 w) := by
  have hbl := hE.lt
  obtain ⟨v, hB, hO⟩ := hE
  obtain ⟨A1, c1, rfl, _, _, hs1⟩ := hO.form8
  have HKL := Lib.hid (rfl : K.length = K.length)
  generalize hnk : K.length = nk at hB hO hK HKL
  have HNK := Lib.hid hnk
  have c0 : w.cell? ⟨b, 0, none⟩ = some (.slice A1 nk c1) := by rw [hB.cell]; rfl
  have c1' : w.cell? ⟨b, 1, none⟩ = some (.string H) := by rw [hB.cell]; rfl
  have c2 : w.cell? ⟨b, 2, none⟩ = some (.string S) := by rw [hB.cell]; rfl
  have HB := Lib.hid hB
  have HO := Lib.hid hO
  have HS := Lib.hid hs
  have HS1 := Lib.hid hs1
  have HNL := Lib.hid hN
  have HL := Lib.hid hL
  have HE := Lib.hid hPE
  have HH := Lib.hid hPH
  have HLL := Lib.hid (parE_len hPE)
  clear hB hO hs hN hL hPE hPH hs1 hnk HKL
  go_enter Try.func15, Try.ntmps15
  go_upto_region 4 with (first
    | (go_at_call 25; refine (none_calls nk c1 A1 H S w hK).mono ?_; rintro e w2 ⟨rfl, hb2⟩; have HB2 := Lib.hid (HB.out.below hb2 hbl); have HBB2 := Lib.hid hb2; have hz2 := hb2.size; have CP := Lib.hid (parsed_yes l L c 2 1 2 a0 a1 a2 a3 A w2 (by omega) (by omega) HL.out ((HS.out.below hb2).more hb2.size) (by omega) (by omega) HE.out HH.out); clear hb2)
    | (go_at_call 27; refine CP.out.mono ?_; rintro e w3 ⟨gp, cp, rfl, hb3, hp1, hp2, hr3⟩; have hz3 := hb3.size; have HB3 := Lib.hid (HB2.out.below hb3 (by omega)); have HBB3 := Lib.hid (below_step HBB2.out hb3); have HR3 := Lib.hid hr3; clear hb3 hr3))
  have hD4 : Blk (w3.alloc (.cells #[.int .u8 (a0 : Nat), .int .u8 (a1 : Nat), .int .u16 (a2 : Nat), .int .u32 (a3 : Nat)] 54)) w3.heap.size 54 #[.int .u8 (a0 : Nat), .int .u8 (a1 : Nat), .int .u16 (a2 : Nat), .int .u32 (a3 : Nat)] := Blk.new_ rfl
  have hB4 := HB3.out.alloc (.cells #[.int .u8 (a0 : Nat), .int .u8 (a1 : Nat), .int .u16 (a2 : Nat), .int .u32 (a3 : Nat)] 54)
  have hb4 : Below w3.heap.size w3 (w3.alloc (.cells #[.int .u8 (a0 : Nat), .int .u8 (a1 : Nat), .int .u16 (a2 : Nat), .int .u32 (a3 : Nat)] 54)) := (Below.refl _ _).alloc (Nat.le_refl _) _
  generalize w3.alloc (.cells #[.int .u8 (a0 : Nat), .int .u8 (a1 : Nat), .int .u16 (a2 : Nat), .int .u32 (a3 : Nat)] 54) = w4 at hD4 hB4 hb4 ⊢
  have hz4 := hb4.size
  have HBB4 := Lib.hid (below_step HBB3.out hb4)
  have HR4 : Hid (∀ i, i < 2 → w4.rangeAt gp (i * 32) ((parP l i).map b8)) := fun i hi => rangeAt_keep (HR3.out i hi) (hb4.block gp hp2)
  generalize w3.heap.size = gh at hD4 hp2 hz3 hz4 hb4 ⊢
  have hghl := hD4.lt
  have q39 : w4.cell? ⟨b, 39, none⟩ = some (.bool true) := by rw [hB4.cell, endC_open HNL.out]
  have f4 := hB4.frozen
  have HD4 := Lib.hid hD4
  have HB4 := Lib.hid hB4
  clear hD4 hB4 hb4 c0 c1' c2
  have hbgh : b ≠ gh := by omega
  have hgpgh : gp ≠ gh := by omega
  go_upto_region 9 with fail
  have hB5 : Blk (w4.setCell ⟨b, 39, none⟩ (.bool false)) b 56 (endC (.slice A1 nk c1) H S ⟨lk, lf, lq, a3⟩ N false d).toArray := Blk.of_eq (HB4.out.set_ 39 _) (endC_setOpen HNL.out false)
  have hg5 : w4.grownBy (w4.setCell ⟨b, 39, none⟩ (.bool false)) (some b) := Lib.grownBy_setB (World.grownBy.refl w4 _) 39 _
  generalize w4.setCell ⟨b, 39, none⟩ (.bool false) = w5 at hB5 hg5 ⊢
  have HB5 := Lib.hid hB5
  have HD5 := Lib.hid (HD4.out.grown hg5 (by intro e; injection e with e; omega))
  have HR5 : Hid (∀ i, i < 2 → w5.rangeAt gp (i * 32) ((parP l i).map b8)) := fun i hi => rangeAt_keep (HR4.out i hi) (hg5.block gp (by omega) (by intro e; injection e with e; omega))
  have HG5 := Lib.hid (Lib.grownBy_trans (Lib.grownBy_below (World.grownBy.refl w (some b)) HBB4.out) hg5)
  have hz5 := hg5.size
  clear hB5 hg5 q39 f4
  have e1 : ((a2 : Int) == (lq : Int)) = false := by simp; omega
  have e2 : (a2 == lq) = false := by simp; omega
  have e3 : ((a2 : Int) != (lq : Int)) = true := by simp; omega
  have e4 : (a2 != lq) = true := by simp; omega
  refine wp_region_held (S := fun wx : World => Blk wx b 56 (endC (.slice A1 nk c1) H S ⟨lk, lf, lq, a3⟩ N false d).toArray ∧ Blk wx gh 54 #[.int .u8 (a0 : Nat), .int .u8 (a1 : Nat), .int .u16 (a2 : Nat), .int .u32 (a3 : Nat)] ∧ ∀ i, i < 2 → wx.rangeAt gp (i * 32) ((parP l i).map b8)) (by kernel_rfl) ?_
  change wpAnyH _ _ _ _ _ _ _ _ (World.drew _)
  refine wpAnyH_take (i := 0) (v := .pointer (some ⟨gh, 2, none⟩)) rfl (by kernel_rfl) (by kernel_rfl) (by kernel_rfl) (fun _ _ _ h => h) (Or.inl ⟨by rfl, by intro w _; go_simp⟩) ⟨HB5.out.drew, HD5.out.drew, HR5.out⟩ ?_
  refine wpAnyH_take (i := 1) (v := .int .u16 (a2 : Nat)) rfl (by kernel_rfl) (by kernel_rfl) (by kernel_rfl) (fun _ _ _ h => h) (Or.inl ⟨by rfl, by intro wz hz; have hc : wz.cell? ⟨gh, 2, none⟩ = some (.int .u16 (a2 : Nat)) := (by rw [hz.2.1.cell]; rfl); go_simp⟩) ⟨HB5.out.drew, HD5.out.drew, HR5.out⟩ ?_
  refine wpAnyH_take (i := 2) (v := .pointer (some ⟨b, 0, none⟩)) rfl (by kernel_rfl) (by kernel_rfl) (by kernel_rfl) (fun _ _ _ h => h) (Or.inl ⟨by rfl, by intro w _; go_simp⟩) ⟨HB5.out.drew, HD5.out.drew, HR5.out⟩ ?_
  go_simp
  refine wpAnyH_take (i := 3) (v := .pointer (some ⟨b, 0, none⟩)) rfl (by kernel_rfl) (by kernel_rfl) (by kernel_rfl) (fun _ _ _ h => h) (Or.inl ⟨by rfl, by intro w _; go_simp⟩) ⟨HB5.out.drew, HD5.out.drew, HR5.out⟩ ?_
  refine wpAnyH_take (i := 4) (v := .pointer (some ⟨b, 3, none⟩)) rfl (by kernel_rfl) (by kernel_rfl) (by kernel_rfl) (fun _ _ _ h => h) (Or.inl ⟨by rfl, by intro w _; go_simp⟩) ⟨HB5.out.drew, HD5.out.drew, HR5.out⟩ ?_
  refine wpAnyH_take (i := 5) (v := .pointer (some ⟨b, 5, none⟩)) rfl (by kernel_rfl) (by kernel_rfl) (by kernel_rfl) (fun _ _ _ h => h) (Or.inl ⟨by rfl, by intro w _; go_simp⟩) ⟨HB5.out.drew, HD5.out.drew, HR5.out⟩ ?_
  go_simp
  refine wpAnyH_take (i := 6) (v := .int .u16 (lq : Nat)) rfl (by kernel_rfl) (by kernel_rfl) (by kernel_rfl) (fun _ _ _ h => h) (Or.inl ⟨by rfl, by intro wz hz; have hc : wz.cell? ⟨b, 5, none⟩ = some (.int .u16 (lq : Nat)) := (by rw [hz.1.cell]; rfl); go_simp⟩) ⟨HB5.out.drew, HD5.out.drew, HR5.out⟩ ?_
  refine wpAnyH_take (i := 7) (v := .bool true) rfl (by kernel_rfl) (by kernel_rfl) (by kernel_rfl) (fun _ _ _ h => h) (Or.inl ⟨by rfl, by intro w _; go_simp⟩) ⟨HB5.out.drew, HD5.out.drew, HR5.out⟩ ?_
  refine wpAnyH_take (i := 8) (v := .bool true) rfl (by kernel_rfl) (by kernel_rfl) (by kernel_rfl) (fun _ _ _ h => h) (Or.inl ⟨by rfl, by intro w _; go_simp⟩) ⟨HB5.out.drew, HD5.out.drew, HR5.out⟩ ?_
  go_simp
  refine wpAnyH_take (i := 9) (v := undef) rfl (by kernel_rfl) (by kernel_rfl) (by kernel_rfl) (fun _ _ _ h => h) (Or.inr ⟨by rfl, rfl⟩) ⟨HB5.out.drew, HD5.out.drew, HR5.out⟩ ?_
  refine wpAnyH_take (i := 10) (v := undef) rfl (by kernel_rfl) (by kernel_rfl) (by kernel_rfl) (fun _ _ _ h => h) (Or.inr ⟨by rfl, rfl⟩) ⟨HB5.out.drew, HD5.out.drew, HR5.out⟩ ?_
  refine wpAnyH_take (i := 11) (v := undef) rfl (by kernel_rfl) (by kernel_rfl) (by kernel_rfl) (fun _ _ _ h => h) (Or.inr ⟨by rfl, rfl⟩) ⟨HB5.out.drew, HD5.out.drew, HR5.out⟩ ?_
  go_simp
  refine wpAnyH_take (i := 12) (v := undef) rfl (by kernel_rfl) (by kernel_rfl) (by kernel_rfl) (fun _ _ _ h => h) (Or.inr ⟨by rfl, rfl⟩) ⟨HB5.out.drew, HD5.out.drew, HR5.out⟩ ?_
  go_simp
  refine wpAnyH_take (i := 13) (v := undef) rfl (by kernel_rfl) (by kernel_rfl) (by kernel_rfl) (fun _ _ _ h => h) (Or.inr ⟨by rfl, rfl⟩) ⟨HB5.out.drew, HD5.out.drew, HR5.out⟩ ?_
  refine wpAnyH_take (i := 14) (v := undef) rfl (by kernel_rfl) (by kernel_rfl) (by kernel_rfl) (fun _ _ _ h => h) (Or.inr ⟨by rfl, rfl⟩) ⟨HB5.out.drew, HD5.out.drew, HR5.out⟩ ?_
  go_simp
  refine wpAnyH_take (i := 15) (v := undef) rfl (by kernel_rfl) (by kernel_rfl) (by kernel_rfl) (fun _ _ _ h => h) (Or.inr ⟨by rfl, rfl⟩) ⟨HB5.out.drew, HD5.out.drew, HR5.out⟩ ?_
  refine wpAnyH_take (i := 16) (v := undef) rfl (by kernel_rfl) (by kernel_rfl) (by kernel_rfl) (fun _ _ _ h => h) (Or.inr ⟨by rfl, rfl⟩) ⟨HB5.out.drew, HD5.out.drew, HR5.out⟩ ?_
  go_simp
  refine wpAnyH_take (i := 17) (v := .bool true) rfl (by kernel_rfl) (by kernel_rfl) (by kernel_rfl) (fun _ _ _ h => h) (Or.inl ⟨by rfl, by intro w _; go_simp⟩) ⟨HB5.out.drew, HD5.out.drew, HR5.out⟩ ?_
  go_simp
  refine wpAnyH_take (i := 18) (v := .bool true) rfl (by kernel_rfl) (by kernel_rfl) (by kernel_rfl) (fun _ _ _ h => h) (Or.inl ⟨by rfl, by intro w _; go_simp⟩) ⟨HB5.out.drew, HD5.out.drew, HR5.out⟩ ?_
  refine wpAnyH_done (by kernel_rfl) ?_ _
  go_simp
  go_wp2_with fail
  go_ret2
  exact ⟨rfl, grown_drew HG5.out, _, HB5.out.drew, OwnAt.drew (HO.out.grown HG5.out (Or.inr (HO.out.ne HB.out (by decide))))⟩
set_option maxRecDepth 100000 in
set_option maxHeartbeats 4000000 in
theorem check_seq (K N l : List UInt8) (H S : ByteArray) (d : Bool) (b L c a0 a1 a2 a3 lk lf ls : Nat) (A : Option Addr) (w : World) (hE : EndIs 56 w b K H S ⟨lk, lf, a2, ls⟩ N true d) (hK : 0 < K.length) (hN : N.length = 32)
    (hL : L = l.length) (hs : Sl w w.heap.size A (l.map b8)) (hPE : parE l 2 1 2 = 0) (hPH : parH l = ⟨a0, a1, a2, a3⟩) (hne : a3 ≠ ls) :
    Calls Try.prog 15 #[.pointer (some ⟨b, 0, none⟩), .slice A L c] w (CkNo b K H S ⟨lk, lf, a2, ls⟩ N d 3 w) := by
  have hbl := hE.lt
  obtain ⟨v, hB, hO⟩ := hE
  obtain ⟨A1, c1, rfl, _, _, hs1⟩ := hO.form8
  have HKL := Lib.hid (rfl : K.length = K.length)
  generalize hnk : K.length = nk at hB hO hK HKL
  have HNK := Lib.hid hnk
  have c0 : w.cell? ⟨b, 0, none⟩ = some (.slice A1 nk c1) := by rw [hB.cell]; rfl
  have c1' : w.cell? ⟨b, 1, none⟩ = some (.string H) := by rw [hB.cell]; rfl
  have c2 : w.cell? ⟨b, 2, none⟩ = some (.string S) := by rw [hB.cell]; rfl
  have HB := Lib.hid hB
  have HO := Lib.hid hO
  have HS := Lib.hid hs
  have HS1 := Lib.hid hs1
  have HNL := Lib.hid hN
  have HL := Lib.hid hL
  have HE := Lib.hid hPE
  have HH := Lib.hid hPH
  have HLL := Lib.hid (parE_len hPE)
  clear hB hO hs hN hL hPE hPH hs1 hnk HKL
  go_enter Try.func15, Try.ntmps15
  go_upto_region 4 with (first
    | (go_at_call 25; refine (none_calls nk c1 A1 H S w hK).mono ?_; rintro e w2 ⟨rfl, hb2⟩; have HB2 := Lib.hid (HB.out.below hb2 hbl); have HBB2 := Lib.hid hb2; have hz2 := hb2.size; have CP := Lib.hid (parsed_yes l L c 2 1 2 a0 a1 a2 a3 A w2 (by omega) (by omega) HL.out ((HS.out.below hb2).more hb2.size) (by omega) (by omega) HE.out HH.out); clear hb2)
    | (go_at_call 27; refine CP.out.mono ?_; rintro e w3 ⟨gp, cp, rfl, hb3, hp1, hp2, hr3⟩; have hz3 := hb3.size; have HB3 := Lib.hid (HB2.out.below hb3 (by omega)); have HBB3 := Lib.hid (below_step HBB2.out hb3); have HR3 := Lib.hid hr3; clear hb3 hr3))
  have hD4 : Blk (w3.alloc (.cells #[.int .u8 (a0 : Nat), .int .u8 (a1 : Nat), .int .u16 (a2 : Nat), .int .u32 (a3 : Nat)] 54)) w3.heap.size 54 #[.int .u8 (a0 : Nat), .int .u8 (a1 : Nat), .int .u16 (a2 : Nat), .int .u32 (a3 : Nat)] := Blk.new_ rfl
  have hB4 := HB3.out.alloc (.cells #[.int .u8 (a0 : Nat), .int .u8 (a1 : Nat), .int .u16 (a2 : Nat), .int .u32 (a3 : Nat)] 54)
  have hb4 : Below w3.heap.size w3 (w3.alloc (.cells #[.int .u8 (a0 : Nat), .int .u8 (a1 : Nat), .int .u16 (a2 : Nat), .int .u32 (a3 : Nat)] 54)) := (Below.refl _ _).alloc (Nat.le_refl _) _
  generalize w3.alloc (.cells #[.int .u8 (a0 : Nat), .int .u8 (a1 : Nat), .int .u16 (a2 : Nat), .int .u32 (a3 : Nat)] 54) = w4 at hD4 hB4 hb4 ⊢
  have hz4 := hb4.size
  have HBB4 := Lib.hid (below_step HBB3.out hb4)
  have HR4 : Hid (∀ i, i < 2 → w4.rangeAt gp (i * 32) ((parP l i).map b8)) := fun i hi => rangeAt_keep (HR3.out i hi) (hb4.block gp hp2)
  generalize w3.heap.size = gh at hD4 hp2 hz3 hz4 hb4 ⊢
  have hghl := hD4.lt
  have q39 : w4.cell? ⟨b, 39, none⟩ = some (.bool true) := by rw [hB4.cell, endC_open HNL.out]
  have f4 := hB4.frozen
  have HD4 := Lib.hid hD4
  have HB4 := Lib.hid hB4
  clear hD4 hB4 hb4 c0 c1' c2
  have hbgh : b ≠ gh := by omega
  have hgpgh : gp ≠ gh := by omega
  go_upto_region 9 with fail
  have hB5 : Blk (w4.setCell ⟨b, 39, none⟩ (.bool false)) b 56 (endC (.slice A1 nk c1) H S ⟨lk, lf, a2, ls⟩ N false d).toArray := Blk.of_eq (HB4.out.set_ 39 _) (endC_setOpen HNL.out false)
  have hg5 : w4.grownBy (w4.setCell ⟨b, 39, none⟩ (.bool false)) (some b) := Lib.grownBy_setB (World.grownBy.refl w4 _) 39 _
  generalize w4.setCell ⟨b, 39, none⟩ (.bool false) = w5 at hB5 hg5 ⊢
  have HB5 := Lib.hid hB5
  have HD5 := Lib.hid (HD4.out.grown hg5 (by intro e; injection e with e; omega))
  have HR5 : Hid (∀ i, i < 2 → w5.rangeAt gp (i * 32) ((parP l i).map b8)) := fun i hi => rangeAt_keep (HR4.out i hi) (hg5.block gp (by omega) (by intro e; injection e with e; omega))
  have HG5 := Lib.hid (Lib.grownBy_trans (Lib.grownBy_below (World.grownBy.refl w (some b)) HBB4.out) hg5)
  have hz5 := hg5.size
  clear hB5 hg5 q39 f4
  have e1 : ((a3 : Int) == (ls : Int)) = false := by simp; omega
  have e2 : (a3 == ls) = false := by simp; omega
  have e3 : ((a3 : Int) != (ls : Int)) = true := by simp; omega
  have e4 : (a3 != ls) = true := by simp; omega
  refine wp_region_held (S := fun wx : World => Blk wx b 56 (endC (.slice A1 nk c1) H S ⟨lk, lf, a2, ls⟩ N false d).toArray ∧ Blk wx gh 54 #[.int .u8 (a0 : Nat), .int .u8 (a1 : Nat), .int .u16 (a2 : Nat), .int .u32 (a3 : Nat)] ∧ ∀ i, i < 2 → wx.rangeAt gp (i * 32) ((parP l i).map b8)) (by kernel_rfl) ?_
  change wpAnyH _ _ _ _ _ _ _ _ (World.drew _)
  refine wpAnyH_take (i := 0) (v := .pointer (some ⟨gh, 2, none⟩)) rfl (by kernel_rfl) (by kernel_rfl) (by kernel_rfl) (fun _ _ _ h => h) (Or.inl ⟨by rfl, by intro w _; go_simp⟩) ⟨HB5.out.drew, HD5.out.drew, HR5.out⟩ ?_
  refine wpAnyH_take (i := 1) (v := .int .u16 (a2 : Nat)) rfl (by kernel_rfl) (by kernel_rfl) (by kernel_rfl) (fun _ _ _ h => h) (Or.inl ⟨by rfl, by intro wz hz; have hc : wz.cell? ⟨gh, 2, none⟩ = some (.int .u16 (a2 : Nat)) := (by rw [hz.2.1.cell]; rfl); go_simp⟩) ⟨HB5.out.drew, HD5.out.drew, HR5.out⟩ ?_
  refine wpAnyH_take (i := 2) (v := .pointer (some ⟨b, 0, none⟩)) rfl (by kernel_rfl) (by kernel_rfl) (by kernel_rfl) (fun _ _ _ h => h) (Or.inl ⟨by rfl, by intro w _; go_simp⟩) ⟨HB5.out.drew, HD5.out.drew, HR5.out⟩ ?_
  go_simp
  refine wpAnyH_take (i := 3) (v := .pointer (some ⟨b, 0, none⟩)) rfl (by kernel_rfl) (by kernel_rfl) (by kernel_rfl) (fun _ _ _ h => h) (Or.inl ⟨by rfl, by intro w _; go_simp⟩) ⟨HB5.out.drew, HD5.out.drew, HR5.out⟩ ?_
  refine wpAnyH_take (i := 4) (v := .pointer (some ⟨b, 3, none⟩)) rfl (by kernel_rfl) (by kernel_rfl) (by kernel_rfl) (fun _ _ _ h => h) (Or.inl ⟨by rfl, by intro w _; go_simp⟩) ⟨HB5.out.drew, HD5.out.drew, HR5.out⟩ ?_
  refine wpAnyH_take (i := 5) (v := .pointer (some ⟨b, 5, none⟩)) rfl (by kernel_rfl) (by kernel_rfl) (by kernel_rfl) (fun _ _ _ h => h) (Or.inl ⟨by rfl, by intro w _; go_simp⟩) ⟨HB5.out.drew, HD5.out.drew, HR5.out⟩ ?_
  go_simp
  refine wpAnyH_take (i := 6) (v := .int .u16 (a2 : Nat)) rfl (by kernel_rfl) (by kernel_rfl) (by kernel_rfl) (fun _ _ _ h => h) (Or.inl ⟨by rfl, by intro wz hz; have hc : wz.cell? ⟨b, 5, none⟩ = some (.int .u16 (a2 : Nat)) := (by rw [hz.1.cell]; rfl); go_simp⟩) ⟨HB5.out.drew, HD5.out.drew, HR5.out⟩ ?_
  refine wpAnyH_take (i := 7) (v := .bool false) rfl (by kernel_rfl) (by kernel_rfl) (by kernel_rfl) (fun _ _ _ h => h) (Or.inl ⟨by rfl, by intro w _; go_simp⟩) ⟨HB5.out.drew, HD5.out.drew, HR5.out⟩ ?_
  refine wpAnyH_take (i := 8) (v := .bool false) rfl (by kernel_rfl) (by kernel_rfl) (by kernel_rfl) (fun _ _ _ h => h) (Or.inl ⟨by rfl, by intro w _; go_simp⟩) ⟨HB5.out.drew, HD5.out.drew, HR5.out⟩ ?_
  go_simp
  refine wpAnyH_take (i := 9) (v := .pointer (some ⟨gh, 3, none⟩)) rfl (by kernel_rfl) (by kernel_rfl) (by kernel_rfl) (fun _ _ _ h => h) (Or.inl ⟨by rfl, by intro w _; go_simp⟩) ⟨HB5.out.drew, HD5.out.drew, HR5.out⟩ ?_
  refine wpAnyH_take (i := 10) (v := .int .u32 (a3 : Nat)) rfl (by kernel_rfl) (by kernel_rfl) (by kernel_rfl) (fun _ _ _ h => h) (Or.inl ⟨by rfl, by intro wz hz; have hc : wz.cell? ⟨gh, 3, none⟩ = some (.int .u32 (a3 : Nat)) := (by rw [hz.2.1.cell]; rfl); go_simp⟩) ⟨HB5.out.drew, HD5.out.drew, HR5.out⟩ ?_
  refine wpAnyH_take (i := 11) (v := .pointer (some ⟨b, 0, none⟩)) rfl (by kernel_rfl) (by kernel_rfl) (by kernel_rfl) (fun _ _ _ h => h) (Or.inl ⟨by rfl, by intro w _; go_simp⟩) ⟨HB5.out.drew, HD5.out.drew, HR5.out⟩ ?_
  go_simp
  refine wpAnyH_take (i := 12) (v := .pointer (some ⟨b, 0, none⟩)) rfl (by kernel_rfl) (by kernel_rfl) (by kernel_rfl) (fun _ _ _ h => h) (Or.inl ⟨by rfl, by intro w _; go_simp⟩) ⟨HB5.out.drew, HD5.out.drew, HR5.out⟩ ?_
  go_simp
  refine wpAnyH_take (i := 13) (v := .pointer (some ⟨b, 3, none⟩)) rfl (by kernel_rfl) (by kernel_rfl) (by kernel_rfl) (fun _ _ _ h => h) (Or.inl ⟨by rfl, by intro w _; go_simp⟩) ⟨HB5.out.drew, HD5.out.drew, HR5.out⟩ ?_
  refine wpAnyH_take (i := 14) (v := .pointer (some ⟨b, 6, none⟩)) rfl (by kernel_rfl) (by kernel_rfl) (by kernel_rfl) (fun _ _ _ h => h) (Or.inl ⟨by rfl, by intro w _; go_simp⟩) ⟨HB5.out.drew, HD5.out.drew, HR5.out⟩ ?_
  go_simp
  refine wpAnyH_take (i := 15) (v := .int .u32 (ls : Nat)) rfl (by kernel_rfl) (by kernel_rfl) (by kernel_rfl) (fun _ _ _ h => h) (Or.inl ⟨by rfl, by intro wz hz; have hc : wz.cell? ⟨b, 6, none⟩ = some (.int .u32 (ls : Nat)) := (by rw [hz.1.cell]; rfl); go_simp⟩) ⟨HB5.out.drew, HD5.out.drew, HR5.out⟩ ?_
  refine wpAnyH_take (i := 16) (v := .bool true) rfl (by kernel_rfl) (by kernel_rfl) (by kernel_rfl) (fun _ _ _ h => h) (Or.inl ⟨by rfl, by intro w _; go_simp⟩) ⟨HB5.out.drew, HD5.out.drew, HR5.out⟩ ?_
  go_simp
  refine wpAnyH_take (i := 17) (v := .bool true) rfl (by kernel_rfl) (by kernel_rfl) (by kernel_rfl) (fun _ _ _ h => h) (Or.inl ⟨by rfl, by intro w _; go_simp⟩) ⟨HB5.out.drew, HD5.out.drew, HR5.out⟩ ?_
  go_simp
  refine wpAnyH_take (i := 18) (v := .bool true) rfl (by kernel_rfl) (by kernel_rfl) (by kernel_rfl) (fun _ _ _ h => h) (Or.inl ⟨by rfl, by intro w _; go_simp⟩) ⟨HB5.out.drew, HD5.out.drew, HR5.out⟩ ?_
  refine wpAnyH_done (by kernel_rfl) ?_ _
  go_simp
  go_wp2_with fail
  go_ret2
  exact ⟨rfl, grown_drew HG5.out, _, HB5.out.drew, OwnAt.drew (HO.out.grown HG5.out (Or.inr (HO.out.ne HB.out (by decide))))⟩
set_option maxRecDepth 100000 in
set_option maxHeartbeats 4000000 in
theorem check_bad (K N l : List UInt8) (H S : ByteArray) (d : Bool) (b L c a0 a1 a2 a3 lk lf : Nat) (A : Option Addr) (w : World) (hE : EndIs 56 w b K H S ⟨lk, lf, a2, a3⟩ N true d) (hK : 0 < K.length) (hKl : K.length ≤ 100000) (hN : N.length = 32) (hH : H.size ≤ 60000) (hS : S.size ≤ 60000)
    (hL : L = l.length) (hs : Sl w w.heap.size A (l.map b8)) (hPE : parE l 2 1 2 = 0) (hPH : parH l = ⟨a0, a1, a2, a3⟩) (hR : sameB (parP l 0) (respB K H S N ⟨a0, a1, a2, a3⟩ 72) = false) :
    Calls Try.prog 15 #[.pointer (some ⟨b, 0, none⟩), .slice A L c] w (CkNo b K H S ⟨lk, lf, a2, a3⟩ N d 10 w) := by
  have hbl := hE.lt
  obtain ⟨v, hB, hO⟩ := hE
  obtain ⟨A1, c1, rfl, _, _, hs1⟩ := hO.form8
  have HKL := Lib.hid (rfl : K.length = K.length)
  generalize hnk : K.length = nk at hB hO hK hKl HKL
  have HNK := Lib.hid hnk
  have c0 : w.cell? ⟨b, 0, none⟩ = some (.slice A1 nk c1) := by rw [hB.cell]; rfl
  have c1' : w.cell? ⟨b, 1, none⟩ = some (.string H) := by rw [hB.cell]; rfl
  have c2 : w.cell? ⟨b, 2, none⟩ = some (.string S) := by rw [hB.cell]; rfl
  have HB := Lib.hid hB
  have HO := Lib.hid hO
  have HS := Lib.hid hs
  have HS1 := Lib.hid hs1
  have HNL := Lib.hid hN
  have HL := Lib.hid hL
  have HE := Lib.hid hPE
  have HH := Lib.hid hPH
  have HLL := Lib.hid (parE_len hPE)
  have HRS := Lib.hid hR
  clear hB hO hs hN hL hPE hPH hs1 hnk HKL hR
  go_enter Try.func15, Try.ntmps15
  go_upto_region 4 with (first
    | (go_at_call 25; refine (none_calls nk c1 A1 H S w hK).mono ?_; rintro e w2 ⟨rfl, hb2⟩; have HB2 := Lib.hid (HB.out.below hb2 hbl); have HBB2 := Lib.hid hb2; have hz2 := hb2.size; have CP := Lib.hid (parsed_yes l L c 2 1 2 a0 a1 a2 a3 A w2 (by omega) (by omega) HL.out ((HS.out.below hb2).more hb2.size) (by omega) (by omega) HE.out HH.out); clear hb2)
    | (go_at_call 27; refine CP.out.mono ?_; rintro e w3 ⟨gp, cp, rfl, hb3, hp1, hp2, hr3⟩; have hz3 := hb3.size; have HB3 := Lib.hid (HB2.out.below hb3 (by omega)); have HBB3 := Lib.hid (below_step HBB2.out hb3); have HR3 := Lib.hid hr3; clear hb3 hr3))
  have hD4 : Blk (w3.alloc (.cells #[.int .u8 (a0 : Nat), .int .u8 (a1 : Nat), .int .u16 (a2 : Nat), .int .u32 (a3 : Nat)] 54)) w3.heap.size 54 #[.int .u8 (a0 : Nat), .int .u8 (a1 : Nat), .int .u16 (a2 : Nat), .int .u32 (a3 : Nat)] := Blk.new_ rfl
  have hB4 := HB3.out.alloc (.cells #[.int .u8 (a0 : Nat), .int .u8 (a1 : Nat), .int .u16 (a2 : Nat), .int .u32 (a3 : Nat)] 54)
  have hb4 : Below w3.heap.size w3 (w3.alloc (.cells #[.int .u8 (a0 : Nat), .int .u8 (a1 : Nat), .int .u16 (a2 : Nat), .int .u32 (a3 : Nat)] 54)) := (Below.refl _ _).alloc (Nat.le_refl _) _
  generalize w3.alloc (.cells #[.int .u8 (a0 : Nat), .int .u8 (a1 : Nat), .int .u16 (a2 : Nat), .int .u32 (a3 : Nat)] 54) = w4 at hD4 hB4 hb4 ⊢
  have hz4 := hb4.size
  have HBB4 := Lib.hid (below_step HBB3.out hb4)
  have HR4 : Hid (∀ i, i < 2 → w4.rangeAt gp (i * 32) ((parP l i).map b8)) := fun i hi => rangeAt_keep (HR3.out i hi) (hb4.block gp hp2)
  generalize w3.heap.size = gh at hD4 hp2 hz3 hz4 hb4 ⊢
  have hghl := hD4.lt
  have q39 : w4.cell? ⟨b, 39, none⟩ = some (.bool true) := by rw [hB4.cell, endC_open HNL.out]
  have f4 := hB4.frozen
  have HD4 := Lib.hid hD4
  have HB4 := Lib.hid hB4
  clear hD4 hB4 hb4 c0 c1' c2
  have hbgh : b ≠ gh := by omega
  have hgpgh : gp ≠ gh := by omega
  go_upto_region 9 with fail
  have hB5 : Blk (w4.setCell ⟨b, 39, none⟩ (.bool false)) b 56 (endC (.slice A1 nk c1) H S ⟨lk, lf, a2, a3⟩ N false d).toArray := Blk.of_eq (HB4.out.set_ 39 _) (endC_setOpen HNL.out false)
  have hg5 : w4.grownBy (w4.setCell ⟨b, 39, none⟩ (.bool false)) (some b) := Lib.grownBy_setB (World.grownBy.refl w4 _) 39 _
  generalize w4.setCell ⟨b, 39, none⟩ (.bool false) = w5 at hB5 hg5 ⊢
  have HB5 := Lib.hid hB5
  have HD5 := Lib.hid (HD4.out.grown hg5 (by intro e; injection e with e; omega))
  have HR5 : Hid (∀ i, i < 2 → w5.rangeAt gp (i * 32) ((parP l i).map b8)) := fun i hi => rangeAt_keep (HR4.out i hi) (hg5.block gp (by omega) (by intro e; injection e with e; omega))
  have HG5 := Lib.hid (Lib.grownBy_trans (Lib.grownBy_below (World.grownBy.refl w (some b)) HBB4.out) hg5)
  have hz5 := hg5.size
  clear hB5 hg5 q39 f4
  refine wp_region_held (S := fun wx : World => Blk wx b 56 (endC (.slice A1 nk c1) H S ⟨lk, lf, a2, a3⟩ N false d).toArray ∧ Blk wx gh 54 #[.int .u8 (a0 : Nat), .int .u8 (a1 : Nat), .int .u16 (a2 : Nat), .int .u32 (a3 : Nat)] ∧ ∀ i, i < 2 → wx.rangeAt gp (i * 32) ((parP l i).map b8)) (by kernel_rfl) ?_
  change wpAnyH _ _ _ _ _ _ _ _ (World.drew _)
  refine wpAnyH_take (i := 0) (v := .pointer (some ⟨gh, 2, none⟩)) rfl (by kernel_rfl) (by kernel_rfl) (by kernel_rfl) (fun _ _ _ h => h) (Or.inl ⟨by rfl, by intro w _; go_simp⟩) ⟨HB5.out.drew, HD5.out.drew, HR5.out⟩ ?_
  refine wpAnyH_take (i := 1) (v := .int .u16 (a2 : Nat)) rfl (by kernel_rfl) (by kernel_rfl) (by kernel_rfl) (fun _ _ _ h => h) (Or.inl ⟨by rfl, by intro wz hz; have hc : wz.cell? ⟨gh, 2, none⟩ = some (.int .u16 (a2 : Nat)) := (by rw [hz.2.1.cell]; rfl); go_simp⟩) ⟨HB5.out.drew, HD5.out.drew, HR5.out⟩ ?_
  refine wpAnyH_take (i := 2) (v := .pointer (some ⟨b, 0, none⟩)) rfl (by kernel_rfl) (by kernel_rfl) (by kernel_rfl) (fun _ _ _ h => h) (Or.inl ⟨by rfl, by intro w _; go_simp⟩) ⟨HB5.out.drew, HD5.out.drew, HR5.out⟩ ?_
  go_simp
  refine wpAnyH_take (i := 3) (v := .pointer (some ⟨b, 0, none⟩)) rfl (by kernel_rfl) (by kernel_rfl) (by kernel_rfl) (fun _ _ _ h => h) (Or.inl ⟨by rfl, by intro w _; go_simp⟩) ⟨HB5.out.drew, HD5.out.drew, HR5.out⟩ ?_
  refine wpAnyH_take (i := 4) (v := .pointer (some ⟨b, 3, none⟩)) rfl (by kernel_rfl) (by kernel_rfl) (by kernel_rfl) (fun _ _ _ h => h) (Or.inl ⟨by rfl, by intro w _; go_simp⟩) ⟨HB5.out.drew, HD5.out.drew, HR5.out⟩ ?_
  refine wpAnyH_take (i := 5) (v := .pointer (some ⟨b, 5, none⟩)) rfl (by kernel_rfl) (by kernel_rfl) (by kernel_rfl) (fun _ _ _ h => h) (Or.inl ⟨by rfl, by intro w _; go_simp⟩) ⟨HB5.out.drew, HD5.out.drew, HR5.out⟩ ?_
  go_simp
  refine wpAnyH_take (i := 6) (v := .int .u16 (a2 : Nat)) rfl (by kernel_rfl) (by kernel_rfl) (by kernel_rfl) (fun _ _ _ h => h) (Or.inl ⟨by rfl, by intro wz hz; have hc : wz.cell? ⟨b, 5, none⟩ = some (.int .u16 (a2 : Nat)) := (by rw [hz.1.cell]; rfl); go_simp⟩) ⟨HB5.out.drew, HD5.out.drew, HR5.out⟩ ?_
  refine wpAnyH_take (i := 7) (v := .bool false) rfl (by kernel_rfl) (by kernel_rfl) (by kernel_rfl) (fun _ _ _ h => h) (Or.inl ⟨by rfl, by intro w _; go_simp⟩) ⟨HB5.out.drew, HD5.out.drew, HR5.out⟩ ?_
  refine wpAnyH_take (i := 8) (v := .bool false) rfl (by kernel_rfl) (by kernel_rfl) (by kernel_rfl) (fun _ _ _ h => h) (Or.inl ⟨by rfl, by intro w _; go_simp⟩) ⟨HB5.out.drew, HD5.out.drew, HR5.out⟩ ?_
  go_simp
  refine wpAnyH_take (i := 9) (v := .pointer (some ⟨gh, 3, none⟩)) rfl (by kernel_rfl) (by kernel_rfl) (by kernel_rfl) (fun _ _ _ h => h) (Or.inl ⟨by rfl, by intro w _; go_simp⟩) ⟨HB5.out.drew, HD5.out.drew, HR5.out⟩ ?_
  refine wpAnyH_take (i := 10) (v := .int .u32 (a3 : Nat)) rfl (by kernel_rfl) (by kernel_rfl) (by kernel_rfl) (fun _ _ _ h => h) (Or.inl ⟨by rfl, by intro wz hz; have hc : wz.cell? ⟨gh, 3, none⟩ = some (.int .u32 (a3 : Nat)) := (by rw [hz.2.1.cell]; rfl); go_simp⟩) ⟨HB5.out.drew, HD5.out.drew, HR5.out⟩ ?_
  refine wpAnyH_take (i := 11) (v := .pointer (some ⟨b, 0, none⟩)) rfl (by kernel_rfl) (by kernel_rfl) (by kernel_rfl) (fun _ _ _ h => h) (Or.inl ⟨by rfl, by intro w _; go_simp⟩) ⟨HB5.out.drew, HD5.out.drew, HR5.out⟩ ?_
  go_simp
  refine wpAnyH_take (i := 12) (v := .pointer (some ⟨b, 0, none⟩)) rfl (by kernel_rfl) (by kernel_rfl) (by kernel_rfl) (fun _ _ _ h => h) (Or.inl ⟨by rfl, by intro w _; go_simp⟩) ⟨HB5.out.drew, HD5.out.drew, HR5.out⟩ ?_
  go_simp
  refine wpAnyH_take (i := 13) (v := .pointer (some ⟨b, 3, none⟩)) rfl (by kernel_rfl) (by kernel_rfl) (by kernel_rfl) (fun _ _ _ h => h) (Or.inl ⟨by rfl, by intro w _; go_simp⟩) ⟨HB5.out.drew, HD5.out.drew, HR5.out⟩ ?_
  refine wpAnyH_take (i := 14) (v := .pointer (some ⟨b, 6, none⟩)) rfl (by kernel_rfl) (by kernel_rfl) (by kernel_rfl) (fun _ _ _ h => h) (Or.inl ⟨by rfl, by intro w _; go_simp⟩) ⟨HB5.out.drew, HD5.out.drew, HR5.out⟩ ?_
  go_simp
  refine wpAnyH_take (i := 15) (v := .int .u32 (a3 : Nat)) rfl (by kernel_rfl) (by kernel_rfl) (by kernel_rfl) (fun _ _ _ h => h) (Or.inl ⟨by rfl, by intro wz hz; have hc : wz.cell? ⟨b, 6, none⟩ = some (.int .u32 (a3 : Nat)) := (by rw [hz.1.cell]; rfl); go_simp⟩) ⟨HB5.out.drew, HD5.out.drew, HR5.out⟩ ?_
  refine wpAnyH_take (i := 16) (v := .bool false) rfl (by kernel_rfl) (by kernel_rfl) (by kernel_rfl) (fun _ _ _ h => h) (Or.inl ⟨by rfl, by intro w _; go_simp⟩) ⟨HB5.out.drew, HD5.out.drew, HR5.out⟩ ?_
  go_simp
  refine wpAnyH_take (i := 17) (v := .bool false) rfl (by kernel_rfl) (by kernel_rfl) (by kernel_rfl) (fun _ _ _ h => h) (Or.inl ⟨by rfl, by intro w _; go_simp⟩) ⟨HB5.out.drew, HD5.out.drew, HR5.out⟩ ?_
  go_simp
  refine wpAnyH_take (i := 18) (v := .bool false) rfl (by kernel_rfl) (by kernel_rfl) (by kernel_rfl) (fun _ _ _ h => h) (Or.inl ⟨by rfl, by intro w _; go_simp⟩) ⟨HB5.out.drew, HD5.out.drew, HR5.out⟩ ?_
  refine wpAnyH_done (by kernel_rfl) ?_ _
  go_upto_region 11 with fail
  go_simp
  have HO5 := Lib.hid (HO.out.grown HG5.out (Or.inr (HO.out.ne HB.out (by decide))))
  have CR := Lib.hid (response_calls K N nk c1 A1 H S ⟨a0, a1, a2, a3⟩ 72 w5.drew.drew (OwnAt.sl (w := w5.drew.drew) (OwnAt.drew (OwnAt.drew HO5.out))) HNK.out.symm (by rw [HNK.out]; exact hKl) hH hS HNL.out (HH.out ▸ parH_ok l) (by omega))
  have HP0 := Lib.hid (parP_len l 2 0 HLL.out (by omega))
  have HP1 := Lib.hid (parP_len l 2 1 HLL.out (by omega))
  refine wp_region_held (S := fun wx : World => Blk wx b 56 (endC (.slice A1 nk c1) H S ⟨lk, lf, a2, a3⟩ N false d).toArray ∧ Blk wx gh 54 #[.int .u8 (a0 : Nat), .int .u8 (a1 : Nat), .int .u16 (a2 : Nat), .int .u32 (a3 : Nat)] ∧ ∀ i, i < 2 → wx.rangeAt gp (i * 32) ((parP l i).map b8)) (by kernel_rfl) ?_
  change wpAnyH _ _ _ _ _ _ _ _ (World.drew _)
  refine wpAnyH_take (i := 0) (v := .slice (some ⟨gp, 0, none⟩) 2 cp) rfl (by kernel_rfl) (by kernel_rfl) (by kernel_rfl) (fun _ _ _ h => h) (Or.inl ⟨by rfl, by intro w _; go_simp⟩) ⟨HB5.out.drew.drew, HD5.out.drew.drew, HR5.out⟩ ?_
  refine wpAnyH_take (i := 1) (v := .pointer (some ⟨gp, 0, none⟩)) rfl (by kernel_rfl) (by kernel_rfl) (by kernel_rfl) (fun _ _ _ h => h) (Or.inl ⟨by rfl, by intro w _; go_simp⟩) ⟨HB5.out.drew.drew, HD5.out.drew.drew, HR5.out⟩ ?_
  refine wpAnyH_take (i := 2) (v := .agg (arrC b8 (parP l 0))) rfl (by kernel_rfl) (by kernel_rfl) (by kernel_rfl) (fun _ _ _ h => h) (yields_load (by rfl) 25 (.tmp 59) rfl gp 0 (by rfl) ((parP l 0).map b8) _ (fun _ h => by have := h.2.2 0 (by omega); simpa using this) Try.underlying25 rfl (by rw [List.length_map, HP0.out]; exact a32_size)) ⟨HB5.out.drew.drew, HD5.out.drew.drew, HR5.out⟩ ?_
  go_simp
  refine wpAnyH_take (i := 3) (v := .pointer (some ⟨b, 0, none⟩)) rfl (by kernel_rfl) (by kernel_rfl) (by kernel_rfl) (fun _ _ _ h => h) (Or.inl ⟨by rfl, by intro w _; go_simp⟩) ⟨HB5.out.drew.drew, HD5.out.drew.drew, HR5.out⟩ ?_
  refine wpAnyH_take (i := 4) (v := .pointer (some ⟨b, 0, none⟩)) rfl (by kernel_rfl) (by kernel_rfl) (by kernel_rfl) (fun _ _ _ h => h) (Or.inl ⟨by rfl, by intro w _; go_simp⟩) ⟨HB5.out.drew.drew, HD5.out.drew.drew, HR5.out⟩ ?_
  refine wpAnyH_take (i := 5) (v := .pointer (some ⟨b, 0, none⟩)) rfl (by kernel_rfl) (by kernel_rfl) (by kernel_rfl) (fun _ _ _ h => h) (Or.inl ⟨by rfl, by intro w _; go_simp⟩) ⟨HB5.out.drew.drew, HD5.out.drew.drew, HR5.out⟩ ?_
  go_simp
  refine wpAnyH_take (i := 6) (v := .agg #[.slice A1 nk c1, .string H, .string S]) rfl (by kernel_rfl) (by kernel_rfl) (by kernel_rfl) (fun _ _ _ h => h) (yields_load (by rfl) 52 (.tmp 63) rfl b 0 (by rfl) [.slice A1 nk c1, .string H, .string S] _ (fun _ h => end_range_party h.1) Try.underlying52 rfl party_size) ⟨HB5.out.drew.drew, HD5.out.drew.drew, HR5.out⟩ ?_
  refine wpAnyH_take (i := 7) (v := .pointer (some ⟨b, 0, none⟩)) rfl (by kernel_rfl) (by kernel_rfl) (by kernel_rfl) (fun _ _ _ h => h) (Or.inl ⟨by rfl, by intro w _; go_simp⟩) ⟨HB5.out.drew.drew, HD5.out.drew.drew, HR5.out⟩ ?_
  refine wpAnyH_take (i := 8) (v := .pointer (some ⟨b, 0, none⟩)) rfl (by kernel_rfl) (by kernel_rfl) (by kernel_rfl) (fun _ _ _ h => h) (Or.inl ⟨by rfl, by intro w _; go_simp⟩) ⟨HB5.out.drew.drew, HD5.out.drew.drew, HR5.out⟩ ?_
  go_simp
  refine wpAnyH_take (i := 9) (v := .pointer (some ⟨b, 7, none⟩)) rfl (by kernel_rfl) (by kernel_rfl) (by kernel_rfl) (fun _ _ _ h => h) (Or.inl ⟨by rfl, by intro w _; go_simp⟩) ⟨HB5.out.drew.drew, HD5.out.drew.drew, HR5.out⟩ ?_
  refine wpAnyH_take (i := 10) (v := .agg (arrC b8 N)) rfl (by kernel_rfl) (by kernel_rfl) (by kernel_rfl) (fun _ _ _ h => h) (yields_load (by rfl) 25 (.tmp 67) rfl b 7 (by rfl) (N.map b8) _ (fun _ h => end_range_nonce h.1) Try.underlying25 rfl (by rw [List.length_map, HNL.out]; exact a32_size)) ⟨HB5.out.drew.drew, HD5.out.drew.drew, HR5.out⟩ ?_
  refine wpAnyH_take (i := 11) (v := .agg #[.int .u8 (a0 : Nat), .int .u8 (a1 : Nat), .int .u16 (a2 : Nat), .int .u32 (a3 : Nat)]) rfl (by kernel_rfl) (by kernel_rfl) (by kernel_rfl) (fun _ _ _ h => h) (yields_load (by rfl) 54 (.tmp 6) rfl gh 0 (by rfl) [.int .u8 (a0 : Nat), .int .u8 (a1 : Nat), .int .u16 (a2 : Nat), .int .u32 (a3 : Nat)] _ (fun _ h => blk_range h.2.1) Try.underlying54 rfl head_size) ⟨HB5.out.drew.drew, HD5.out.drew.drew, HR5.out⟩ ?_
  go_simp
  refine heldOne (i := 12) (by kernel_rfl) rfl (fun K' hK' => ?_)
  refine step_call rfl (f := 28) rfl Try.func28 (by kernel_rfl) (by kernel_rfl) (by rw [List.map_toArray]; rfl) CR.out ?_
  intro w7 hb7
  have HB7 := Lib.hid (HB5.out.drew.drew.below hb7 HB5.out.lt)
  have HD7 := Lib.hid (HD5.out.drew.drew.below hb7 HD5.out.lt)
  have HR7 : Hid (∀ i, i < 2 → w7.rangeAt gp (i * 32) ((parP l i).map b8)) := fun i hi => rangeAt_keep (HR5.out i hi) (hb7.block gp (by show gp < w5.heap.size; omega))
  have HG7 := Lib.hid (Lib.grownBy_below (grown_drew (grown_drew HG5.out)) hb7)
  have HO7 := Lib.hid ((OwnAt.drew (OwnAt.drew HO5.out)).below hb7 (Nat.le_refl _))
  have hz7 : w5.heap.size ≤ w7.heap.size := hb7.size
  clear hb7
  refine hK' _ _ ⟨HB7.out, HD7.out, HR7.out⟩ ?_
  clear hK' K'
  go_simp
  refine heldOne (i := 13) (by kernel_rfl) rfl (fun K' hK' => ?_)
  refine step_neq_arr rfl (.tmp 60) (.tmp 70) _ rfl (parP l 0) (respB K H S N ⟨a0, a1, a2, a3⟩ 72) rfl rfl HP0.out (respB_len _ _ _ _ _ _) ?_
  rw [HRS.out]
  refine hK' _ _ ⟨HB7.out, HD7.out, HR7.out⟩ ?_
  clear hK' K'
  go_simp
  refine wpAnyH_take (i := 14) (v := .bool true) rfl (by kernel_rfl) (by kernel_rfl) (by kernel_rfl) (fun _ _ _ h => h) (Or.inl ⟨by rfl, by intro w _; go_simp⟩) ⟨HB7.out, HD7.out, HR7.out⟩ ?_
  go_simp
  refine wpAnyH_done (by kernel_rfl) ?_ _
  go_wp2_with fail
  go_ret2
  exact ⟨rfl, HG7.out, _, HB7.out, HO7.out⟩
end Go.Proofs.Ytfamififoifagaa
