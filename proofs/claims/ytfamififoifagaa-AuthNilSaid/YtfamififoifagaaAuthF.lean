/- Contracts of auth: Answer. -/
import Derived.Test.YtfamififoifagaaAuthD
namespace Go.Proofs.Ytfamififoifagaa
open Go.RowKit Words

theorem endC_headSpl {v : Value} {H S : ByteArray} {h h' : Hd} {N : List UInt8} {o d : Bool} : spl (endC v H S h N o d).toArray 3 (hdC h').toArray = (endC v H S h' N o d).toArray := by
  unfold spl
  congr 1
/-- thirty-two zeros -/
def zero32 : List UInt8 := List.replicate 32 0
theorem bool_size : (Try.prog.info? 4).map (·.size) = some 1 := by kernel_rfl
def AnOk (b : Nat) (K : List UInt8) (H S : ByteArray) (h : Hd) (R N : List UInt8) (w : World) (e : Ending) (w' : World) : Prop :=
  ∃ s, e = .returned (.tuple #[s, .int .i64 0]) ∧ OwnAt w' w.heap.size 5 s ((msgB h [R, N]).map b8) ∧ w.grownBy w' (some b) ∧ EndIs 59 w' b K H S h N true false
set_option maxRecDepth 100000 in
set_option maxHeartbeats 4000000 in
theorem answer_both (K N0 N l : List UInt8) (H S : ByteArray) (last : Hd) (o d : Bool) (b L c a0 a1 a2 a3 : Nat) (A : Option Addr) (w : World) (hE : EndIs 59 w b K H S last N0 o d) (hK : 0 < K.length) (hKl : K.length ≤ 100000) (hN0 : N0.length = 32) (hN : N.length = 32) (hH : H.size ≤ 60000) (hS : S.size ≤ 60000)
    (hL : L = l.length) (hs : Sl w w.heap.size A (l.map b8)) (hPE : parE l 1 0 1 = 0) (hPH : parH l = ⟨a0, a1, a2, a3⟩) :
    Calls Try.prog 12 #[.pointer (some ⟨b, 0, none⟩), .slice A L c, .bool true, .agg (arrC b8 N)] w (AnOk b K H S ⟨2, 1, a2, a3⟩ (respB K H S (parP l 0) ⟨2, 1, a2, a3⟩ 72) (N) w) := by
  have hbl := hE.lt
  obtain ⟨v, hB, hO⟩ := hE
  obtain ⟨A1, c1, rfl, _, _, _⟩ := hO.form8
  generalize hnk : K.length = nk at hB hO hK hKl
  have HNK := Lib.hid hnk
  have HB := Lib.hid hB
  have HO := Lib.hid hO
  have HS := Lib.hid hs
  have HL := Lib.hid hL
  have HNL := Lib.hid hN
  have HN0 := Lib.hid hN0
  have HE := Lib.hid hPE
  have HH := Lib.hid hPH
  have HLL := Lib.hid (parE_len hPE)
  have hok := hPH ▸ parH_ok l
  have HOK : Hid (Hd.ok ⟨2, 1, a2, a3⟩) := ⟨show (2 : Nat) < 256 by omega, show (1 : Nat) < 256 by omega, hok.2.2.1, hok.2.2.2⟩
  clear hB hO hs hN hN0 hL hPE hPH hnk hok
  go_enter Try.func12, Try.ntmps12
  go_upto_region 1 with fail
  have hX1 : Blk (w.alloc (.cells (arrC b8 N) 25)) w.heap.size 25 (arrC b8 N) := Blk.new_ rfl
  have hB1 := HB.out.alloc (.cells (arrC b8 N) 25)
  have hb1 : Below w.heap.size w (w.alloc (.cells (arrC b8 N) 25)) := (Below.refl _ _).alloc (Nat.le_refl _) _
  generalize w.alloc (.cells (arrC b8 N) 25) = w1 at hX1 hB1 hb1 ⊢
  have HBB1 := Lib.hid hb1
  have hz1 := hb1.size
  generalize hgg : w.heap.size = g at hX1 hbl ⊢
  have hgl := hX1.lt
  have c0 : w1.cell? ⟨b, 0, none⟩ = some (.slice A1 nk c1) := by rw [hB1.cell]; rfl
  have c1' : w1.cell? ⟨b, 1, none⟩ = some (.string H) := by rw [hB1.cell]; rfl
  have c2 : w1.cell? ⟨b, 2, none⟩ = some (.string S) := by rw [hB1.cell]; rfl
  have HX1 := Lib.hid hX1
  have HB1 := Lib.hid hB1
  have HGG := Lib.hid hgg
  clear hX1 hB1 hb1 hgg
  go_upto_region 4 with (first
    | (go_at_call 25; refine (none_calls nk c1 A1 H S w1 hK).mono ?_; rintro e w2 ⟨rfl, hb2⟩; have HB2 := Lib.hid (HB1.out.below hb2 HB1.out.lt); have HX2 := Lib.hid (HX1.out.below hb2 hgl); have HBB2 := Lib.hid (below_step HBB1.out hb2); have hz2 := hb2.size; have CP := Lib.hid (parsed_yes l L c 1 0 1 a0 a1 a2 a3 A w2 (by omega) (by omega) HL.out ((HS.out.below (below_step HBB1.out hb2)).more (by have := HGG.out; omega)) (by omega) (by omega) HE.out HH.out); clear hb2)
    | (go_at_call 27; refine CP.out.mono ?_; rintro e w3 ⟨gp, cp, rfl, hb3, hp1, hp2, hr3⟩; have hz3 := hb3.size; have HB3 := Lib.hid (HB2.out.below hb3 HB2.out.lt); have HX3 := Lib.hid (HX2.out.below hb3 HX2.out.lt); have HBB3 := Lib.hid (below_step HBB2.out hb3); have HR3 := Lib.hid hr3; clear hb3 hr3))
  have hD4 : Blk (w3.alloc (.cells #[.int .u8 (a0 : Nat), .int .u8 (a1 : Nat), .int .u16 (a2 : Nat), .int .u32 (a3 : Nat)] 54)) w3.heap.size 54 #[.int .u8 (a0 : Nat), .int .u8 (a1 : Nat), .int .u16 (a2 : Nat), .int .u32 (a3 : Nat)] := Blk.new_ rfl
  have hB4 := HB3.out.alloc (.cells #[.int .u8 (a0 : Nat), .int .u8 (a1 : Nat), .int .u16 (a2 : Nat), .int .u32 (a3 : Nat)] 54)
  have hX4 := HX3.out.alloc (.cells #[.int .u8 (a0 : Nat), .int .u8 (a1 : Nat), .int .u16 (a2 : Nat), .int .u32 (a3 : Nat)] 54)
  have hb4 : Below w3.heap.size w3 (w3.alloc (.cells #[.int .u8 (a0 : Nat), .int .u8 (a1 : Nat), .int .u16 (a2 : Nat), .int .u32 (a3 : Nat)] 54)) := (Below.refl _ _).alloc (Nat.le_refl _) _
  generalize w3.alloc (.cells #[.int .u8 (a0 : Nat), .int .u8 (a1 : Nat), .int .u16 (a2 : Nat), .int .u32 (a3 : Nat)] 54) = w4 at hD4 hB4 hX4 hb4 ⊢
  have hz4 := hb4.size
  have HG4 := Lib.hid (Lib.grownBy_below (World.grownBy.refl w (some b)) (below_step HBB3.out hb4))
  have HR4 : Hid (∀ i, i < 1 → w4.rangeAt gp (i * 32) ((parP l i).map b8)) := fun i hi => rangeAt_keep (HR3.out i hi) (hb4.block gp hp2)
  generalize w3.heap.size = gh at hD4 hp2 hz3 hz4 hb4 ⊢
  have hghl := hD4.lt
  have d0 : w4.cell? ⟨gh, 0, none⟩ = some (.int .u8 (a0 : Nat)) := by rw [hD4.cell]; rfl
  have f4 := hD4.frozen
  have HD4 := Lib.hid hD4
  have HB4 := Lib.hid hB4
  have HX4 := Lib.hid hX4
  clear hD4 hB4 hX4 hb4 c0 c1' c2
  have hbg : b ≠ g := by omega
  have hbgh : b ≠ gh := by omega
  have hggh : g ≠ gh := by omega
  have hgpgh : gp ≠ gh := by omega
  have hgpb : gp ≠ b := by omega
  have hgpg : gp ≠ g := by omega
  go_upto_region 7 with fail
  have hD5 : Blk (w4.setCell ⟨gh, 0, none⟩ (.int .u8 2)) gh 54 #[.int .u8 ((2 : Nat) : Int), .int .u8 ((a1 : Nat)), .int .u16 (a2 : Nat), .int .u32 (a3 : Nat)] := Blk.of_eq (HD4.out.set_ 0 _) rfl
  have hg5 : w4.grownBy (w4.setCell ⟨gh, 0, none⟩ (.int .u8 2)) (some gh) := Lib.grownBy_setB (World.grownBy.refl w4 _) 0 _
  generalize w4.setCell ⟨gh, 0, none⟩ (.int .u8 2) = w5 at hD5 hg5 ⊢
  have HD5 := Lib.hid hD5
  have HB5 := Lib.hid (HB4.out.grown hg5 (by intro e; injection e with e; omega))
  have HX5 := Lib.hid (HX4.out.grown hg5 (by intro e; injection e with e; omega))
  have HR5 : Hid (∀ i, i < 1 → w5.rangeAt gp (i * 32) ((parP l i).map b8)) := fun i hi => rangeAt_keep (HR4.out i hi) (hg5.block gp (by omega) (by intro e; injection e with e; omega))
  have HG5 := Lib.hid (World.grownBy.andThen HG4.out hg5 (fun j e => by injection e with e; left; have := HGG.out; omega))
  have hz5 := hg5.size
  clear hD5 hg5 d0 f4
  have d1 : w5.cell? ⟨gh, 1, none⟩ = some (.int .u8 (a1 : Nat)) := by rw [HD5.out.cell]; rfl
  have f5 := HD5.out.frozen
  go_upto_region 10 with fail
  have hD6 : Blk (w5.setCell ⟨gh, 1, none⟩ (.int .u8 1)) gh 54 #[.int .u8 ((2 : Nat) : Int), .int .u8 (((1 : Nat) : Int)), .int .u16 (a2 : Nat), .int .u32 (a3 : Nat)] := Blk.of_eq (HD5.out.set_ 1 _) rfl
  have hg6 : w5.grownBy (w5.setCell ⟨gh, 1, none⟩ (.int .u8 1)) (some gh) := Lib.grownBy_setB (World.grownBy.refl w5 _) 1 _
  generalize w5.setCell ⟨gh, 1, none⟩ (.int .u8 1) = w6 at hD6 hg6 ⊢
  have HD6 := Lib.hid hD6
  have HB6 := Lib.hid (HB5.out.grown hg6 (by intro e; injection e with e; omega))
  have HX6 := Lib.hid (HX5.out.grown hg6 (by intro e; injection e with e; omega))
  have HR6 : Hid (∀ i, i < 1 → w6.rangeAt gp (i * 32) ((parP l i).map b8)) := fun i hi => rangeAt_keep (HR5.out i hi) (hg6.block gp (by omega) (by intro e; injection e with e; omega))
  have HG6 := Lib.hid (World.grownBy.andThen HG5.out hg6 (fun j e => by injection e with e; left; have := HGG.out; omega))
  have hz6 := hg6.size
  have HZL := HNL
  clear hD6 hg6 d1 f5
  refine wp_region_held (S := fun wx : World => Blk wx gh 54 #[.int .u8 ((2 : Nat) : Int), .int .u8 (((1 : Nat) : Int)), .int .u16 (a2 : Nat), .int .u32 (a3 : Nat)] ∧ Blk wx g 25 (arrC b8 N)) (by kernel_rfl) ?_
  change wpAnyH _ _ _ _ _ _ _ _ (World.drew _)
  refine wpAnyH_take (i := 0) (v := .pointer (some ⟨b, 0, none⟩)) rfl (by kernel_rfl) (by kernel_rfl) (by kernel_rfl) (fun _ _ _ h => h) (Or.inl ⟨by rfl, by intro w _; go_simp⟩) ⟨HD6.out.drew, HX6.out.drew⟩ ?_
  refine wpAnyH_take (i := 1) (v := .pointer (some ⟨b, 0, none⟩)) rfl (by kernel_rfl) (by kernel_rfl) (by kernel_rfl) (fun _ _ _ h => h) (Or.inl ⟨by rfl, by intro w _; go_simp⟩) ⟨HD6.out.drew, HX6.out.drew⟩ ?_
  refine wpAnyH_take (i := 2) (v := .pointer (some ⟨b, 0, none⟩)) rfl (by kernel_rfl) (by kernel_rfl) (by kernel_rfl) (fun _ _ _ h => h) (Or.inl ⟨by rfl, by intro w _; go_simp⟩) ⟨HD6.out.drew, HX6.out.drew⟩ ?_
  go_simp
  refine wpAnyH_take (i := 3) (v := .pointer (some ⟨b, 0, none⟩)) rfl (by kernel_rfl) (by kernel_rfl) (by kernel_rfl) (fun _ _ _ h => h) (Or.inl ⟨by rfl, by intro w _; go_simp⟩) ⟨HD6.out.drew, HX6.out.drew⟩ ?_
  refine wpAnyH_take (i := 4) (v := .agg #[.int .u8 ((2 : Nat) : Int), .int .u8 (((1 : Nat) : Int)), .int .u16 (a2 : Nat), .int .u32 (a3 : Nat)]) rfl (by kernel_rfl) (by kernel_rfl) (by kernel_rfl) (fun _ _ _ h => h) (yields_load (by rfl) 54 (.tmp 10) rfl gh 0 (by rfl) [.int .u8 ((2 : Nat) : Int), .int .u8 (((1 : Nat) : Int)), .int .u16 (a2 : Nat), .int .u32 (a3 : Nat)] _ (fun _ h => blk_range h.1) Try.underlying54 rfl head_size) ⟨HD6.out.drew, HX6.out.drew⟩ ?_
  refine wpAnyH_take (i := 5) (v := .agg (arrC b8 N)) rfl (by kernel_rfl) (by kernel_rfl) (by kernel_rfl) (fun _ _ _ h => h) (yields_load (by rfl) 25 (.tmp 7) rfl g 0 (by rfl) (N.map b8) _ (fun _ h => blk_range h.2) Try.underlying25 rfl (by rw [List.length_map, HZL.out]; exact a32_size)) ⟨HD6.out.drew, HX6.out.drew⟩ ?_
  go_simp
  refine wpAnyH_take (i := 6) (v := .pointer (some ⟨b, 0, none⟩)) rfl (by kernel_rfl) (by kernel_rfl) (by kernel_rfl) (fun _ _ _ h => h) (Or.inl ⟨by rfl, by intro w _; go_simp⟩) ⟨HD6.out.drew, HX6.out.drew⟩ ?_
  refine wpAnyH_take (i := 7) (v := .pointer (some ⟨b, 3, none⟩)) rfl (by kernel_rfl) (by kernel_rfl) (by kernel_rfl) (fun _ _ _ h => h) (Or.inl ⟨by rfl, by intro w _; go_simp⟩) ⟨HD6.out.drew, HX6.out.drew⟩ ?_
  go_simp
  refine heldOne (i := 8) (by kernel_rfl) rfl (fun K' hK' => ?_)
  refine step_store_part rfl 54 (.tmp 43) (.tmp 40) (cells := (hdC ⟨2, 1, a2, a3⟩).toArray) rfl rfl rfl HB6.out.drew head_size (by rw [endC_size HN0.out]; show 3 + 4 ≤ 41; omega) (by intro u hu; simp [hdC] at hu; rcases hu with rfl | rfl | rfl | rfl <;> rfl) ?_
  intro w7 hB7 hg7 hz7
  rw [endC_headSpl] at hB7
  have HB7 := Lib.hid hB7
  have HD7 := Lib.hid (HD6.out.drew.grown hg7 (by intro e; injection e with e; omega))
  have HX7 := Lib.hid (HX6.out.drew.grown hg7 (by intro e; injection e with e; omega))
  have HH7 := Lib.hid hg7
  clear hB7 hg7 hz7
  refine hK' _ _ ⟨HD7.out, HX7.out⟩ ?_
  clear hK' K'
  go_simp
  refine wpAnyH_take (i := 9) (v := .pointer (some ⟨b, 0, none⟩)) rfl (by kernel_rfl) (by kernel_rfl) (by kernel_rfl) (fun _ _ _ h => h) (Or.inl ⟨by rfl, by intro w _; go_simp⟩) ⟨HD7.out, HX7.out⟩ ?_
  refine wpAnyH_take (i := 10) (v := .pointer (some ⟨b, 7, none⟩)) rfl (by kernel_rfl) (by kernel_rfl) (by kernel_rfl) (fun _ _ _ h => h) (Or.inl ⟨by rfl, by intro w _; go_simp⟩) ⟨HD7.out, HX7.out⟩ ?_
  go_simp
  refine heldOne (i := 11) (by kernel_rfl) rfl (fun K' hK' => ?_)
  refine step_store_part rfl 25 (.tmp 45) (.tmp 41) rfl rfl rfl HB7.out (by rw [arrC_size, HZL.out]; exact a32_size) (by rw [arrC_size, HZL.out, endC_size HN0.out]; decide) (arrC_one b8_one) ?_
  intro w8 hB8 hg8 hz8
  rw [endC_nonce HN0.out HZL.out] at hB8
  have HB8 := Lib.hid hB8
  have HD8 := Lib.hid (HD7.out.grown hg8 (by intro e; injection e with e; omega))
  have HX8 := Lib.hid (HX7.out.grown hg8 (by intro e; injection e with e; omega))
  have HH8 := Lib.hid hg8
  clear hB8 hg8 hz8
  refine hK' _ _ ⟨HD8.out, HX8.out⟩ ?_
  clear hK' K'
  go_simp
  refine wpAnyH_take (i := 12) (v := .pointer (some ⟨b, 0, none⟩)) rfl (by kernel_rfl) (by kernel_rfl) (by kernel_rfl) (fun _ _ _ h => h) (Or.inl ⟨by rfl, by intro w _; go_simp⟩) ⟨HD8.out, HX8.out⟩ ?_
  refine wpAnyH_take (i := 13) (v := .pointer (some ⟨b, 39, none⟩)) rfl (by kernel_rfl) (by kernel_rfl) (by kernel_rfl) (fun _ _ _ h => h) (Or.inl ⟨by rfl, by intro w _; go_simp⟩) ⟨HD8.out, HX8.out⟩ ?_
  go_simp
  refine heldOne (i := 14) (by kernel_rfl) rfl (fun K' hK' => ?_)
  refine step_store_one rfl 4 (.tmp 47) (.const (.bool true)) rfl (v := .bool true) rfl rfl rfl rfl HB8.out bool_size (by rw [endC_size HZL.out]; decide) ?_
  intro w9 hB9 hg9 hz9
  rw [endC_setOpen HZL.out] at hB9
  have HB9 := Lib.hid hB9
  have HD9 := Lib.hid (HD8.out.grown hg9 (by intro e; injection e with e; omega))
  have HX9 := Lib.hid (HX8.out.grown hg9 (by intro e; injection e with e; omega))
  have HH9 := Lib.hid hg9
  clear hB9 hg9 hz9
  refine hK' _ _ ⟨HD9.out, HX9.out⟩ ?_
  clear hK' K'
  go_simp
  refine wpAnyH_take (i := 15) (v := .pointer (some ⟨b, 0, none⟩)) rfl (by kernel_rfl) (by kernel_rfl) (by kernel_rfl) (fun _ _ _ h => h) (Or.inl ⟨by rfl, by intro w _; go_simp⟩) ⟨HD9.out, HX9.out⟩ ?_
  refine wpAnyH_take (i := 16) (v := .pointer (some ⟨b, 40, none⟩)) rfl (by kernel_rfl) (by kernel_rfl) (by kernel_rfl) (fun _ _ _ h => h) (Or.inl ⟨by rfl, by intro w _; go_simp⟩) ⟨HD9.out, HX9.out⟩ ?_
  go_simp
  refine heldOne (i := 17) (by kernel_rfl) rfl (fun K' hK' => ?_)
  refine step_store_one rfl 4 (.tmp 49) (.const (.bool false)) rfl (v := .bool false) rfl rfl rfl rfl HB9.out bool_size (by rw [endC_size HZL.out]; decide) ?_
  intro w10 hB10 hg10 hz10
  rw [endC_setDone HZL.out] at hB10
  have HB10 := Lib.hid hB10
  have HD10 := Lib.hid (HD9.out.grown hg10 (by intro e; injection e with e; omega))
  have HX10 := Lib.hid (HX9.out.grown hg10 (by intro e; injection e with e; omega))
  have HH10 := Lib.hid hg10
  clear hB10 hg10 hz10
  refine hK' _ _ ⟨HD10.out, HX10.out⟩ ?_
  clear hK' K'
  go_simp
  refine wpAnyH_done (by kernel_rfl) ?_ _
  have hg6' : w6.grownBy w10 (some b) := World.grownBy.trans (World.grownBy.trans (World.grownBy.trans (World.grownBy.trans (grown_drew (World.grownBy.refl w6 _)) HH7.out) HH8.out) HH9.out) HH10.out
  have HG10 := Lib.hid (World.grownBy.trans HG6.out hg6')
  have HR10 : Hid (w10.rangeAt gp 0 ((parP l 0).map b8)) := rangeAt_keep (by have h6 := HR6.out 0 (by omega); simpa using h6) (hg6'.block gp (by omega) (by intro e; injection e with e; omega))
  have hz10 := hg6'.size
  have HO10 := Lib.hid (HO.out.grown HG10.out (Or.inr (HO.out.ne HB.out (by decide))))
  clear hg6'
  go_upto_region 11 with fail
  have HP0 := Lib.hid (parP_len l 1 0 HLL.out (by omega))
  have CR := Lib.hid (response_calls K (parP l 0) nk c1 A1 H S ⟨2, 1, a2, a3⟩ 72 w10.drew (OwnAt.sl (w := w10.drew) (OwnAt.drew HO10.out)) HNK.out.symm (by rw [HNK.out]; exact hKl) hH hS HP0.out HOK.out (by omega))
  refine wp_region_held (S := fun wx : World => Blk wx b 59 (endC (.slice A1 nk c1) H S ⟨2, 1, a2, a3⟩ N true false).toArray ∧ Blk wx gh 54 #[.int .u8 ((2 : Nat) : Int), .int .u8 (((1 : Nat) : Int)), .int .u16 (a2 : Nat), .int .u32 (a3 : Nat)] ∧ Blk wx g 25 (arrC b8 N) ∧ wx.rangeAt gp 0 ((parP l 0).map b8)) (by kernel_rfl) ?_
  change wpAnyH _ _ _ _ _ _ _ _ (World.drew _)
  refine wpAnyH_take (i := 0) (v := .agg #[.int .u8 ((2 : Nat) : Int), .int .u8 (((1 : Nat) : Int)), .int .u16 (a2 : Nat), .int .u32 (a3 : Nat)]) rfl (by kernel_rfl) (by kernel_rfl) (by kernel_rfl) (fun _ _ _ h => h) (yields_load (by rfl) 54 (.tmp 10) rfl gh 0 (by rfl) [.int .u8 ((2 : Nat) : Int), .int .u8 (((1 : Nat) : Int)), .int .u16 (a2 : Nat), .int .u32 (a3 : Nat)] _ (fun _ h => blk_range h.2.1) Try.underlying54 rfl head_size) ⟨HB10.out.drew, HD10.out.drew, HX10.out.drew, HR10.out⟩ ?_
  refine wpAnyH_take (i := 1) (v := .pointer (some ⟨b, 0, none⟩)) rfl (by kernel_rfl) (by kernel_rfl) (by kernel_rfl) (fun _ _ _ h => h) (Or.inl ⟨by rfl, by intro w _; go_simp⟩) ⟨HB10.out.drew, HD10.out.drew, HX10.out.drew, HR10.out⟩ ?_
  refine wpAnyH_take (i := 2) (v := .pointer (some ⟨b, 0, none⟩)) rfl (by kernel_rfl) (by kernel_rfl) (by kernel_rfl) (fun _ _ _ h => h) (Or.inl ⟨by rfl, by intro w _; go_simp⟩) ⟨HB10.out.drew, HD10.out.drew, HX10.out.drew, HR10.out⟩ ?_
  go_simp
  refine wpAnyH_take (i := 3) (v := .pointer (some ⟨b, 0, none⟩)) rfl (by kernel_rfl) (by kernel_rfl) (by kernel_rfl) (fun _ _ _ h => h) (Or.inl ⟨by rfl, by intro w _; go_simp⟩) ⟨HB10.out.drew, HD10.out.drew, HX10.out.drew, HR10.out⟩ ?_
  refine wpAnyH_take (i := 4) (v := .agg #[.slice A1 nk c1, .string H, .string S]) rfl (by kernel_rfl) (by kernel_rfl) (by kernel_rfl) (fun _ _ _ h => h) (yields_load (by rfl) 52 (.tmp 53) rfl b 0 (by rfl) [.slice A1 nk c1, .string H, .string S] _ (fun _ h => end_range_party h.1) Try.underlying52 rfl party_size) ⟨HB10.out.drew, HD10.out.drew, HX10.out.drew, HR10.out⟩ ?_
  refine wpAnyH_take (i := 5) (v := .slice (some ⟨gp, 0, none⟩) 1 cp) rfl (by kernel_rfl) (by kernel_rfl) (by kernel_rfl) (fun _ _ _ h => h) (Or.inl ⟨by rfl, by intro w _; go_simp⟩) ⟨HB10.out.drew, HD10.out.drew, HX10.out.drew, HR10.out⟩ ?_
  go_simp
  refine wpAnyH_take (i := 6) (v := .pointer (some ⟨gp, 0, none⟩)) rfl (by kernel_rfl) (by kernel_rfl) (by kernel_rfl) (fun _ _ _ h => h) (Or.inl ⟨by rfl, by intro w _; go_simp⟩) ⟨HB10.out.drew, HD10.out.drew, HX10.out.drew, HR10.out⟩ ?_
  refine wpAnyH_take (i := 7) (v := .agg (arrC b8 (parP l 0))) rfl (by kernel_rfl) (by kernel_rfl) (by kernel_rfl) (fun _ _ _ h => h) (yields_load (by rfl) 25 (.tmp 56) rfl gp 0 (by rfl) ((parP l 0).map b8) _ (fun _ h => h.2.2.2) Try.underlying25 rfl (by rw [List.length_map, HP0.out]; exact a32_size)) ⟨HB10.out.drew, HD10.out.drew, HX10.out.drew, HR10.out⟩ ?_
  refine wpAnyH_take (i := 8) (v := .agg #[.int .u8 ((2 : Nat) : Int), .int .u8 (((1 : Nat) : Int)), .int .u16 (a2 : Nat), .int .u32 (a3 : Nat)]) rfl (by kernel_rfl) (by kernel_rfl) (by kernel_rfl) (fun _ _ _ h => h) (yields_load (by rfl) 54 (.tmp 10) rfl gh 0 (by rfl) [.int .u8 ((2 : Nat) : Int), .int .u8 (((1 : Nat) : Int)), .int .u16 (a2 : Nat), .int .u32 (a3 : Nat)] _ (fun _ h => blk_range h.2.1) Try.underlying54 rfl head_size) ⟨HB10.out.drew, HD10.out.drew, HX10.out.drew, HR10.out⟩ ?_
  go_simp
  refine wpAnyH_take (i := 10) (v := .agg (arrC b8 N)) rfl (by kernel_rfl) (by kernel_rfl) (by kernel_rfl) (fun _ _ _ h => h) (yields_load (by rfl) 25 (.tmp 7) rfl g 0 (by rfl) (N.map b8) _ (fun _ h => blk_range h.2.2.1) Try.underlying25 rfl (by rw [List.length_map, HZL.out]; exact a32_size)) ⟨HB10.out.drew, HD10.out.drew, HX10.out.drew, HR10.out⟩ ?_
  go_simp
  refine heldOne (i := 9) (by kernel_rfl) rfl (fun K' hK' => ?_)
  refine step_call rfl (f := 28) rfl Try.func28 (by kernel_rfl) (by kernel_rfl) (by rw [List.map_toArray]; rfl) CR.out ?_
  intro w11 hb11
  have HB11 := Lib.hid (HB10.out.drew.below hb11 HB10.out.lt)
  have HD11 := Lib.hid (HD10.out.drew.below hb11 HD10.out.lt)
  have HX11 := Lib.hid (HX10.out.drew.below hb11 HX10.out.lt)
  have HR11 : Hid (w11.rangeAt gp 0 ((parP l 0).map b8)) := rangeAt_keep HR10.out (hb11.block gp (by show gp < w10.heap.size; omega))
  have HG11 := Lib.hid (Lib.grownBy_below (grown_drew HG10.out) hb11)
  have HO11 := Lib.hid ((OwnAt.drew HO10.out).below hb11 (Nat.le_refl _))
  have hz11 : w10.heap.size ≤ w11.heap.size := hb11.size
  clear hb11
  have hRl := respB_len K H S (parP l 0) ⟨2, 1, a2, a3⟩ 72
  generalize hRR : respB K H S (parP l 0) ⟨2, 1, a2, a3⟩ 72 = RR at hRl ⊢
  have HRR := Lib.hid hRR
  have HRL := Lib.hid hRl
  clear hRR hRl
  refine hK' _ _ ⟨HB11.out, HD11.out, HX11.out, HR11.out⟩ ?_
  clear hK' K'
  go_simp
  refine heldOne (i := 11) (by kernel_rfl) rfl (fun K' hK' => ?_)
  refine step_build_two rfl (.tmp 59) (.tmp 60) rfl RR N rfl rfl HRL.out HZL.out ?_
  refine hK' _ _ ⟨HB11.out.alloc _, HD11.out.alloc _, HX11.out.alloc _, rangeAt_keep HR11.out (Below.heap_alloc w11 _ gp (by omega))⟩ ?_
  clear hK' K'
  go_simp
  have CB := Lib.hid (bytes_two ⟨2, 1, a2, a3⟩ RR N w11.heap.size w11 HOK.out HRL.out HZL.out rfl)
  refine heldOne (i := 12) (by kernel_rfl) rfl (fun K' hK' => ?_)
  refine step_callR rfl (f := 26) rfl Try.func26 (by kernel_rfl) (by kernel_rfl) (by rw [List.map_toArray]; rfl) CB.out ?_
  rintro s w12 ⟨hO12, hb12⟩
  have HB12 := Lib.hid (HB11.out.below hb12 HB11.out.lt)
  have HD12 := Lib.hid (HD11.out.below hb12 HD11.out.lt)
  have HX12 := Lib.hid (HX11.out.below hb12 HX11.out.lt)
  have HR12 : Hid (w12.rangeAt gp 0 ((parP l 0).map b8)) := rangeAt_keep HR11.out (hb12.block gp (by omega))
  have HG12 := Lib.hid (Lib.grownBy_below HG11.out hb12)
  have HO12 := Lib.hid (HO11.out.below hb12 (Nat.le_refl _))
  have HQ12 := Lib.hid (hO12.base (base' := w.heap.size) HG11.out.size)
  clear hO12 hb12
  refine hK' _ _ ⟨HB12.out, HD12.out, HX12.out, HR12.out⟩ ?_
  clear hK' K'
  go_simp
  refine wpAnyH_take (i := 13) (v := s) rfl (by kernel_rfl) (by kernel_rfl) (by kernel_rfl) (fun _ _ _ h => h) (Or.inl ⟨by rfl, by intro w _; go_simp⟩) ⟨HB12.out, HD12.out, HX12.out, HR12.out⟩ ?_
  refine wpAnyH_take (i := 14) (v := .int .i64 0) rfl (by kernel_rfl) (by kernel_rfl) (by kernel_rfl) (fun _ _ _ h => h) (Or.inl ⟨by rfl, by intro w _; go_simp⟩) ⟨HB12.out, HD12.out, HX12.out, HR12.out⟩ ?_
  refine wpAnyH_done (by kernel_rfl) ?_ _
  go_wp2_with fail
  go_ret2
  rw [HRR.out]
  exact ⟨s, rfl, HQ12.out, HG12.out, _, HB12.out, HO12.out⟩
set_option maxRecDepth 100000 in
set_option maxHeartbeats 4000000 in
theorem answer_one (K N0 N l : List UInt8) (H S : ByteArray) (last : Hd) (o d : Bool) (b L c a0 a1 a2 a3 : Nat) (A : Option Addr) (w : World) (hE : EndIs 59 w b K H S last N0 o d) (hK : 0 < K.length) (hKl : K.length ≤ 100000) (hN0 : N0.length = 32) (hN : N.length = 32) (hH : H.size ≤ 60000) (hS : S.size ≤ 60000)
    (hL : L = l.length) (hs : Sl w w.heap.size A (l.map b8)) (hPE : parE l 1 0 1 = 0) (hPH : parH l = ⟨a0, a1, a2, a3⟩) :
    Calls Try.prog 12 #[.pointer (some ⟨b, 0, none⟩), .slice A L c, .bool false, .agg (arrC b8 N)] w (AnOk b K H S ⟨2, a1, a2, a3⟩ (respB K H S (parP l 0) ⟨2, a1, a2, a3⟩ 72) (zero32) w) := by
  have hbl := hE.lt
  obtain ⟨v, hB, hO⟩ := hE
  obtain ⟨A1, c1, rfl, _, _, _⟩ := hO.form8
  generalize hnk : K.length = nk at hB hO hK hKl
  have HNK := Lib.hid hnk
  have HB := Lib.hid hB
  have HO := Lib.hid hO
  have HS := Lib.hid hs
  have HL := Lib.hid hL
  have HNL := Lib.hid hN
  have HN0 := Lib.hid hN0
  have HE := Lib.hid hPE
  have HH := Lib.hid hPH
  have HLL := Lib.hid (parE_len hPE)
  have hok := hPH ▸ parH_ok l
  have HOK : Hid (Hd.ok ⟨2, a1, a2, a3⟩) := ⟨show (2 : Nat) < 256 by omega, hok.2.1, hok.2.2.1, hok.2.2.2⟩
  clear hB hO hs hN hN0 hL hPE hPH hnk hok
  go_enter Try.func12, Try.ntmps12
  go_upto_region 1 with fail
  have hX1 : Blk (w.alloc (.cells (arrC b8 N) 25)) w.heap.size 25 (arrC b8 N) := Blk.new_ rfl
  have hB1 := HB.out.alloc (.cells (arrC b8 N) 25)
  have hb1 : Below w.heap.size w (w.alloc (.cells (arrC b8 N) 25)) := (Below.refl _ _).alloc (Nat.le_refl _) _
  generalize w.alloc (.cells (arrC b8 N) 25) = w1 at hX1 hB1 hb1 ⊢
  have HBB1 := Lib.hid hb1
  have hz1 := hb1.size
  generalize hgg : w.heap.size = g at hX1 hbl ⊢
  have hgl := hX1.lt
  have c0 : w1.cell? ⟨b, 0, none⟩ = some (.slice A1 nk c1) := by rw [hB1.cell]; rfl
  have c1' : w1.cell? ⟨b, 1, none⟩ = some (.string H) := by rw [hB1.cell]; rfl
  have c2 : w1.cell? ⟨b, 2, none⟩ = some (.string S) := by rw [hB1.cell]; rfl
  have HX1 := Lib.hid hX1
  have HB1 := Lib.hid hB1
  have HGG := Lib.hid hgg
  clear hX1 hB1 hb1 hgg
  go_upto_region 4 with (first
    | (go_at_call 25; refine (none_calls nk c1 A1 H S w1 hK).mono ?_; rintro e w2 ⟨rfl, hb2⟩; have HB2 := Lib.hid (HB1.out.below hb2 HB1.out.lt); have HX2 := Lib.hid (HX1.out.below hb2 hgl); have HBB2 := Lib.hid (below_step HBB1.out hb2); have hz2 := hb2.size; have CP := Lib.hid (parsed_yes l L c 1 0 1 a0 a1 a2 a3 A w2 (by omega) (by omega) HL.out ((HS.out.below (below_step HBB1.out hb2)).more (by have := HGG.out; omega)) (by omega) (by omega) HE.out HH.out); clear hb2)
    | (go_at_call 27; refine CP.out.mono ?_; rintro e w3 ⟨gp, cp, rfl, hb3, hp1, hp2, hr3⟩; have hz3 := hb3.size; have HB3 := Lib.hid (HB2.out.below hb3 HB2.out.lt); have HX3 := Lib.hid (HX2.out.below hb3 HX2.out.lt); have HBB3 := Lib.hid (below_step HBB2.out hb3); have HR3 := Lib.hid hr3; clear hb3 hr3))
  have hD4 : Blk (w3.alloc (.cells #[.int .u8 (a0 : Nat), .int .u8 (a1 : Nat), .int .u16 (a2 : Nat), .int .u32 (a3 : Nat)] 54)) w3.heap.size 54 #[.int .u8 (a0 : Nat), .int .u8 (a1 : Nat), .int .u16 (a2 : Nat), .int .u32 (a3 : Nat)] := Blk.new_ rfl
  have hB4 := HB3.out.alloc (.cells #[.int .u8 (a0 : Nat), .int .u8 (a1 : Nat), .int .u16 (a2 : Nat), .int .u32 (a3 : Nat)] 54)
  have hX4 := HX3.out.alloc (.cells #[.int .u8 (a0 : Nat), .int .u8 (a1 : Nat), .int .u16 (a2 : Nat), .int .u32 (a3 : Nat)] 54)
  have hb4 : Below w3.heap.size w3 (w3.alloc (.cells #[.int .u8 (a0 : Nat), .int .u8 (a1 : Nat), .int .u16 (a2 : Nat), .int .u32 (a3 : Nat)] 54)) := (Below.refl _ _).alloc (Nat.le_refl _) _
  generalize w3.alloc (.cells #[.int .u8 (a0 : Nat), .int .u8 (a1 : Nat), .int .u16 (a2 : Nat), .int .u32 (a3 : Nat)] 54) = w4 at hD4 hB4 hX4 hb4 ⊢
  have hz4 := hb4.size
  have HG4 := Lib.hid (Lib.grownBy_below (World.grownBy.refl w (some b)) (below_step HBB3.out hb4))
  have HR4 : Hid (∀ i, i < 1 → w4.rangeAt gp (i * 32) ((parP l i).map b8)) := fun i hi => rangeAt_keep (HR3.out i hi) (hb4.block gp hp2)
  generalize w3.heap.size = gh at hD4 hp2 hz3 hz4 hb4 ⊢
  have hghl := hD4.lt
  have d0 : w4.cell? ⟨gh, 0, none⟩ = some (.int .u8 (a0 : Nat)) := by rw [hD4.cell]; rfl
  have f4 := hD4.frozen
  have HD4 := Lib.hid hD4
  have HB4 := Lib.hid hB4
  have HX4 := Lib.hid hX4
  clear hD4 hB4 hX4 hb4 c0 c1' c2
  have hbg : b ≠ g := by omega
  have hbgh : b ≠ gh := by omega
  have hggh : g ≠ gh := by omega
  have hgpgh : gp ≠ gh := by omega
  have hgpb : gp ≠ b := by omega
  have hgpg : gp ≠ g := by omega
  go_upto_region 7 with fail
  have hD5 : Blk (w4.setCell ⟨gh, 0, none⟩ (.int .u8 2)) gh 54 #[.int .u8 ((2 : Nat) : Int), .int .u8 ((a1 : Nat)), .int .u16 (a2 : Nat), .int .u32 (a3 : Nat)] := Blk.of_eq (HD4.out.set_ 0 _) rfl
  have hg5 : w4.grownBy (w4.setCell ⟨gh, 0, none⟩ (.int .u8 2)) (some gh) := Lib.grownBy_setB (World.grownBy.refl w4 _) 0 _
  generalize w4.setCell ⟨gh, 0, none⟩ (.int .u8 2) = w5 at hD5 hg5 ⊢
  have HD5 := Lib.hid hD5
  have HB5 := Lib.hid (HB4.out.grown hg5 (by intro e; injection e with e; omega))
  have HX5 := Lib.hid (HX4.out.grown hg5 (by intro e; injection e with e; omega))
  have HR5 : Hid (∀ i, i < 1 → w5.rangeAt gp (i * 32) ((parP l i).map b8)) := fun i hi => rangeAt_keep (HR4.out i hi) (hg5.block gp (by omega) (by intro e; injection e with e; omega))
  have HG5 := Lib.hid (World.grownBy.andThen HG4.out hg5 (fun j e => by injection e with e; left; have := HGG.out; omega))
  have hz5 := hg5.size
  clear hD5 hg5 d0 f4
  obtain ⟨Z0, hZ0⟩ : ∃ Z0, Z0 = zero32 := ⟨_, rfl⟩
  have HZL : Hid (Z0.length = 32) := by show _ = _; rw [hZ0]; exact List.length_replicate
  have HZ0 := Lib.hid hZ0
  have E2 : Hid ((Try.prog.info? 25).map (·.size) = some (arrC b8 (List.replicate 32 0)).size) := a32_zsize
  have E3 : Hid (0 + (arrC b8 (List.replicate 32 0)).size ≤ (arrC b8 N).size) := by show _ ≤ _; rw [arrC_size, arrC_size, HNL.out, List.length_replicate]; omega
  clear hZ0
  go_upto_region 10 with (first
    | (with_reducible refine wpList_build_zero rfl rfl ?_)
    | ((with_reducible refine wpList_store_to rfl 25 (.tmp 7) (.tmp 34) rfl rfl rfl rfl HX5.out E2.out E3.out (arrC_one b8_one) ?_); intro w6 hX6 hg6 hz6; replace hX6 := Blk.of_eq hX6 (spl_all _ _ (by rw [arrC_size, arrC_size, HNL.out, List.length_replicate])); have HX6 := Lib.hid hX6; rw [show List.replicate 32 (0 : UInt8) = Z0 from HZ0.out.symm] at HX6; have HB6 := Lib.hid (HB5.out.grown hg6 (by intro e; injection e with e; omega)); have HD6 := Lib.hid (HD5.out.grown hg6 (by intro e; injection e with e; omega)); have HG6 := Lib.hid (World.grownBy.andThen HG5.out hg6 (fun j e => by injection e with e; left; have := HGG.out; omega)); have hr6 : ∀ i, i < 1 → w6.rangeAt gp (i * 32) ((parP l i).map b8) := (fun i hi => rangeAt_keep (HR5.out i hi) (hg6.block gp (by omega) (by intro e; injection e with e; omega))); have HR6 := Lib.hid hr6; clear hX6 hg6 hr6))
  refine wp_region_held (S := fun wx : World => Blk wx gh 54 #[.int .u8 ((2 : Nat) : Int), .int .u8 ((a1 : Nat)), .int .u16 (a2 : Nat), .int .u32 (a3 : Nat)] ∧ Blk wx g 25 (arrC b8 Z0)) (by kernel_rfl) ?_
  change wpAnyH _ _ _ _ _ _ _ _ (World.drew _)
  refine wpAnyH_take (i := 0) (v := .pointer (some ⟨b, 0, none⟩)) rfl (by kernel_rfl) (by kernel_rfl) (by kernel_rfl) (fun _ _ _ h => h) (Or.inl ⟨by rfl, by intro w _; go_simp⟩) ⟨HD6.out.drew, HX6.out.drew⟩ ?_
  refine wpAnyH_take (i := 1) (v := .pointer (some ⟨b, 0, none⟩)) rfl (by kernel_rfl) (by kernel_rfl) (by kernel_rfl) (fun _ _ _ h => h) (Or.inl ⟨by rfl, by intro w _; go_simp⟩) ⟨HD6.out.drew, HX6.out.drew⟩ ?_
  refine wpAnyH_take (i := 2) (v := .pointer (some ⟨b, 0, none⟩)) rfl (by kernel_rfl) (by kernel_rfl) (by kernel_rfl) (fun _ _ _ h => h) (Or.inl ⟨by rfl, by intro w _; go_simp⟩) ⟨HD6.out.drew, HX6.out.drew⟩ ?_
  go_simp
  refine wpAnyH_take (i := 3) (v := .pointer (some ⟨b, 0, none⟩)) rfl (by kernel_rfl) (by kernel_rfl) (by kernel_rfl) (fun _ _ _ h => h) (Or.inl ⟨by rfl, by intro w _; go_simp⟩) ⟨HD6.out.drew, HX6.out.drew⟩ ?_
  refine wpAnyH_take (i := 4) (v := .agg #[.int .u8 ((2 : Nat) : Int), .int .u8 ((a1 : Nat)), .int .u16 (a2 : Nat), .int .u32 (a3 : Nat)]) rfl (by kernel_rfl) (by kernel_rfl) (by kernel_rfl) (fun _ _ _ h => h) (yields_load (by rfl) 54 (.tmp 10) rfl gh 0 (by rfl) [.int .u8 ((2 : Nat) : Int), .int .u8 ((a1 : Nat)), .int .u16 (a2 : Nat), .int .u32 (a3 : Nat)] _ (fun _ h => blk_range h.1) Try.underlying54 rfl head_size) ⟨HD6.out.drew, HX6.out.drew⟩ ?_
  refine wpAnyH_take (i := 5) (v := .agg (arrC b8 Z0)) rfl (by kernel_rfl) (by kernel_rfl) (by kernel_rfl) (fun _ _ _ h => h) (yields_load (by rfl) 25 (.tmp 7) rfl g 0 (by rfl) (Z0.map b8) _ (fun _ h => blk_range h.2) Try.underlying25 rfl (by rw [List.length_map, HZL.out]; exact a32_size)) ⟨HD6.out.drew, HX6.out.drew⟩ ?_
  go_simp
  refine wpAnyH_take (i := 6) (v := .pointer (some ⟨b, 0, none⟩)) rfl (by kernel_rfl) (by kernel_rfl) (by kernel_rfl) (fun _ _ _ h => h) (Or.inl ⟨by rfl, by intro w _; go_simp⟩) ⟨HD6.out.drew, HX6.out.drew⟩ ?_
  refine wpAnyH_take (i := 7) (v := .pointer (some ⟨b, 3, none⟩)) rfl (by kernel_rfl) (by kernel_rfl) (by kernel_rfl) (fun _ _ _ h => h) (Or.inl ⟨by rfl, by intro w _; go_simp⟩) ⟨HD6.out.drew, HX6.out.drew⟩ ?_
  go_simp
  refine heldOne (i := 8) (by kernel_rfl) rfl (fun K' hK' => ?_)
  refine step_store_part rfl 54 (.tmp 43) (.tmp 40) (cells := (hdC ⟨2, a1, a2, a3⟩).toArray) rfl rfl rfl HB6.out.drew head_size (by rw [endC_size HN0.out]; show 3 + 4 ≤ 41; omega) (by intro u hu; simp [hdC] at hu; rcases hu with rfl | rfl | rfl | rfl <;> rfl) ?_
  intro w7 hB7 hg7 hz7
  rw [endC_headSpl] at hB7
  have HB7 := Lib.hid hB7
  have HD7 := Lib.hid (HD6.out.drew.grown hg7 (by intro e; injection e with e; omega))
  have HX7 := Lib.hid (HX6.out.drew.grown hg7 (by intro e; injection e with e; omega))
  have HH7 := Lib.hid hg7
  clear hB7 hg7 hz7
  refine hK' _ _ ⟨HD7.out, HX7.out⟩ ?_
  clear hK' K'
  go_simp
  refine wpAnyH_take (i := 9) (v := .pointer (some ⟨b, 0, none⟩)) rfl (by kernel_rfl) (by kernel_rfl) (by kernel_rfl) (fun _ _ _ h => h) (Or.inl ⟨by rfl, by intro w _; go_simp⟩) ⟨HD7.out, HX7.out⟩ ?_
  refine wpAnyH_take (i := 10) (v := .pointer (some ⟨b, 7, none⟩)) rfl (by kernel_rfl) (by kernel_rfl) (by kernel_rfl) (fun _ _ _ h => h) (Or.inl ⟨by rfl, by intro w _; go_simp⟩) ⟨HD7.out, HX7.out⟩ ?_
  go_simp
  refine heldOne (i := 11) (by kernel_rfl) rfl (fun K' hK' => ?_)
  refine step_store_part rfl 25 (.tmp 45) (.tmp 41) rfl rfl rfl HB7.out (by rw [arrC_size, HZL.out]; exact a32_size) (by rw [arrC_size, HZL.out, endC_size HN0.out]; decide) (arrC_one b8_one) ?_
  intro w8 hB8 hg8 hz8
  rw [endC_nonce HN0.out HZL.out] at hB8
  have HB8 := Lib.hid hB8
  have HD8 := Lib.hid (HD7.out.grown hg8 (by intro e; injection e with e; omega))
  have HX8 := Lib.hid (HX7.out.grown hg8 (by intro e; injection e with e; omega))
  have HH8 := Lib.hid hg8
  clear hB8 hg8 hz8
  refine hK' _ _ ⟨HD8.out, HX8.out⟩ ?_
  clear hK' K'
  go_simp
  refine wpAnyH_take (i := 12) (v := .pointer (some ⟨b, 0, none⟩)) rfl (by kernel_rfl) (by kernel_rfl) (by kernel_rfl) (fun _ _ _ h => h) (Or.inl ⟨by rfl, by intro w _; go_simp⟩) ⟨HD8.out, HX8.out⟩ ?_
  refine wpAnyH_take (i := 13) (v := .pointer (some ⟨b, 39, none⟩)) rfl (by kernel_rfl) (by kernel_rfl) (by kernel_rfl) (fun _ _ _ h => h) (Or.inl ⟨by rfl, by intro w _; go_simp⟩) ⟨HD8.out, HX8.out⟩ ?_
  go_simp
  refine heldOne (i := 14) (by kernel_rfl) rfl (fun K' hK' => ?_)
  refine step_store_one rfl 4 (.tmp 47) (.const (.bool true)) rfl (v := .bool true) rfl rfl rfl rfl HB8.out bool_size (by rw [endC_size HZL.out]; decide) ?_
  intro w9 hB9 hg9 hz9
  rw [endC_setOpen HZL.out] at hB9
  have HB9 := Lib.hid hB9
  have HD9 := Lib.hid (HD8.out.grown hg9 (by intro e; injection e with e; omega))
  have HX9 := Lib.hid (HX8.out.grown hg9 (by intro e; injection e with e; omega))
  have HH9 := Lib.hid hg9
  clear hB9 hg9 hz9
  refine hK' _ _ ⟨HD9.out, HX9.out⟩ ?_
  clear hK' K'
  go_simp
  refine wpAnyH_take (i := 15) (v := .pointer (some ⟨b, 0, none⟩)) rfl (by kernel_rfl) (by kernel_rfl) (by kernel_rfl) (fun _ _ _ h => h) (Or.inl ⟨by rfl, by intro w _; go_simp⟩) ⟨HD9.out, HX9.out⟩ ?_
  refine wpAnyH_take (i := 16) (v := .pointer (some ⟨b, 40, none⟩)) rfl (by kernel_rfl) (by kernel_rfl) (by kernel_rfl) (fun _ _ _ h => h) (Or.inl ⟨by rfl, by intro w _; go_simp⟩) ⟨HD9.out, HX9.out⟩ ?_
  go_simp
  refine heldOne (i := 17) (by kernel_rfl) rfl (fun K' hK' => ?_)
  refine step_store_one rfl 4 (.tmp 49) (.const (.bool false)) rfl (v := .bool false) rfl rfl rfl rfl HB9.out bool_size (by rw [endC_size HZL.out]; decide) ?_
  intro w10 hB10 hg10 hz10
  rw [endC_setDone HZL.out] at hB10
  have HB10 := Lib.hid hB10
  have HD10 := Lib.hid (HD9.out.grown hg10 (by intro e; injection e with e; omega))
  have HX10 := Lib.hid (HX9.out.grown hg10 (by intro e; injection e with e; omega))
  have HH10 := Lib.hid hg10
  clear hB10 hg10 hz10
  refine hK' _ _ ⟨HD10.out, HX10.out⟩ ?_
  clear hK' K'
  go_simp
  refine wpAnyH_done (by kernel_rfl) ?_ _
  have hg6' : w6.grownBy w10 (some b) := World.grownBy.trans (World.grownBy.trans (World.grownBy.trans (World.grownBy.trans (grown_drew (World.grownBy.refl w6 _)) HH7.out) HH8.out) HH9.out) HH10.out
  have HG10 := Lib.hid (World.grownBy.trans HG6.out hg6')
  have HR10 : Hid (w10.rangeAt gp 0 ((parP l 0).map b8)) := rangeAt_keep (by have h6 := HR6.out 0 (by omega); simpa using h6) (hg6'.block gp (by omega) (by intro e; injection e with e; omega))
  have hz10 := hg6'.size
  have HO10 := Lib.hid (HO.out.grown HG10.out (Or.inr (HO.out.ne HB.out (by decide))))
  clear hg6'
  go_upto_region 11 with fail
  have HP0 := Lib.hid (parP_len l 1 0 HLL.out (by omega))
  have CR := Lib.hid (response_calls K (parP l 0) nk c1 A1 H S ⟨2, a1, a2, a3⟩ 72 w10.drew (OwnAt.sl (w := w10.drew) (OwnAt.drew HO10.out)) HNK.out.symm (by rw [HNK.out]; exact hKl) hH hS HP0.out HOK.out (by omega))
  refine wp_region_held (S := fun wx : World => Blk wx b 59 (endC (.slice A1 nk c1) H S ⟨2, a1, a2, a3⟩ Z0 true false).toArray ∧ Blk wx gh 54 #[.int .u8 ((2 : Nat) : Int), .int .u8 ((a1 : Nat)), .int .u16 (a2 : Nat), .int .u32 (a3 : Nat)] ∧ Blk wx g 25 (arrC b8 Z0) ∧ wx.rangeAt gp 0 ((parP l 0).map b8)) (by kernel_rfl) ?_
  change wpAnyH _ _ _ _ _ _ _ _ (World.drew _)
  refine wpAnyH_take (i := 0) (v := .agg #[.int .u8 ((2 : Nat) : Int), .int .u8 ((a1 : Nat)), .int .u16 (a2 : Nat), .int .u32 (a3 : Nat)]) rfl (by kernel_rfl) (by kernel_rfl) (by kernel_rfl) (fun _ _ _ h => h) (yields_load (by rfl) 54 (.tmp 10) rfl gh 0 (by rfl) [.int .u8 ((2 : Nat) : Int), .int .u8 ((a1 : Nat)), .int .u16 (a2 : Nat), .int .u32 (a3 : Nat)] _ (fun _ h => blk_range h.2.1) Try.underlying54 rfl head_size) ⟨HB10.out.drew, HD10.out.drew, HX10.out.drew, HR10.out⟩ ?_
  refine wpAnyH_take (i := 1) (v := .pointer (some ⟨b, 0, none⟩)) rfl (by kernel_rfl) (by kernel_rfl) (by kernel_rfl) (fun _ _ _ h => h) (Or.inl ⟨by rfl, by intro w _; go_simp⟩) ⟨HB10.out.drew, HD10.out.drew, HX10.out.drew, HR10.out⟩ ?_
  refine wpAnyH_take (i := 2) (v := .pointer (some ⟨b, 0, none⟩)) rfl (by kernel_rfl) (by kernel_rfl) (by kernel_rfl) (fun _ _ _ h => h) (Or.inl ⟨by rfl, by intro w _; go_simp⟩) ⟨HB10.out.drew, HD10.out.drew, HX10.out.drew, HR10.out⟩ ?_
  go_simp
  refine wpAnyH_take (i := 3) (v := .pointer (some ⟨b, 0, none⟩)) rfl (by kernel_rfl) (by kernel_rfl) (by kernel_rfl) (fun _ _ _ h => h) (Or.inl ⟨by rfl, by intro w _; go_simp⟩) ⟨HB10.out.drew, HD10.out.drew, HX10.out.drew, HR10.out⟩ ?_
  refine wpAnyH_take (i := 4) (v := .agg #[.slice A1 nk c1, .string H, .string S]) rfl (by kernel_rfl) (by kernel_rfl) (by kernel_rfl) (fun _ _ _ h => h) (yields_load (by rfl) 52 (.tmp 53) rfl b 0 (by rfl) [.slice A1 nk c1, .string H, .string S] _ (fun _ h => end_range_party h.1) Try.underlying52 rfl party_size) ⟨HB10.out.drew, HD10.out.drew, HX10.out.drew, HR10.out⟩ ?_
  refine wpAnyH_take (i := 5) (v := .slice (some ⟨gp, 0, none⟩) 1 cp) rfl (by kernel_rfl) (by kernel_rfl) (by kernel_rfl) (fun _ _ _ h => h) (Or.inl ⟨by rfl, by intro w _; go_simp⟩) ⟨HB10.out.drew, HD10.out.drew, HX10.out.drew, HR10.out⟩ ?_
  go_simp
  refine wpAnyH_take (i := 6) (v := .pointer (some ⟨gp, 0, none⟩)) rfl (by kernel_rfl) (by kernel_rfl) (by kernel_rfl) (fun _ _ _ h => h) (Or.inl ⟨by rfl, by intro w _; go_simp⟩) ⟨HB10.out.drew, HD10.out.drew, HX10.out.drew, HR10.out⟩ ?_
  refine wpAnyH_take (i := 7) (v := .agg (arrC b8 (parP l 0))) rfl (by kernel_rfl) (by kernel_rfl) (by kernel_rfl) (fun _ _ _ h => h) (yields_load (by rfl) 25 (.tmp 56) rfl gp 0 (by rfl) ((parP l 0).map b8) _ (fun _ h => h.2.2.2) Try.underlying25 rfl (by rw [List.length_map, HP0.out]; exact a32_size)) ⟨HB10.out.drew, HD10.out.drew, HX10.out.drew, HR10.out⟩ ?_
  refine wpAnyH_take (i := 8) (v := .agg #[.int .u8 ((2 : Nat) : Int), .int .u8 ((a1 : Nat)), .int .u16 (a2 : Nat), .int .u32 (a3 : Nat)]) rfl (by kernel_rfl) (by kernel_rfl) (by kernel_rfl) (fun _ _ _ h => h) (yields_load (by rfl) 54 (.tmp 10) rfl gh 0 (by rfl) [.int .u8 ((2 : Nat) : Int), .int .u8 ((a1 : Nat)), .int .u16 (a2 : Nat), .int .u32 (a3 : Nat)] _ (fun _ h => blk_range h.2.1) Try.underlying54 rfl head_size) ⟨HB10.out.drew, HD10.out.drew, HX10.out.drew, HR10.out⟩ ?_
  go_simp
  refine wpAnyH_take (i := 10) (v := .agg (arrC b8 Z0)) rfl (by kernel_rfl) (by kernel_rfl) (by kernel_rfl) (fun _ _ _ h => h) (yields_load (by rfl) 25 (.tmp 7) rfl g 0 (by rfl) (Z0.map b8) _ (fun _ h => blk_range h.2.2.1) Try.underlying25 rfl (by rw [List.length_map, HZL.out]; exact a32_size)) ⟨HB10.out.drew, HD10.out.drew, HX10.out.drew, HR10.out⟩ ?_
  go_simp
  refine heldOne (i := 9) (by kernel_rfl) rfl (fun K' hK' => ?_)
  refine step_call rfl (f := 28) rfl Try.func28 (by kernel_rfl) (by kernel_rfl) (by rw [List.map_toArray]; rfl) CR.out ?_
  intro w11 hb11
  have HB11 := Lib.hid (HB10.out.drew.below hb11 HB10.out.lt)
  have HD11 := Lib.hid (HD10.out.drew.below hb11 HD10.out.lt)
  have HX11 := Lib.hid (HX10.out.drew.below hb11 HX10.out.lt)
  have HR11 : Hid (w11.rangeAt gp 0 ((parP l 0).map b8)) := rangeAt_keep HR10.out (hb11.block gp (by show gp < w10.heap.size; omega))
  have HG11 := Lib.hid (Lib.grownBy_below (grown_drew HG10.out) hb11)
  have HO11 := Lib.hid ((OwnAt.drew HO10.out).below hb11 (Nat.le_refl _))
  have hz11 : w10.heap.size ≤ w11.heap.size := hb11.size
  clear hb11
  have hRl := respB_len K H S (parP l 0) ⟨2, a1, a2, a3⟩ 72
  generalize hRR : respB K H S (parP l 0) ⟨2, a1, a2, a3⟩ 72 = RR at hRl ⊢
  have HRR := Lib.hid hRR
  have HRL := Lib.hid hRl
  clear hRR hRl
  refine hK' _ _ ⟨HB11.out, HD11.out, HX11.out, HR11.out⟩ ?_
  clear hK' K'
  go_simp
  refine heldOne (i := 11) (by kernel_rfl) rfl (fun K' hK' => ?_)
  refine step_build_two rfl (.tmp 59) (.tmp 60) rfl RR Z0 rfl rfl HRL.out HZL.out ?_
  refine hK' _ _ ⟨HB11.out.alloc _, HD11.out.alloc _, HX11.out.alloc _, rangeAt_keep HR11.out (Below.heap_alloc w11 _ gp (by omega))⟩ ?_
  clear hK' K'
  go_simp
  have CB := Lib.hid (bytes_two ⟨2, a1, a2, a3⟩ RR Z0 w11.heap.size w11 HOK.out HRL.out HZL.out rfl)
  refine heldOne (i := 12) (by kernel_rfl) rfl (fun K' hK' => ?_)
  refine step_callR rfl (f := 26) rfl Try.func26 (by kernel_rfl) (by kernel_rfl) (by rw [List.map_toArray]; rfl) CB.out ?_
  rintro s w12 ⟨hO12, hb12⟩
  have HB12 := Lib.hid (HB11.out.below hb12 HB11.out.lt)
  have HD12 := Lib.hid (HD11.out.below hb12 HD11.out.lt)
  have HX12 := Lib.hid (HX11.out.below hb12 HX11.out.lt)
  have HR12 : Hid (w12.rangeAt gp 0 ((parP l 0).map b8)) := rangeAt_keep HR11.out (hb12.block gp (by omega))
  have HG12 := Lib.hid (Lib.grownBy_below HG11.out hb12)
  have HO12 := Lib.hid (HO11.out.below hb12 (Nat.le_refl _))
  have HQ12 := Lib.hid (hO12.base (base' := w.heap.size) HG11.out.size)
  clear hO12 hb12
  refine hK' _ _ ⟨HB12.out, HD12.out, HX12.out, HR12.out⟩ ?_
  clear hK' K'
  go_simp
  refine wpAnyH_take (i := 13) (v := s) rfl (by kernel_rfl) (by kernel_rfl) (by kernel_rfl) (fun _ _ _ h => h) (Or.inl ⟨by rfl, by intro w _; go_simp⟩) ⟨HB12.out, HD12.out, HX12.out, HR12.out⟩ ?_
  refine wpAnyH_take (i := 14) (v := .int .i64 0) rfl (by kernel_rfl) (by kernel_rfl) (by kernel_rfl) (fun _ _ _ h => h) (Or.inl ⟨by rfl, by intro w _; go_simp⟩) ⟨HB12.out, HD12.out, HX12.out, HR12.out⟩ ?_
  refine wpAnyH_done (by kernel_rfl) ?_ _
  go_wp2_with fail
  go_ret2
  rw [HRR.out]
  rw [← HZ0.out]
  exact ⟨s, rfl, HQ12.out, HG12.out, _, HB12.out, HO12.out⟩
end Go.Proofs.Ytfamififoifagaa
