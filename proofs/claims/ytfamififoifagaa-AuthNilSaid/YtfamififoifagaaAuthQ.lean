/- Contracts of auth: Challenge. -/
import Derived.Test.YtfamififoifagaaAuthL
namespace Go.Proofs.Ytfamififoifagaa
open Go.RowKit Words

def ChOk (t : TypeId) (b : Nat) (K : List UInt8) (H S : ByteArray) (h : Hd) (N : List UInt8) (w : World) (e : Ending) (w' : World) : Prop :=
  ∃ s, e = .returned (.tuple #[s, .int .i64 0]) ∧ OwnAt w' w.heap.size 5 s ((msgB h [N]).map b8) ∧ w.grownBy w' (some b) ∧ EndIs t w' b K H S h N true false
def RetE (k : Int) (w : World) (e : Ending) (w' : World) : Prop := e = .returned (.tuple #[.slice none 0 0, .int .i64 k]) ∧ Below w.heap.size w w'
theorem EndIs.lt {t : TypeId} {w : World} {b : Nat} {K : List UInt8} {H S : ByteArray} {h : Hd} {N : List UInt8} {o d : Bool} (hE : EndIs t w b K H S h N o d) : b < w.heap.size := by obtain ⟨v, hB, _⟩ := hE; exact hB.lt

set_option maxRecDepth 100000 in
set_option maxHeartbeats 2000000 in
theorem challenge_ok (K N0 N : List UInt8) (H S : ByteArray) (last : Hd) (o d : Bool) (seq queue b : Nat) (w : World) (hE : EndIs 56 w b K H S last N0 o d) (hK : 0 < K.length) (hN0 : N0.length = 32) (hN : N.length = 32) (hlt : last.seq < seq) (hs : seq < 4294967296) (hq : queue < 65536) :
    Calls Try.prog 11 #[.pointer (some ⟨b, 0, none⟩), .agg (arrC b8 N), .int .u32 (seq : Nat), .int .u16 (queue : Nat)] w (ChOk 56 b K H S ⟨1, 0, queue, seq⟩ N w) := by
  have hbl := hE.lt
  obtain ⟨v, hB, hO⟩ := hE
  obtain ⟨A, c, rfl, _, _, _⟩ := hO.form8
  have HO := Lib.hid hO
  clear hO
  have hcmp : ¬ seq ≤ last.seq := by omega
  have hcmpI : ¬ (seq : Int) ≤ (last.seq : Int) := by omega
  generalize K.length = n at hB HO hK
  have HB := Lib.hid hB
  have HNL := Lib.hid hN
  have HN0 := Lib.hid hN0
  clear hB hN hN0
  go_enter Try.func11, Try.ntmps11
  go_upto_region 1 with fail
  have hX1 : Blk (w.alloc (.cells (arrC b8 N) 25)) w.heap.size 25 (arrC b8 N) := Blk.new_ rfl
  have hB1 := HB.out.alloc (.cells (arrC b8 N) 25)
  have hg1 : w.grownBy (w.alloc (.cells (arrC b8 N) 25)) (some b) := Lib.grownBy_below (World.grownBy.refl w _) ((Below.refl _ _).alloc (Nat.le_refl _) _)
  generalize w.alloc (.cells (arrC b8 N) 25) = w1 at hX1 hB1 hg1 ⊢
  generalize hgg : w.heap.size = g at hX1 hbl ⊢
  have hgl := hX1.lt
  have c0 : w1.cell? ⟨b, 0, none⟩ = some (.slice A n c) := by rw [hB1.cell]; rfl
  have c1 : w1.cell? ⟨b, 1, none⟩ = some (.string H) := by rw [hB1.cell]; rfl
  have c2 : w1.cell? ⟨b, 2, none⟩ = some (.string S) := by rw [hB1.cell]; rfl
  have HX1 := Lib.hid hX1
  have HB1 := Lib.hid hB1
  have HG1 := Lib.hid hg1
  have HGG := Lib.hid hgg
  clear hX1 hB1 hg1 hgg
  go_upto_region 6 with (go_at_call 25; refine (none_calls n c A H S w1 hK).mono ?_; rintro e w2 ⟨rfl, hb2⟩; have hB2 := HB1.out.below hb2 HB1.out.lt; have q3 : w2.cell? ⟨b, 3, none⟩ = some (.int .u8 (last.kind : Nat)) := (by rw [hB2.cell]; rfl); have q4 : w2.cell? ⟨b, 4, none⟩ = some (.int .u8 (last.flags : Nat)) := (by rw [hB2.cell]; rfl); have q5 : w2.cell? ⟨b, 5, none⟩ = some (.int .u16 (last.queue : Nat)) := (by rw [hB2.cell]; rfl); have q6 : w2.cell? ⟨b, 6, none⟩ = some (.int .u32 (last.seq : Nat)) := (by rw [hB2.cell]; rfl); have f2 := hB2.frozen; have HB2 := Lib.hid hB2; have HX2 := Lib.hid (HX1.out.below hb2 hgl); have HG2 := Lib.hid (Lib.grownBy_below HG1.out hb2); clear hB2 hb2)
  have hB3 : Blk ((((w2.setCell ⟨b, 3, none⟩ (.int .u8 1)).setCell ⟨b, 4, none⟩ (.int .u8 0)).setCell ⟨b, 5, none⟩ (.int .u16 (queue : Nat))).setCell ⟨b, 6, none⟩ (.int .u32 (seq : Nat))) b 56 (endC (.slice A n c) H S ⟨1, 0, queue, seq⟩ N0 o d).toArray := Blk.of_eq ((((HB2.out.set_ 3 _).set_ 4 _).set_ 5 _).set_ 6 _) (endC_setHead ⟨1, 0, queue, seq⟩)
  have hg3 : w2.grownBy ((((w2.setCell ⟨b, 3, none⟩ (.int .u8 1)).setCell ⟨b, 4, none⟩ (.int .u8 0)).setCell ⟨b, 5, none⟩ (.int .u16 (queue : Nat))).setCell ⟨b, 6, none⟩ (.int .u32 (seq : Nat))) (some b) := Lib.grownBy_setB (Lib.grownBy_setB (Lib.grownBy_setB (Lib.grownBy_setB (World.grownBy.refl w2 _) 3 _) 4 _) 5 _) 6 _
  generalize (((w2.setCell ⟨b, 3, none⟩ (.int .u8 1)).setCell ⟨b, 4, none⟩ (.int .u8 0)).setCell ⟨b, 5, none⟩ (.int .u16 (queue : Nat))).setCell ⟨b, 6, none⟩ (.int .u32 (seq : Nat)) = w3 at hB3 hg3 ⊢
  have hgb : g ≠ b := by omega
  have HB3 := Lib.hid hB3
  have HX3 := Lib.hid (HX2.out.grown hg3 (by intro e; injection e with e; omega))
  have HG3 := Lib.hid (World.grownBy.trans HG2.out hg3)
  have e1 : (Try.prog.info? 25).map (·.size) = some N.length := by rw [HNL.out]; exact a32_size
  have e2 : (Try.prog.info? 25).map (·.size) = some (arrC b8 N).size := by rw [arrC_size, HNL.out]; exact a32_size
  have e3 : 7 + (arrC b8 N).size ≤ (endC (.slice A n c) H S ⟨1, 0, queue, seq⟩ N0 o d).toArray.size := by rw [arrC_size, HNL.out, endC_size HN0.out]; decide
  have E1 := Lib.hid e1
  have E2 := Lib.hid e2
  have E3 := Lib.hid e3
  clear hB3 hg3 e1 e2 e3 q3 q4 q5 q6 f2 c0 c1 c2
  go_upto_region 7 with (first
    | (with_reducible refine wpList_load_arr rfl 25 (.tmp 5) rfl g 0 rfl N _ (blk_range HX3.out) Try.underlying25 rfl E1.out ?_)
    | ((with_reducible refine wpList_store_to rfl 25 (.tmp 39) (.tmp 37) rfl rfl rfl rfl HB3.out E2.out E3.out (arrC_one b8_one) ?_); intro w4 hB4 hg4 hz4; rw [endC_nonce HN0.out HNL.out] at hB4; have q39 : w4.cell? ⟨b, 39, none⟩ = some (.bool o) := (by rw [hB4.cell, endC_open HNL.out]); have q40 : w4.cell? ⟨b, 40, none⟩ = some (.bool d) := (by rw [hB4.cell, endC_done HNL.out]); have f4 := hB4.frozen; have HB4 := Lib.hid hB4; have HX4 := Lib.hid (HX3.out.grown hg4 (by intro e; injection e with e; omega)); have HG4 := Lib.hid (World.grownBy.trans HG3.out hg4); clear hB4 hg4 hz4))
  have hB8 : Blk ((w4.setCell ⟨b, 39, none⟩ (.bool true)).setCell ⟨b, 40, none⟩ (.bool false)) b 56 (endC (.slice A n c) H S ⟨1, 0, queue, seq⟩ N true false).toArray := Blk.of_eq ((HB4.out.set_ 39 _).set_ 40 _) (by rw [endC_setOpen HNL.out, endC_setDone HNL.out])
  have hg8 : w4.grownBy ((w4.setCell ⟨b, 39, none⟩ (.bool true)).setCell ⟨b, 40, none⟩ (.bool false)) (some b) := Lib.grownBy_setB (Lib.grownBy_setB (World.grownBy.refl w4 _) 39 _) 40 _
  generalize (w4.setCell ⟨b, 39, none⟩ (.bool true)).setCell ⟨b, 40, none⟩ (.bool false) = w8 at hB8 hg8 ⊢
  have HB8 := Lib.hid hB8
  have HX8 := Lib.hid (HX4.out.grown hg8 (by intro e; injection e with e; omega))
  have HG8 := Lib.hid (World.grownBy.trans HG4.out hg8)
  clear hB8 hg8 q39 q40 f4
  refine wp_region_held (S := fun wx : World => Blk wx b 56 (endC (.slice A n c) H S ⟨1, 0, queue, seq⟩ N true false).toArray ∧ Blk wx g 25 (arrC b8 N)) (by kernel_rfl) ?_
  change wpAnyH _ _ _ _ _ _ _ _ (World.drew _)
  refine wpAnyH_take (i := 0) (v := .pointer (some ⟨b, 0, none⟩)) rfl (by kernel_rfl) (by kernel_rfl) (by kernel_rfl) (fun _ _ _ h => h) (Or.inl ⟨by rfl, by intro w _; go_simp⟩) ⟨HB8.out.drew, HX8.out.drew⟩ ?_
  refine wpAnyH_take (i := 1) (v := .pointer (some ⟨b, 0, none⟩)) rfl (by kernel_rfl) (by kernel_rfl) (by kernel_rfl) (fun _ _ _ h => h) (Or.inl ⟨by rfl, by intro w _; go_simp⟩) ⟨HB8.out.drew, HX8.out.drew⟩ ?_
  refine wpAnyH_take (i := 2) (v := .pointer (some ⟨b, 3, none⟩)) rfl (by kernel_rfl) (by kernel_rfl) (by kernel_rfl) (fun _ _ _ h => h) (Or.inl ⟨by rfl, by intro w _; go_simp⟩) ⟨HB8.out.drew, HX8.out.drew⟩ ?_
  refine wpAnyH_take (i := 3) (v := .agg #[.int .u8 ((1 : Nat) : Int), .int .u8 ((0 : Nat) : Int), .int .u16 (queue : Nat), .int .u32 (seq : Nat)]) rfl (by kernel_rfl) (by kernel_rfl) (by kernel_rfl) (fun _ _ _ h => h) (yields_load (by rfl) 54 (.tmp 46) rfl b 3 (by rfl) (hdC ⟨1, 0, queue, seq⟩) _ (fun _ h => end_range_head h.1) Try.underlying54 rfl head_size) ⟨HB8.out.drew, HX8.out.drew⟩ ?_
  refine wpAnyH_take (i := 4) (v := .agg (arrC b8 N)) rfl (by kernel_rfl) (by kernel_rfl) (by kernel_rfl) (fun _ _ _ h => h) (yields_load (by rfl) 25 (.tmp 5) rfl g 0 (by rfl) (N.map b8) _ (fun _ h => blk_range h.2) Try.underlying25 rfl (by rw [List.length_map, HNL.out]; exact a32_size)) ⟨HB8.out.drew, HX8.out.drew⟩ ?_
  refine heldOne (i := 5) (by kernel_rfl) rfl (fun K' hK' => ?_)
  refine step_build_one rfl (.tmp 48) rfl N rfl HNL.out ?_
  refine hK' _ _ ⟨HB8.out.drew.alloc _, HX8.out.drew.alloc _⟩ ?_
  clear hK' K'
  go_simp
  have C := Lib.hid (bytes_one ⟨1, 0, queue, seq⟩ N w8.heap.size w8.drew ⟨show (1 : Nat) < 256 by omega, show (0 : Nat) < 256 by omega, hq, hs⟩ HNL.out rfl)
  refine heldOne (i := 6) (by kernel_rfl) rfl (fun K' hK' => ?_)
  refine step_callR rfl (f := 26) rfl Try.func26 (by kernel_rfl) (by kernel_rfl) (by rw [List.map_toArray]; rfl) C.out ?_
  rintro s w9 ⟨hO9, hb9⟩
  refine hK' _ _ ⟨HB8.out.drew.below hb9 HB8.out.lt, HX8.out.drew.below hb9 HX8.out.lt⟩ ?_
  clear hK' K'
  have HB9 := Lib.hid (HB8.out.drew.below hb9 HB8.out.lt)
  have HX9 := Lib.hid (HX8.out.drew.below hb9 HX8.out.lt)
  have HG9 := Lib.hid (Lib.grownBy_below (grown_drew HG8.out) hb9)
  have hz8 := HG8.out.size
  have HO9 := Lib.hid (hO9.base (base' := w.heap.size) hz8)
  have HOK := Lib.hid ((OwnAt.drew (HO.out.grown HG8.out (Or.inr (HO.out.ne HB.out (by decide))))).below hb9 (Nat.le_refl _))
  clear hO9 hb9
  go_simp
  refine wpAnyH_take (i := 7) (v := s) rfl (by kernel_rfl) (by kernel_rfl) (by kernel_rfl) (fun _ _ _ h => h) (Or.inl ⟨by rfl, by intro w _; go_simp⟩) ⟨HB9.out, HX9.out⟩ ?_
  refine wpAnyH_take (i := 8) (v := .int .i64 0) rfl (by kernel_rfl) (by kernel_rfl) (by kernel_rfl) (fun _ _ _ h => h) (Or.inl ⟨by rfl, by intro w _; go_simp⟩) ⟨HB9.out, HX9.out⟩ ?_
  refine wpAnyH_done (by kernel_rfl) ?_ _
  go_wp2_with fail
  go_ret2
  exact ⟨s, rfl, HO9.out, HG9.out, _, HB9.out, HOK.out⟩
end Go.Proofs.Ytfamififoifagaa
