/- Contracts of sha: Sum, HMAC. -/
import Derived.Test.YtfamififoifagaaShaG
namespace Go.Proofs.Ytfamififoifagaa
open Go.RowKit Words

theorem zeroDigest_eq : Try.zeroCells117 = dC [] 0 (.slice none 0 0) 0 := by kernel_rfl
theorem Sl.block {w : World} {B : Nat} {A : Option Addr} {xs : List Value} (h : Sl w B A xs) (hx : xs ≠ []) : ∀ a, A = some a → a.block < B := by
  obtain ⟨b, o, rfl, hb, _⟩ := h hx
  intro a ha
  injection ha with ha
  subst ha
  exact hb

set_option maxRecDepth 100000 in
set_option maxHeartbeats 1000000 in
theorem hash_calls (m : List UInt8) (c : Nat) (A : Option Addr) (w : World) (hs : Sl w w.heap.size A (m.map b8)) (hlen : m.length ≤ 35184372088832) :
    Calls Try.prog 48 #[.slice A m.length c] w fun e w' => e = .returned (.agg (arrC b8 (sumF m))) ∧ Below w.heap.size w w' := by
  have HS := Lib.hid hs
  clear hs
  go_enter Try.func48, Try.ntmps48
  go_upto_region 2 with fail
  change Code.wp _ _ _ _ ((w.alloc (.cells (Array.replicate 32 (.int .u8 0)) 25)).alloc (.cells Try.zeroCells117 117))
  have hO : Blk ((w.alloc (.cells (Array.replicate 32 (.int .u8 0)) 25)).alloc (.cells Try.zeroCells117 117)) w.heap.size 25 (Array.replicate 32 (.int .u8 0)) := (Blk.new_ rfl).alloc _
  have hD : DigIs ((w.alloc (.cells (Array.replicate 32 (.int .u8 0)) 25)).alloc (.cells Try.zeroCells117 117)) (w.heap.size + 1) (w.heap.size + 1) [] := ⟨.slice none 0 0, Blk.of_eq (Blk.new_ (by simp)) zeroDigest_eq, OwnAt.nil _ _ _⟩
  have hb1 : Below w.heap.size w ((w.alloc (.cells (Array.replicate 32 (.int .u8 0)) 25)).alloc (.cells Try.zeroCells117 117)) := by go_grown
  generalize (w.alloc (.cells (Array.replicate 32 (.int .u8 0)) 25)).alloc (.cells Try.zeroCells117 117) = w1 at hO hD hb1 ⊢
  have W := Lib.hid (write_calls [] m (w.heap.size + 1) (w.heap.size + 1) c A w1 hD ((HS.out.below hb1).more hb1.size) (fun hx a ha => by have := HS.out.block (by simpa using hx) a ha; omega) (Nat.le_refl _) (by simp; omega))
  have HO := Lib.hid hO
  have HB := Lib.hid hb1
  clear hO hb1 hD
  go_wp2_with (first
    | (go_at_call 55; refine W.out.mono ?_; rintro e w2 ⟨rfl, hb2, hD2⟩; rw [List.nil_append] at hD2; have HO2 := HO.out.below hb2 (by omega); have HB2 := HB.out.trans (hb2.mono (by omega)))
    | (go_at_call 56; refine (sum_calls m _ _ w2 hD2 hlen).mono ?_; rintro e w3 ⟨rfl, hb3⟩; have HO3 := HO2.below hb3 HO2.lt; have HB3 := below_step HB2 hb3)
    | ((with_reducible refine wpList_store_part rfl 25 (.tmp 2) (.tmp 6) rfl rfl rfl HO3 (by rw [arrC_size, sumF_len]; kernel_rfl) (by simp [arrC_size, sumF_len]) (arrC_one b8_one) ?_); intro w9 hB9 hg9 hz9))
  rw [spl_all _ _ (by rw [arrC_size, sumF_len]; rfl)] at hB9
  exact ret_row rfl rfl hB9 Try.underlying25 rfl (by rw [arrC_size, sumF_len]; kernel_rfl) ⟨rfl, below_grown HB3 hg9 (Nat.le_refl _)⟩ rfl
end Go.Proofs.Ytfamififoifagaa
