/- Contracts of wire: AddAll. -/
import Derived.Test.YtfamififoifagaaWireW
namespace Go.Proofs.Ytfamififoifagaa
open Go.RowKit Words

set_option maxRecDepth 100000 in
theorem fld_calls (v k : Nat) (h1 : 1 ≤ k) (h8 : k ≤ 8) (hv : v < 2 ^ (8 * k)) (w : World) :
    Calls Try.prog 42 #[.agg #[.int .u64 (v : Int), .int .i64 (k : Int)]] w fun e w' => ∃ s, e = .returned (.tuple #[s, .int .i64 0]) ∧ OwnAt w' w.heap.size 5 s ((leB v k).map b8) ∧ Below w.heap.size w w' := by
  have C := Lib.hid (fun wx => put_calls v k h1 h8 hv wx)
  clear hv
  go_enter Try.func42, Try.ntmps42
  go_wp2_with (go_at_call 43; refine (C.out _).mono ?_; rintro e w1 ⟨s, rfl, hO, hb1⟩)
  go_ret2
  refine ⟨_, rfl, hO.base (by simp), below_step (by go_grown) hb1⟩

def fldB (F : List (Nat × Nat)) : List UInt8 := F.flatMap fun f => leB f.1 f.2
def fldC (F : List (Nat × Nat)) : List Value := F.flatMap fun f => [.int .u64 (f.1 : Int), .int .i64 (f.2 : Int)]
def fldOk (F : List (Nat × Nat)) : Prop := ∀ f ∈ F, 1 ≤ f.2 ∧ f.2 ≤ 8 ∧ f.1 < 2 ^ (8 * f.2)
theorem fldB_append (F G : List (Nat × Nat)) : fldB (F ++ G) = fldB F ++ fldB G := by unfold fldB; simp
theorem fldC_at : ∀ (F : List (Nat × Nat)) (i : Nat) (h : i < F.length), (fldC F)[2 * i]? = some (.int .u64 (F[i].1 : Int)) ∧ (fldC F)[2 * i + 1]? = some (.int .i64 (F[i].2 : Int))
  | [], i, h => absurd h (by simp)
  | f :: F, 0, _ => ⟨rfl, rfl⟩
  | f :: F, i + 1, h => by
    have := fldC_at F i (by simpa using h)
    exact this
theorem fldB_len (F : List (Nat × Nat)) (h : fldOk F) : (fldB F).length ≤ 8 * F.length := by
  induction F with
  | nil => simp [fldB]
  | cons f F ih =>
    have h1 := h f (by simp)
    have h2 := ih (fun g hg => h g (by simp [hg]))
    rw [show fldB (f :: F) = leB f.1 f.2 ++ fldB F from rfl, List.length_append, leB_len, List.length_cons]
    omega

set_option maxRecDepth 100000 in
set_option maxHeartbeats 1000000 in
theorem each_calls (F : List (Nat × Nat)) (g o n c : Nat) (w : World) (hF : fldOk F) (hs : w.rangeAt g o (fldC F)) (hg : g < w.heap.size) (hn : n = F.length) (hlen : F.length ≤ 1000) :
    Calls Try.prog 41 #[.slice (some ⟨g, o, none⟩) n c, .func (.func 42) #[] #[]] w fun e w' => ∃ s, e = .returned (.tuple #[s, .int .i64 0]) ∧ OwnAt w' w.heap.size 5 s ((fldB F).map b8) ∧ Below w.heap.size w w' := by
  have HS := Lib.hid hs
  have HN := Lib.hid hn
  clear hs hn
  go_enter Try.func41, Try.ntmps41
  go_wp2_with fail
  go_loopw [12, 4] (fun j v wr => ∃ i : Nat, i ≤ n ∧ j = .int .i64 (i : Nat) ∧ OwnAt wr w.heap.size 5 v ((fldB (F.take i)).map b8) ∧ Below w.heap.size w wr) (fun j _ _ => n - (intOf j).toNat)
  case atStart => exact ⟨0, by omega, rfl, by simpa [fldB] using OwnAt.nil _ _ _, Below.refl _ _⟩
  case round =>
    obtain ⟨i, hi, rfl, hO, hb⟩ := hrel
    rcases Nat.lt_or_ge i n with hin | hin
    · have hiF : i < F.length := by rw [← HN.out]; exact hin
      have hi0 : (i : Int) < (n : Int) := by omega
      have hA := fldC_at F i hiF
      have hok := hF F[i] (List.getElem_mem hiF)
      have r0 : wr.cell? ⟨g, o + i * 2, none⟩ = some (.int .u64 (F[i].1 : Int)) := by
        rw [World.cell?_of_block (w := w) (hb.block g hg), Nat.mul_comm]; exact HS.out (2 * i) _ hA.1
      have r1 : wr.cell? ⟨g, o + i * 2 + 1, none⟩ = some (.int .i64 (F[i].2 : Int)) := by
        rw [World.cell?_of_block (w := w) (hb.block g hg), Nat.mul_comm, Nat.add_assoc]; exact HS.out (2 * i + 1) _ hA.2
      have hT : F.take (i + 1) = F.take i ++ [F[i]] := List.take_succ_eq_append_getElem hiF
      have C := Lib.hid (fun wx => fld_calls F[i].1 F[i].2 hok.1 hok.2.1 hok.2.2 wx)
      have hL : (leB F[i].1 F[i].2).length ≤ 8 := by rw [leB_len]; exact hok.2.1
      have hL2 : (fldB (F.take i)).length ≤ 8 * i := Nat.le_trans (fldB_len _ (fun f hf => hF f (List.mem_of_mem_take hf))) (by rw [List.length_take]; omega)
      have hT2 : fldB (F.take (i + 1)) = fldB (F.take i) ++ leB F[i].1 F[i].2 := by rw [hT, fldB_append]; simp [fldB]
      generalize F[i].1 = fv at r0 r1 C hL hT2
      generalize F[i].2 = fk at r0 r1 C hL hT2
      have HO := Lib.hid hO
      have HB := Lib.hid hb
      have HT := Lib.hid hT2
      clear hO hb hT2 hT hok hA hF
      go_wp2_with (first
        | (go_at_call 42; refine (C.out _).mono ?_; rintro e w1 ⟨s, rfl, hO1, hb1⟩; obtain ⟨A1, c1, rfl, hc1, hm1, hs1⟩ := hO1.form8; generalize hl1 : (leB fv fk).length = n1 at hO1 hc1 hL ⊢; have HL1 := Lib.hid hl1; clear hl1; have hbb := below_step (a := w) (HB.out.alloc HB.out.size _) hb1)
        | (at_builtin; refine wpList_append_u8 rfl (.tmp 25) (.tmp 26) rfl w.heap.size _ ((fldB (F.take i)).map b8) rfl ((HO.out.keep (fun k hk => Below.heap_alloc wr _ k (HO.out.lt k hk).2)).below hb1 (Nat.le_refl _)) w1.heap.size A1 n1 c1 ((leB fv fk).map b8) rfl hs1 (by rw [List.length_map]; exact HL1.out) (arr8_one _) (by rw [List.length_map]; omega) hbb.size ?_; intro v2 w2 hO2 hg2 hh2; rw [← List.map_append, ← HT.out] at hO2))
      go_roundw
      case rel => exact ⟨i + 1, by omega, by go_num, hO2, hbb.grown hg2 hbb.size (fun k hk => (HO.out.lt k hk).1)⟩
      case measure => simp [intOf]; omega
    · obtain rfl : i = n := by omega
      have HO := Lib.hid hO
      have HB := Lib.hid hb
      clear hO hb
      go_wp2_with fail
      go_ret2
      refine ⟨_, rfl, ?_, HB.out⟩
      have h := HO.out
      rw [HN.out, List.take_length] at h
      exact h

end Go.Proofs.Ytfamififoifagaa
