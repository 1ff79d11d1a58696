/- AuthRejects holds: for every party, nonces and number of a bit the law returns true and leaves its arguments as they were. -/
import Derived.Test.YtfamififoifagaaLawR
import Derived.Test.YtfamififoifagaaOpen
namespace Go.Proofs.Ytfamififoifagaa.authRejects
open Go.ChangeShapes Go.WideShapes Go.ChangeAt Go.RowKit
open Go.ChangeMaps (open_string)
open Go.Joins

theorem own : ownKnob Try.prog.godebug = none := by kernel_rfl
theorem laidOut : laidOutB Try.prog = true := by kernel_rfl

theorem walk (K : List UInt8) (n c : Nat) (bit : Int) (A : Option Addr) (H S : ByteArray) (F G : List UInt8) (w : World) (hs : Sl w w.heap.size A (K.map b8)) (hn : n = K.length) (hA : A = none → n = 0) (hF : F.length = 32) (hG : G.length = 32) :
    Calls Try.prog 4 #[.agg #[.slice A n c, .string H, .string S], .agg (arrC b8 F), .agg (arrC b8 G), .int .i64 bit] w (RetBool true w) := by
  by_cases h : n ≤ 80 ∧ H.size ≤ 240 ∧ S.size ≤ 240
  · obtain ⟨h1, h2, h3⟩ := h
    by_cases h4 : bit < 0 ∨ 255 < bit
    · exact rejects_bit n c bit A H S F G w h1 h2 h3 h4
    · obtain ⟨b, rfl⟩ := Int.eq_ofNat_of_zero_le (show 0 ≤ bit by omega)
      cases hv : validB n H S with
      | false => exact rejects_party n c b A H S F G w h1 h2 h3 (by omega) hv
      | true => exact rejects_good K n c b A H S F G w hs hn hA hF hG h1 h2 h3 (by omega) hv
  · exact rejects_long n c bit A H S F G w h

set_option maxRecDepth 100000 in
theorem lifted (os : Os) (started : os.Started) (H : Type) (enc : TypeId × Value → H) :
    ReturnsInHanded {} Try.checked os 4 .any (Rows.authRejectsSpec.pre6 enc Try.prog Try.f4 Rows.authRejectsRow.domain false) (Rows.authRejectsSpec.post enc Try.prog Try.f4 false true false false) := by
  refine returnsInHanded_of_change (C := Try.checked) own started (by kernel_rfl) Try.func4
    (ChangeSpec.witness6 (enc := enc) (C := Try.checked) false ⟨#[], #[.agg #[.slice none 0 0, .string ⟨#[]⟩, .string ⟨#[]⟩], .agg (Array.replicate 32 (.int .u8 0)), .agg (Array.replicate 32 (.int .u8 0)), .int .i64 0], []⟩ 8 (by kernel_rfl) (by kernel_rfl) (by kernel_rfl) (by kernel_rfl)) ?_
  intro W base args ds gs before hval0 hW hcnd _
  have hval : ∀ (j : Nat) t v, Try.f4.params[j]? = some t → args[j]? = some v → Value.okWide Try.prog W .any base t v := hval0
  have hW' := hW
  obtain ⟨p, q, hA0, hV, rfl, hfz, hnd⟩ := hW
  have hA : DataW.TrodAll enc Try.prog W 0 (fun _ => true) true Try.f4.params.toList args.toList ds p := hA0
  rw [Try.params4] at hA hval
  obtain ⟨v0, vs0, d0, ds0, p0, q0, hargs, rfl, rfl, h0, r0⟩ := trodAll_cons hA
  obtain ⟨v1, vs1, d1, ds1, p1, q1, rfl, rfl, rfl, h1, r1⟩ := trodAll_cons r0
  obtain ⟨v2, vs2, d2, ds2, p2, q2, rfl, rfl, rfl, h2, r2⟩ := trodAll_cons r1
  obtain ⟨v3, vs3, d3, ds3, p3, q3, rfl, rfl, rfl, h3, r3⟩ := trodAll_cons r2
  obtain ⟨rfl, rfl, rfl⟩ := trodAll_nil r3
  obtain rfl : args = #[v0, v1, v2, v3] := by cases args; simp_all
  obtain ⟨rfl, rfl⟩ := trodVars_none hV
  have lt0 : ∀ x ∈ p0, x.block < W.heap.size := by obtain ⟨m, hm⟩ := h0; exact DataW.trod_lt m _ _ _ hm
  have lt1 : ∀ x ∈ p1, x.block < W.heap.size := by obtain ⟨m, hm⟩ := h1; exact DataW.trod_lt m _ _ _ hm
  have lt2 : ∀ x ∈ p2, x.block < W.heap.size := by obtain ⟨m, hm⟩ := h2; exact DataW.trod_lt m _ _ _ hm
  have lt3 : ∀ x ∈ p3, x.block < W.heap.size := by obtain ⟨m, hm⟩ := h3; exact DataW.trod_lt m _ _ _ hm
  have k0 := h0
  have k1 := h1
  have k2 := h2
  have k3 := h3
  obtain ⟨s0, s1, s2, y0, y1, y2, m0, rfl, _, _, g0, g1, g2⟩ := open_agg3 Try.underlying24 (by kernel_rfl) (by kernel_rfl) (hval 0 24 v0 rfl rfl) h0
  obtain ⟨A, n, c, K, rfl, hn, hsl, hnil⟩ := open_bytes Try.underlying22 Try.underlying5 (by kernel_rfl) g0
  obtain ⟨H', e1, _, _⟩ := DataW.trod_string Try.underlying9 g1
  obtain ⟨S', e2, _, _⟩ := DataW.trod_string Try.underlying9 g2
  injection e1 with e1
  injection e2 with e2
  subst e1 e2
  obtain ⟨F, hF, rfl⟩ := open_arr32 Try.underlying25 Try.underlying5 (by kernel_rfl) (by kernel_rfl) (hval 1 25 v1 rfl rfl) h1
  obtain ⟨G, hG, rfl⟩ := open_arr32 Try.underlying25 Try.underlying5 (by kernel_rfl) (by kernel_rfl) (hval 2 25 v2 rfl rfl) h2
  obtain ⟨bit, rfl, rfl, rfl, w3⟩ := open_int Try.underlying3 (hval 3 3 v3 rfl rfl) h3
  clear hA0 hval0
  refine (walk K n c bit A H' S' F G W hsl hn hnil hF hG).mono fun e W' ⟨he, bel⟩ => ?_
  subst he
  exact ⟨_, rfl, _, _, _, [], _, [], hW', trodAll_mk1 (shut_bool Try.underlying4 _), (trodAll_cons_mk (Below.trod laidOut (by kernel_rfl) (of_decide_eq_true (by kernel_rfl)) k0 bel lt0) (trodAll_cons_mk (Below.trod laidOut (by kernel_rfl) (of_decide_eq_true (by kernel_rfl)) k1 bel lt1) (trodAll_cons_mk (Below.trod laidOut (by kernel_rfl) (of_decide_eq_true (by kernel_rfl)) k2 bel lt2) (trodAll_cons_mk (Below.trod laidOut (by kernel_rfl) (of_decide_eq_true (by kernel_rfl)) k3 bel lt3) trodAll_mk0)))), rfl, bel.frame _, fun h => by cases h⟩

theorem over : Rows.authRejectsRow.holds Try.pinned (OpenSpec.ofChange Rows.authRejectsSpec) :=
  OpenClaim.holds_of_wide 4 Try.f4 rfl rfl rfl rfl rfl rfl rfl ⟨rfl, rfl, rfl, rfl, rfl⟩ rfl rfl rfl rfl rfl (by kernel_rfl) Try.func4 (by kernel_rfl)
    (of_decide_eq_true (by kernel_rfl)) (by unfold Func.isWrapper; first | (rw [if_pos (by decide +kernel)]; kernel_rfl) | (rw [if_neg (by decide +kernel)]; exact ⟨rfl, rfl⟩))
    (fun os started H enc _ => lifted os started H enc)
end Go.Proofs.Ytfamififoifagaa.authRejects
namespace Go.Proofs.Ytfamififoifagaa
theorem authRejects_holds : Rows.AuthRejectsSaid := authRejects.over
end Go.Proofs.Ytfamififoifagaa
