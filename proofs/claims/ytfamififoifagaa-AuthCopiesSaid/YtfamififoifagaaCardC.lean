/- AuthCopies holds: for every party, nonce and queue the law returns true and leaves its arguments as they were. -/
import Derived.Test.YtfamififoifagaaLawC
import Derived.Test.YtfamififoifagaaOpen
namespace Go.Proofs.Ytfamififoifagaa.authCopies
open Go.ChangeShapes Go.WideShapes Go.ChangeAt Go.RowKit
open Go.ChangeMaps (open_string)
open Go.Joins

theorem own : ownKnob Try.prog.godebug = none := by kernel_rfl
theorem laidOut : laidOutB Try.prog = true := by kernel_rfl

theorem walk (K : List UInt8) (n c queue : Nat) (A : Option Addr) (H S : ByteArray) (F : List UInt8) (w : World) (hs : Sl w w.heap.size A (K.map b8)) (hn : n = K.length) (hA : A = none → n = 0) (hF : F.length = 32) (hqu : queue < 65536) :
    Calls Try.prog 5 #[.agg #[.slice A n c, .string H, .string S], .agg (arrC b8 F), .int .u16 (queue : Nat)] w (RetBool true w) := by
  by_cases h : n ≤ 80 ∧ H.size ≤ 240 ∧ S.size ≤ 240
  · obtain ⟨h1, h2, h3⟩ := h
    cases hv : validB n H S with
    | false => exact copies_bad n c queue A H S F w h1 h2 h3 hv
    | true => exact copies_good K n c queue A H S F w hs hn hA hF h1 h2 h3 hqu hv
  · exact copies_long n c queue A H S F w h

set_option maxRecDepth 100000 in
theorem lifted (os : Os) (started : os.Started) (H : Type) (enc : TypeId × Value → H) :
    ReturnsInHanded {} Try.checked os 5 .any (Rows.authCopiesSpec.pre6 enc Try.prog Try.f5 Rows.authCopiesRow.domain false) (Rows.authCopiesSpec.post enc Try.prog Try.f5 false true false false) := by
  refine returnsInHanded_of_change (C := Try.checked) own started (by kernel_rfl) Try.func5
    (ChangeSpec.witness6 (enc := enc) (C := Try.checked) false ⟨#[], #[.agg #[.slice none 0 0, .string ⟨#[]⟩, .string ⟨#[]⟩], .agg (Array.replicate 32 (.int .u8 0)), .int .u16 0], []⟩ 8 (by kernel_rfl) (by kernel_rfl) (by kernel_rfl) (by kernel_rfl)) ?_
  intro W base args ds gs before hval0 hW hcnd _
  have hval : ∀ (j : Nat) t v, Try.f5.params[j]? = some t → args[j]? = some v → Value.okWide Try.prog W .any base t v := hval0
  have hW' := hW
  obtain ⟨p, q, hA0, hV, rfl, hfz, hnd⟩ := hW
  have hA : DataW.TrodAll enc Try.prog W 0 (fun _ => true) true Try.f5.params.toList args.toList ds p := hA0
  rw [Try.params5] at hA hval
  obtain ⟨v0, vs0, d0, ds0, p0, q0, hargs, rfl, rfl, h0, r0⟩ := trodAll_cons hA
  obtain ⟨v1, vs1, d1, ds1, p1, q1, rfl, rfl, rfl, h1, r1⟩ := trodAll_cons r0
  obtain ⟨v2, vs2, d2, ds2, p2, q2, rfl, rfl, rfl, h2, r2⟩ := trodAll_cons r1
  obtain ⟨rfl, rfl, rfl⟩ := trodAll_nil r2
  obtain rfl : args = #[v0, v1, v2] := by cases args; simp_all
  obtain ⟨rfl, rfl⟩ := trodVars_none hV
  have lt0 : ∀ x ∈ p0, x.block < W.heap.size := by obtain ⟨m, hm⟩ := h0; exact DataW.trod_lt m _ _ _ hm
  have lt1 : ∀ x ∈ p1, x.block < W.heap.size := by obtain ⟨m, hm⟩ := h1; exact DataW.trod_lt m _ _ _ hm
  have lt2 : ∀ x ∈ p2, x.block < W.heap.size := by obtain ⟨m, hm⟩ := h2; exact DataW.trod_lt m _ _ _ hm
  have k0 := h0
  have k1 := h1
  have k2 := h2
  obtain ⟨s0, s1, s2, y0, y1, y2, m0, rfl, _, _, g0, g1, g2⟩ := open_agg3 Try.underlying24 (by kernel_rfl) (by kernel_rfl) (hval 0 24 v0 rfl rfl) h0
  obtain ⟨A, n, c, K, rfl, hn, hsl, hnil⟩ := open_bytes Try.underlying22 Try.underlying5 (by kernel_rfl) g0
  obtain ⟨H', e1, _, _⟩ := DataW.trod_string Try.underlying9 g1
  obtain ⟨S', e2, _, _⟩ := DataW.trod_string Try.underlying9 g2
  injection e1 with e1
  injection e2 with e2
  subst e1 e2
  obtain ⟨F, hF, rfl⟩ := open_arr32 Try.underlying25 Try.underlying5 (by kernel_rfl) (by kernel_rfl) (hval 1 25 v1 rfl rfl) h1
  obtain ⟨a2, rfl, rfl, rfl, w2⟩ := open_int Try.underlying27 (hval 2 27 v2 rfl rfl) h2
  have i2 : 0 ≤ a2 ∧ a2 ≤ 65535 := by simpa [Lit.wf, IntKind.min, IntKind.max, IntKind.signed, IntKind.bits] using w2
  obtain ⟨queue, rfl⟩ := Int.eq_ofNat_of_zero_le i2.1
  clear hA0 hval0
  refine (walk K n c queue A H' S' F W hsl hn hnil hF (by omega)).mono fun e W' ⟨he, bel⟩ => ?_
  subst he
  exact ⟨_, rfl, _, _, _, [], _, [], hW', trodAll_mk1 (shut_bool Try.underlying4 _), (trodAll_cons_mk (Below.trod laidOut (by kernel_rfl) (of_decide_eq_true (by kernel_rfl)) k0 bel lt0) (trodAll_cons_mk (Below.trod laidOut (by kernel_rfl) (of_decide_eq_true (by kernel_rfl)) k1 bel lt1) (trodAll_cons_mk (Below.trod laidOut (by kernel_rfl) (of_decide_eq_true (by kernel_rfl)) k2 bel lt2) trodAll_mk0))), rfl, bel.frame _, fun h => by cases h⟩

theorem over : Rows.authCopiesRow.holds Try.pinned (OpenSpec.ofChange Rows.authCopiesSpec) :=
  OpenClaim.holds_of_wide 5 Try.f5 rfl rfl rfl rfl rfl rfl rfl ⟨rfl, rfl, rfl, rfl, rfl⟩ rfl rfl rfl rfl rfl (by kernel_rfl) Try.func5 (by kernel_rfl)
    (of_decide_eq_true (by kernel_rfl)) (by unfold Func.isWrapper; first | (rw [if_pos (by decide +kernel)]; kernel_rfl) | (rw [if_neg (by decide +kernel)]; exact ⟨rfl, rfl⟩))
    (fun os started H enc _ => lifted os started H enc)
end Go.Proofs.Ytfamififoifagaa.authCopies
namespace Go.Proofs.Ytfamififoifagaa
theorem authCopies_holds : Rows.AuthCopiesSaid := authCopies.over
end Go.Proofs.Ytfamififoifagaa
