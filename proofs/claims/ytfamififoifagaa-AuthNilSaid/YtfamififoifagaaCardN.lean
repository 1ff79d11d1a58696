/- AuthNil holds: for every step the law returns true and leaves its argument as it was. -/
import Derived.Test.YtfamififoifagaaLawN
import Derived.Test.YtfamififoifagaaOpenN
namespace Go.Proofs.Ytfamififoifagaa.authNil
open Go.ChangeShapes Go.WideShapes Go.ChangeAt Go.RowKit
open Go.ChangeMaps (open_string)
open Go.Joins

theorem own : ownKnob Try.prog.godebug = none := by kernel_rfl
theorem laidOut : laidOutB Try.prog = true := by kernel_rfl

theorem act_nth (k : Int) (N : List UInt8) (seq queue : Nat) (s : Value) (both : Bool) (hN : N.length = 32) (j : Nat) : (actC k N seq queue s both).toArray[33 + j]? = [Value.int .u32 (seq : Nat), .int .u16 (queue : Nat), s, .bool both][j]? := by
  rw [List.getElem?_toArray]
  unfold actC
  rw [show 33 + j = (32 + j) + 1 by omega, List.getElem?_cons_succ, List.getElem?_append_right (by rw [List.length_map]; omega), List.length_map, hN, show 32 + j - 32 = j by omega]
theorem act_nonce (k : Int) (N : List UInt8) (seq queue : Nat) (s : Value) (both : Bool) (j : Nat) (v : Value) (h : (N.map b8)[j]? = some v) : (actC k N seq queue s both).toArray[1 + j]? = some v := by
  rw [List.getElem?_toArray]
  unfold actC
  rw [Nat.add_comm, List.getElem?_cons_succ, List.getElem?_append_left (List.getElem?_eq_some_iff.1 h).1]
  exact h
theorem walk (k : Int) (N : List UInt8) (seq queue : Nat) (s : Value) (both : Bool) (w : World) (hN : N.length = 32) :
    Calls Try.prog 6 #[.agg (actC k N seq queue s both).toArray] w (RetBool true w) :=
  nil_calls N seq queue s both _ w hN (act_nth k N seq queue s both hN 0) (act_nth k N seq queue s both hN 1) (act_nth k N seq queue s both hN 2) (act_nth k N seq queue s both hN 3) (act_nonce k N seq queue s both)

set_option maxRecDepth 100000 in
theorem lifted (os : Os) (started : os.Started) (H : Type) (enc : TypeId × Value → H) :
    ReturnsInHanded {} Try.checked os 6 .any (Rows.authNilSpec.pre6 enc Try.prog Try.f6 Rows.authNilRow.domain false) (Rows.authNilSpec.post enc Try.prog Try.f6 false true false false) := by
  refine returnsInHanded_of_change (C := Try.checked) own started (by kernel_rfl) Try.func6
    (ChangeSpec.witness6 (enc := enc) (C := Try.checked) false ⟨#[], #[.agg #[.int .i64 0, .int .u8 0, .int .u8 0, .int .u8 0, .int .u8 0, .int .u8 0, .int .u8 0, .int .u8 0, .int .u8 0, .int .u8 0, .int .u8 0, .int .u8 0, .int .u8 0, .int .u8 0, .int .u8 0, .int .u8 0, .int .u8 0, .int .u8 0, .int .u8 0, .int .u8 0, .int .u8 0, .int .u8 0, .int .u8 0, .int .u8 0, .int .u8 0, .int .u8 0, .int .u8 0, .int .u8 0, .int .u8 0, .int .u8 0, .int .u8 0, .int .u8 0, .int .u8 0, .int .u32 0, .int .u16 0, .slice none 0 0, .bool false]], []⟩ 8 (by kernel_rfl) (by kernel_rfl) (by kernel_rfl) (by kernel_rfl)) ?_
  intro W base args ds gs before hval0 hW hcnd _
  have hval : ∀ (j : Nat) t v, Try.f6.params[j]? = some t → args[j]? = some v → Value.okWide Try.prog W .any base t v := hval0
  have hW' := hW
  obtain ⟨p, q, hA0, hV, rfl, hfz, hnd⟩ := hW
  have hA : DataW.TrodAll enc Try.prog W 0 (fun _ => true) true Try.f6.params.toList args.toList ds p := hA0
  rw [Try.params6] at hA hval
  obtain ⟨v0, vs0, d0, ds0, p0, q0, hargs, rfl, rfl, h0, r0⟩ := trodAll_cons hA
  obtain ⟨hvs, rfl, rfl⟩ := trodAll_nil r0
  subst hvs
  obtain rfl : args = #[v0] := by cases args; simp_all
  obtain ⟨rfl, rfl⟩ := trodVars_none hV
  have lt0 : ∀ x ∈ p0, x.block < W.heap.size := by obtain ⟨m, hm⟩ := h0; exact DataW.trod_lt m _ _ _ hm
  have k0 := h0
  obtain ⟨k, N, seq, queue, A, n, c, both, rfl, hN, _, _⟩ := act_open (hval 0 50 v0 rfl rfl) h0
  clear hA0 hval0
  refine (walk k N seq queue (.slice A n c) both W hN).mono fun e W' ⟨he, bel⟩ => ?_
  subst he
  exact ⟨_, rfl, _, _, _, [], _, [], hW', trodAll_mk1 (shut_bool Try.underlying4 _), (trodAll_cons_mk (Below.trod laidOut (by kernel_rfl) (of_decide_eq_true (by kernel_rfl)) k0 bel lt0) trodAll_mk0), rfl, bel.frame _, fun h => by cases h⟩

theorem over : Rows.authNilRow.holds Try.pinned (OpenSpec.ofChange Rows.authNilSpec) :=
  OpenClaim.holds_of_wide 6 Try.f6 rfl rfl rfl rfl rfl rfl rfl ⟨rfl, rfl, rfl, rfl, rfl⟩ rfl rfl rfl rfl rfl (by kernel_rfl) Try.func6 (by kernel_rfl)
    (of_decide_eq_true (by kernel_rfl)) (by unfold Func.isWrapper; first | (rw [if_pos (by decide +kernel)]; kernel_rfl) | (rw [if_neg (by decide +kernel)]; exact ⟨rfl, rfl⟩))
    (fun os started H enc _ => lifted os started H enc)
end Go.Proofs.Ytfamififoifagaa.authNil
namespace Go.Proofs.Ytfamififoifagaa
theorem authNil_holds : Rows.AuthNilSaid := authNil.over
end Go.Proofs.Ytfamififoifagaa
