/- Contracts of auth's law: known. -/
import Derived.Test.YtfamififoifagaaAuthI
import Derived.Lib.SlBytesConst
namespace Go.Proofs.Ytfamififoifagaa
open Go.RowKit Words

def nonceA : List UInt8 := 1 :: List.replicate 31 0
def nonceB : List UInt8 := 2 :: List.replicate 31 0
theorem nonceA_len : nonceA.length = 32 := by simp [nonceA]
theorem nonceB_len : nonceB.length = 32 := by simp [nonceB]
theorem wpList_build_nonce {w : World} {ops : Array Oper} {rest : List Oper} {op : Oper} {a : Act} {Q : Exit → Act → World → Prop} (hgd : op.guard = none) (k : Int) (ho : op.op = .build 25 #[(0, .const (.int .u8 k))])
    (N : List UInt8) (hb : Try.prog.built 25 [(0, .int .u8 k)] = some (arrC b8 N))
    (hk : wpList Try.prog ops Q rest (a.put op.dst (.agg (arrC b8 N))) w) : wpList Try.prog ops Q (op :: rest) a w := by
  refine wpList_plain hgd fun K hK => ?_
  have hr := run_build (P := Try.prog) w 25 #[(0, .int .u8 k)] _ hb
  unfold Oper.wp execOp
  simp only [ho, List.map_toArray, List.map_cons, List.map_nil, Act.eval, Sem.run_bind, hr, Result.andThen_ok]
  exact hK _ _ hk
theorem builtA : Try.prog.built 25 [(0, .int .u8 1)] = some (arrC b8 nonceA) := by kernel_rfl
theorem builtB : Try.prog.built 25 [(0, .int .u8 2)] = some (arrC b8 nonceB) := by kernel_rfl
def KX : List UInt8 := [120]
theorem valid_x : validB 1 ⟨#[104]⟩ ⟨#[115]⟩ = true := by decide +kernel
theorem valid_0 : validB 0 ⟨#[104]⟩ ⟨#[115]⟩ = false := by decide +kernel

theorem sl_x (w : World) : Sl (w.alloc (.cells #[.int .u8 120] 5 (1, 2))) (w.alloc (.cells #[.int .u8 120] 5 (1, 2))).heap.size (some ⟨w.heap.size, 0, none⟩) (KX.map b8) := fun _ =>
  ⟨w.heap.size, 0, rfl, by simp, fun j v hj => by
    have h := heap_alloc_new w (.cells #[.int .u8 120] 5 (1, 2))
    rw [cell_unfold, h, cellAt_some, Nat.zero_add]
    rw [← Array.getElem?_toList]
    exact hj⟩
theorem ok_of {k f q s : Nat} (h1 : k < 256) (h2 : f < 256) (h3 : q < 65536) (h4 : s < 4294967296) : Hd.ok ⟨k, f, q, s⟩ := ⟨h1, h2, h3, h4⟩
set_option maxRecDepth 100000 in
set_option maxHeartbeats 8000000 in
theorem known_calls (w : World) : Calls Try.prog 8 #[] w (RetBool true w) := by
  have kc := fun (wx : World) (C : Array Value) (n c : Nat) => Lib.run_convert_bytes_const (P := Try.prog) wx 22 5 C n c Try.underlying22 Try.underlying5
  go_enter Try.func8, Try.ntmps8
  go_upto_region 2 with (go_at_call 9; refine (newVerifier_bad 0 0 none ⟨#[104]⟩ ⟨#[115]⟩ w (by decide) (by decide) valid_0).mono ?_; rintro e w1 ⟨rfl, hb1⟩; have hz1 := hb1.size)
  go_upto_region 3 with (go_at_call 9; (refine (newVerifier_ok KX 1 1 (some ⟨w1.heap.size, 0, none⟩) ⟨#[104]⟩ ⟨#[115]⟩ _ (by decide) (by decide) valid_x (sl_x w1) rfl (by simp) (by decide)).mono ?_); rintro e w2 ⟨bv, rfl, hzv, hb2, hV2⟩; have HB2 := Lib.hid (below_step hb1 (below_step ((Below.refl _ _).alloc (Nat.le_refl _) _) hb2)); have HV2 := Lib.hid hV2; have hv0 : w.heap.size ≤ bv := (by simp at hzv; omega); have hz2 : w.heap.size ≤ w2.heap.size := HB2.out.size; clear hb1 hb2 hV2)
  go_upto_region 4 with (go_at_call 10; refine (newProver_ok KX 1 1 (some ⟨w2.heap.size, 0, none⟩) ⟨#[104]⟩ ⟨#[115]⟩ _ (by decide) (by decide) valid_x (sl_x w2) rfl (by simp) (by decide)).mono ?_; rintro e w3 ⟨bp, rfl, hzp, hb3, hP3⟩; have hb3' := below_step ((Below.refl w2.heap.size w2).alloc (Nat.le_refl _) _) hb3; have HV3 := Lib.hid (HV2.out.below hb3'); have HB3 := Lib.hid (below_step HB2.out hb3'); have HP3 := Lib.hid hP3; have hp0 : w.heap.size ≤ bp := (by simp at hzp; omega); clear hb3 hb3' hP3)
  have hvp : bp ≠ bv := HV3.out.ne HP3.out (by decide)
  go_upto_region 7 with (first
    | (with_reducible refine wpList_build_nonce rfl 1 rfl nonceA builtA ?_)
    | (go_at_call 11; refine (challenge_ok KX (List.replicate 32 0) nonceA ⟨#[104]⟩ ⟨#[115]⟩ Hd.zero false false 5 1 bv w3 HV3.out (by decide) (by simp) nonceA_len (by decide) (by decide) (by decide)).mono ?_; rintro e w5 ⟨s1, rfl, hO5, hg5, hV5⟩))
  have HV5 := Lib.hid hV5
  have HP5 := Lib.hid (HP3.out.other HV3.out (fun e => hvp e.symm) (by decide) hg5)
  have HB5 := Lib.hid (HB3.out.grown hg5 (HB3.out.size) (fun k e => by injection e with e; omega))
  obtain ⟨A1, c1, rfl, _, _, _⟩ := hO5.form8
  rw [msg_len1 _ _ nonceA_len] at hO5 ⊢
  have HM1 := Lib.hid hO5
  have hz5 := hg5.size
  clear hO5 hg5 hV5
  go_upto_region 8 with (first
    | (with_reducible refine wpList_build_nonce rfl 1 rfl nonceA builtA ?_)
    | (go_at_call 11; refine (challenge_late KX nonceA nonceA ⟨#[104]⟩ ⟨#[115]⟩ _ true false 5 1 bv w5 HV5.out (by decide) (by decide)).mono ?_; rintro e w6 ⟨rfl, hb6⟩))
  have HV6 := Lib.hid (HV5.out.below hb6)
  have HP6 := Lib.hid (HP5.out.below hb6)
  have HB6 := Lib.hid (below_step HB5.out hb6)
  have HM6 := Lib.hid (HM1.out.below hb6 (Nat.le_refl _))
  have hz6 := hb6.size
  clear hb6
  go_upto_region 9 with (first
    | (with_reducible refine wpList_build_nonce rfl 2 rfl nonceB builtB ?_)
    | (go_at_call 12; refine (answer_both KX (List.replicate 32 0) nonceB (msgB ⟨1, 0, 1, 5⟩ [nonceA]) ⟨#[104]⟩ ⟨#[115]⟩ Hd.zero false false bp 40 c1 1 0 1 5 A1 w6 HP6.out (by decide) (by decide) (by simp) nonceB_len (by decide) (by decide) (msg_len1 _ _ nonceA_len).symm HM6.out.sl (parE_one _ _ 1 0 (ok_of (by decide) (by decide) (by decide) (by decide)) nonceA_len rfl (by decide) (by simp)) (parH_msg _ _ (ok_of (by decide) (by decide) (by decide) (by decide)))).mono ?_; rintro e w7 ⟨s2, rfl, hO7, hg7, hP7⟩))
  rw [parP_one _ _ nonceA_len] at hO7 
  generalize hRB : respB KX ⟨#[104]⟩ ⟨#[115]⟩ nonceA ⟨2, 1, 1, 5⟩ 72 = RB at hO7
  have hRl : RB.length = 32 := by rw [← hRB]; exact respB_len _ _ _ _ _ _
  have HP7 := Lib.hid hP7
  have HV7 := Lib.hid (HV6.out.other HP6.out hvp (by decide) hg7)
  have HB7 := Lib.hid (HB6.out.grown hg7 HB6.out.size (fun k e => by injection e with e; omega))
  have HM7 := Lib.hid (HM6.out.other HP6.out (by decide) hg7)
  obtain ⟨A2, c2, rfl, _, _, _⟩ := hO7.form8
  rw [msg_len2 _ _ _ hRl nonceB_len] at hO7 ⊢
  have HN7 := Lib.hid hO7
  have hz7 := hg7.size
  have hE2 := parE_two ⟨2, 1, 1, 5⟩ RB nonceB 2 1 (ok_of (by decide) (by decide) (by decide) (by decide)) hRl nonceB_len rfl (by decide) (by simp)
  have hH2 := parH_msg ⟨2, 1, 1, 5⟩ [RB, nonceB] (ok_of (by decide) (by decide) (by decide) (by decide))
  have HE2 := Lib.hid hE2
  have HH2 := Lib.hid hH2
  have HL2 := Lib.hid (msg_len2 ⟨2, 1, 1, 5⟩ RB nonceB hRl nonceB_len)
  have HR2 : Hid (sameB (parP (msgB ⟨2, 1, 1, 5⟩ [RB, nonceB]) 0) (respB KX ⟨#[104]⟩ ⟨#[115]⟩ nonceA ⟨2, 1, 1, 5⟩ 72) = true) := by
    show _ = _
    rw [parP_two0 _ _ _ hRl, hRB]
    exact same_refl _
  have HQ2 := Lib.hid (parP_two1 ⟨2, 1, 1, 5⟩ RB nonceB hRl nonceB_len)
  clear hO7 hg7 hP7 hE2 hH2 hRB hRl
  go_upto_region 10 with (go_at_call 15; refine (check_ok KX nonceA _ ⟨#[104]⟩ ⟨#[115]⟩ false bv 72 c2 2 1 1 5 1 0 A2 w7 HV7.out (by decide) (by decide) nonceA_len (by decide) (by decide) HL2.out.symm HN7.out.sl HE2.out HH2.out HR2.out).mono ?_; rintro e w8 ⟨s3, rfl, hO8, hg8, hV8⟩; rw [HQ2.out, show ansB KX ⟨#[104]⟩ ⟨#[115]⟩ nonceB ⟨2, 1, 1, 5⟩ = respB KX ⟨#[104]⟩ ⟨#[115]⟩ nonceB ⟨2, 1, 1, 5⟩ 67 from if_pos rfl] at hO8)
  generalize hRC : respB KX ⟨#[104]⟩ ⟨#[115]⟩ nonceB ⟨2, 1, 1, 5⟩ 67 = RC at hO8
  have hRl : RC.length = 32 := by rw [← hRC]; exact respB_len _ _ _ _ _ _
  have HV8 := Lib.hid hV8
  have HP8 := Lib.hid (HP7.out.other HV7.out (fun e => hvp e.symm) (by decide) hg8)
  have HB8 := Lib.hid (HB7.out.grown hg8 HB7.out.size (fun k e => by injection e with e; omega))
  have HM8 := Lib.hid (HM7.out.other HV7.out (by decide) hg8)
  have HN8 := Lib.hid (HN7.out.other HV7.out (by decide) hg8)
  obtain ⟨A3, c3, rfl, _, _, _⟩ := hO8.form8
  rw [msg_len1 _ _ hRl] at hO8 ⊢
  have HO8 := Lib.hid hO8
  have hz8 := hg8.size
  have HE3 := Lib.hid (parE_one ⟨3, 1, 1, 5⟩ RC 3 1 (ok_of (by decide) (by decide) (by decide) (by decide)) hRl rfl (by decide) (by simp))
  have HH3 := Lib.hid (parH_msg ⟨3, 1, 1, 5⟩ [RC] (ok_of (by decide) (by decide) (by decide) (by decide)))
  have HL3 := Lib.hid (msg_len1 ⟨3, 1, 1, 5⟩ RC hRl)
  have HR3 : Hid (sameB (parP (msgB ⟨3, 1, 1, 5⟩ [RC]) 0) (respB KX ⟨#[104]⟩ ⟨#[115]⟩ nonceB ⟨2, 1, 1, 5⟩ 67) = true) := by
    show _ = _
    rw [parP_one _ _ hRl, hRC]
    exact same_refl _
  clear hO8 hg8 hV8 hRC hRl
  go_upto_region 11 with (go_at_call 15; refine (check_shut KX nonceA _ ⟨#[104]⟩ ⟨#[115]⟩ true bv 72 c2 2 1 1 5 1 0 A2 w8 HV8.out (by decide) nonceA_len HL2.out.symm HN8.out.sl HE2.out HH2.out).mono ?_; rintro e w9 ⟨rfl, hb9⟩)
  have HP9 := Lib.hid (HP8.out.below hb9)
  have HB9 := Lib.hid (below_step HB8.out hb9)
  have HM9 := Lib.hid (HM8.out.below hb9 (Nat.le_refl _))
  have HO9 := Lib.hid (HO8.out.below hb9 (Nat.le_refl _))
  have hz9 := hb9.size
  clear hb9
  have hcv : (convert 22 9 (.slice A1 8 c1)).run Try.prog w9 = .ok (.string ⟨#[1, 0, 1, 0, 5, 0, 0, 0]⟩) w9 := by
    have h8 : (msgB ⟨1, 0, 1, 5⟩ [nonceA]).take 8 = [1, 0, 1, 0, 5, 0, 0, 0] := by decide +kernel
    have hs := (HM9.out.sl).take 8
    rw [← List.map_take, h8] at hs
    exact conv_sl [1, 0, 1, 0, 5, 0, 0, 0] A1 8 c1 _ hs rfl
  have hc1 : (8 : Int) ≤ (c1 : Int) := by have := HM9.out.form8; obtain ⟨A', c', h1, h2, _⟩ := this; injection h1 with _ _ h1; subst h1; rw [msg_len1 _ _ nonceA_len] at h2; omega
  go_wp2_with (go_at_call 16; refine (finish_two KX nonceB _ ⟨#[104]⟩ ⟨#[115]⟩ false bp 40 c3 3 1 5 A3 w9 HP9.out (by decide) nonceB_len (by decide) (by decide) (by decide) HL3.out.symm HO9.out.sl HE3.out HH3.out HR3.out).mono ?_; rintro e w10 ⟨rfl, hg10, hP10⟩)
  go_ret
  exact ⟨rfl, HB9.out.grown hg10 HB9.out.size (fun k e => by injection e with e; omega)⟩
end Go.Proofs.Ytfamififoifagaa
