/- Contracts of auth: Finish. -/
import Derived.Test.YtfamififoifagaaAuthF
namespace Go.Proofs.Ytfamififoifagaa
open Go.RowKit Words

section
variable {w : World} {ops : Array Oper} {op : Oper} {a : Act} {K : Act → World → Prop} {Q : Exit → Act → World → Prop} {E : Prop}
theorem step_callW {P : Program} (hw : Region.wanted op (yielded ops a.tmps) = true) {f : FuncId} {fn : Func} {args : Array Operand} {ts : Array TypeId} (ho : op.op = .call { callee := .value (.func f), args := args, argTypes := ts })
    (hf : P.funcs[f]? = some fn) (hn : (fn.name == "runtime.NumGoroutine") = false) (hb : fn.body.isNone = false) {vs : Array Value} (hv : args.map a.eval = vs) {v : Value}
    (hc : Calls P f vs w fun e w' => e = .returned v ∧ Below w.heap.size w w') (h : ∀ w', Below w.heap.size w w' → K (a.put op.dst v) w') :
    if Region.wanted op (yielded ops a.tmps) = true then Oper.wp P op a w K Q else E := by
  rw [if_pos hw]
  have hn' : ¬ fn.name = "runtime.NumGoroutine" := by simpa using hn
  have hb' : ¬ fn.body = none := by intro h0; rw [h0] at hb; simp at hb
  have hr : (execOp a.eval op).run P w = .ok (.enter f vs) w := by
    unfold execOp
    simp [ho, resolve, Act.eval, Deferred.ofValue, invoke, callFunc, hf, hn', hb', ← hv]
  unfold Oper.wp
  rw [hr, Oper.upon_enter]
  exact hc.mono fun e w' ⟨he, hb⟩ => by subst he; exact h w' hb
theorem step_neq_arrW (hw : Region.wanted op (yielded ops a.tmps) = true) (x y : Operand) (ty : TypeId) (ho : op.op = .binOp .neq 25 x y ty)
    (p q : List UInt8) (hx : a.eval x = .agg (arrC b8 p)) (hy : a.eval y = .agg (arrC b8 q)) (hp : p.length = 32) (hq : q.length = 32)
    (hk : K (a.put op.dst (.bool (!sameB p q))) w) : if Region.wanted op (yielded ops a.tmps) = true then Oper.wp Try.prog op a w K Q else E := by
  rw [if_pos hw]
  exact wp_neq_arr x y ty ho p q hx hy hp hq hk
end
def FiIs (b : Nat) (K : List UInt8) (H S : ByteArray) (sent : Hd) (N : List UInt8) (d : Bool) (k : Int) (w : World) (e : Ending) (w' : World) : Prop :=
  e = .returned (.int .i64 k) ∧ w.grownBy w' (some b) ∧ EndIs 59 w' b K H S sent N false d
set_option maxRecDepth 100000 in
set_option maxHeartbeats 4000000 in
theorem finish_shut (K N l : List UInt8) (H S : ByteArray) (sent : Hd) (d : Bool) (b L c a0 a1 a2 a3 : Nat) (A : Option Addr) (w : World) (hE : EndIs 59 w b K H S sent N false d) (hK : 0 < K.length) (hN : N.length = 32)
    (hL : L = l.length) (hs : Sl w w.heap.size A (l.map b8)) (hPE : parE l 3 1 1 = 0) (hPH : parH l = ⟨a0, a1, a2, a3⟩) :
    Calls Try.prog 16 #[.pointer (some ⟨b, 0, none⟩), .slice A L c] w (RetV 8 w) := by
  have hbl := hE.lt
  obtain ⟨v, hB, hO⟩ := hE
  obtain ⟨A1, c1, rfl, _, _, _⟩ := hO.form8
  generalize hnk : K.length = nk at hB hO hK
  have HNK := Lib.hid hnk
  have c0 : w.cell? ⟨b, 0, none⟩ = some (.slice A1 nk c1) := by rw [hB.cell]; rfl
  have c1' : w.cell? ⟨b, 1, none⟩ = some (.string H) := by rw [hB.cell]; rfl
  have c2 : w.cell? ⟨b, 2, none⟩ = some (.string S) := by rw [hB.cell]; rfl
  have HB := Lib.hid hB
  have HO := Lib.hid hO
  have HS := Lib.hid hs
  have HL := Lib.hid hL
  have HNL := Lib.hid hN
  have HE := Lib.hid hPE
  have HH := Lib.hid hPH
  have HLL := Lib.hid (parE_len hPE)
  clear hB hO hs hL hN hPE hPH hnk
  go_enter Try.func16, Try.ntmps16
  go_upto_region 4 with (first
    | (go_at_call 25; refine (none_calls nk c1 A1 H S w hK).mono ?_; rintro e w2 ⟨rfl, hb2⟩; have HB2 := Lib.hid (HB.out.below hb2 hbl); have HBB2 := Lib.hid hb2; have hz2 := hb2.size; have CP := Lib.hid (parsed_yes l L c 3 1 1 a0 a1 a2 a3 A w2 (by omega) (by omega) HL.out ((HS.out.below hb2).more hb2.size) (by omega) (by omega) HE.out HH.out); clear hb2)
    | (go_at_call 27; refine CP.out.mono ?_; rintro e w3 ⟨gp, cp, rfl, hb3, hp1, hp2, hr3⟩; have hz3 := hb3.size; have HB3 := Lib.hid (HB2.out.below hb3 (by omega)); have HBB3 := Lib.hid (below_step HBB2.out hb3); have HR3 := Lib.hid hr3; clear hb3 hr3))
  have hD4 : Blk (w3.alloc (.cells #[.int .u8 (a0 : Nat), .int .u8 (a1 : Nat), .int .u16 (a2 : Nat), .int .u32 (a3 : Nat)] 54)) w3.heap.size 54 #[.int .u8 (a0 : Nat), .int .u8 (a1 : Nat), .int .u16 (a2 : Nat), .int .u32 (a3 : Nat)] := Blk.new_ rfl
  have hB4 := HB3.out.alloc (.cells #[.int .u8 (a0 : Nat), .int .u8 (a1 : Nat), .int .u16 (a2 : Nat), .int .u32 (a3 : Nat)] 54)
  have hb4 : Below w3.heap.size w3 (w3.alloc (.cells #[.int .u8 (a0 : Nat), .int .u8 (a1 : Nat), .int .u16 (a2 : Nat), .int .u32 (a3 : Nat)] 54)) := (Below.refl _ _).alloc (Nat.le_refl _) _
  generalize w3.alloc (.cells #[.int .u8 (a0 : Nat), .int .u8 (a1 : Nat), .int .u16 (a2 : Nat), .int .u32 (a3 : Nat)] 54) = w4 at hD4 hB4 hb4 ⊢
  have hz4 := hb4.size
  have HBB4 := Lib.hid (below_step HBB3.out hb4)
  have HR4 : Hid (w4.rangeAt gp 0 ((parP l 0).map b8)) := rangeAt_keep (by have h6 := HR3.out 0 (by omega); simpa using h6) (hb4.block gp hp2)
  generalize w3.heap.size = gh at hD4 hp2 hz3 hz4 hb4 ⊢
  have hghl := hD4.lt
  have q39 : w4.cell? ⟨b, 39, none⟩ = some (.bool false) := by rw [hB4.cell, endC_open HNL.out]
  have f4 := hB4.frozen
  have HD4 := Lib.hid hD4
  have HB4 := Lib.hid hB4
  clear hD4 hB4 hb4 c0 c1' c2
  have hbgh : b ≠ gh := by omega
  have hgpgh : gp ≠ gh := by omega
  have hgpb : gp ≠ b := by omega
  go_wp2_with fail
  go_ret
  exact ⟨rfl, HBB4.out⟩
set_option maxRecDepth 100000 in
set_option maxHeartbeats 4000000 in
theorem finish_bad (K N l : List UInt8) (H S : ByteArray) (d : Bool) (b L c a0 a2 a3 : Nat) (A : Option Addr) (w : World) (hE : EndIs 59 w b K H S ⟨2, 1, a2, a3⟩ N true d) (hK : 0 < K.length) (hN : N.length = 32) (hKl : K.length ≤ 100000) (hH : H.size ≤ 60000) (hS : S.size ≤ 60000)
    (hL : L = l.length) (hs : Sl w w.heap.size A (l.map b8)) (hPE : parE l 3 1 1 = 0) (hPH : parH l = ⟨a0, 1, a2, a3⟩) (hR : sameB (parP l 0) (respB K H S N ⟨2, 1, a2, a3⟩ 67) = false) :
    Calls Try.prog 16 #[.pointer (some ⟨b, 0, none⟩), .slice A L c] w (FiIs b K H S ⟨2, 1, a2, a3⟩ N d 10 w) := by
  have hbl := hE.lt
  obtain ⟨v, hB, hO⟩ := hE
  obtain ⟨A1, c1, rfl, _, _, _⟩ := hO.form8
  generalize hnk : K.length = nk at hB hO hK hKl
  have HNK := Lib.hid hnk
  have c0 : w.cell? ⟨b, 0, none⟩ = some (.slice A1 nk c1) := by rw [hB.cell]; rfl
  have c1' : w.cell? ⟨b, 1, none⟩ = some (.string H) := by rw [hB.cell]; rfl
  have c2 : w.cell? ⟨b, 2, none⟩ = some (.string S) := by rw [hB.cell]; rfl
  have HB := Lib.hid hB
  have HO := Lib.hid hO
  have HS := Lib.hid hs
  have HL := Lib.hid hL
  have HNL := Lib.hid hN
  have HE := Lib.hid hPE
  have HH := Lib.hid hPH
  have HRS := Lib.hid hR
  have HLL := Lib.hid (parE_len hPE)
  clear hB hO hs hL hN hPE hPH hnk hR
  go_enter Try.func16, Try.ntmps16
  go_upto_region 4 with (first
    | (go_at_call 25; refine (none_calls nk c1 A1 H S w hK).mono ?_; rintro e w2 ⟨rfl, hb2⟩; have HB2 := Lib.hid (HB.out.below hb2 hbl); have HBB2 := Lib.hid hb2; have hz2 := hb2.size; have CP := Lib.hid (parsed_yes l L c 3 1 1 a0 1 a2 a3 A w2 (by omega) (by omega) HL.out ((HS.out.below hb2).more hb2.size) (by omega) (by omega) HE.out HH.out); clear hb2)
    | (go_at_call 27; refine CP.out.mono ?_; rintro e w3 ⟨gp, cp, rfl, hb3, hp1, hp2, hr3⟩; have hz3 := hb3.size; have HB3 := Lib.hid (HB2.out.below hb3 (by omega)); have HBB3 := Lib.hid (below_step HBB2.out hb3); have HR3 := Lib.hid hr3; clear hb3 hr3))
  have hD4 : Blk (w3.alloc (.cells #[.int .u8 (a0 : Nat), .int .u8 ((1 : Nat) : Int), .int .u16 (a2 : Nat), .int .u32 (a3 : Nat)] 54)) w3.heap.size 54 #[.int .u8 (a0 : Nat), .int .u8 ((1 : Nat) : Int), .int .u16 (a2 : Nat), .int .u32 (a3 : Nat)] := Blk.new_ rfl
  have hB4 := HB3.out.alloc (.cells #[.int .u8 (a0 : Nat), .int .u8 ((1 : Nat) : Int), .int .u16 (a2 : Nat), .int .u32 (a3 : Nat)] 54)
  have hb4 : Below w3.heap.size w3 (w3.alloc (.cells #[.int .u8 (a0 : Nat), .int .u8 ((1 : Nat) : Int), .int .u16 (a2 : Nat), .int .u32 (a3 : Nat)] 54)) := (Below.refl _ _).alloc (Nat.le_refl _) _
  generalize w3.alloc (.cells #[.int .u8 (a0 : Nat), .int .u8 ((1 : Nat) : Int), .int .u16 (a2 : Nat), .int .u32 (a3 : Nat)] 54) = w4 at hD4 hB4 hb4 ⊢
  have hz4 := hb4.size
  have HBB4 := Lib.hid (below_step HBB3.out hb4)
  have HR4 : Hid (w4.rangeAt gp 0 ((parP l 0).map b8)) := rangeAt_keep (by have h6 := HR3.out 0 (by omega); simpa using h6) (hb4.block gp hp2)
  generalize w3.heap.size = gh at hD4 hp2 hz3 hz4 hb4 ⊢
  have hghl := hD4.lt
  have q39 : w4.cell? ⟨b, 39, none⟩ = some (.bool true) := by rw [hB4.cell, endC_open HNL.out]
  have f4 := hB4.frozen
  have HD4 := Lib.hid hD4
  have HB4 := Lib.hid hB4
  clear hD4 hB4 hb4 c0 c1' c2
  have hbgh : b ≠ gh := by omega
  have hgpgh : gp ≠ gh := by omega
  have hgpb : gp ≠ b := by omega
  go_upto_region 9 with fail
  have hB5 : Blk (w4.setCell ⟨b, 39, none⟩ (.bool false)) b 59 (endC (.slice A1 nk c1) H S ⟨2, 1, a2, a3⟩ N false d).toArray := Blk.of_eq (HB4.out.set_ 39 _) (endC_setOpen HNL.out false)
  have hg5 : w4.grownBy (w4.setCell ⟨b, 39, none⟩ (.bool false)) (some b) := Lib.grownBy_setB (World.grownBy.refl w4 _) 39 _
  generalize w4.setCell ⟨b, 39, none⟩ (.bool false) = w5 at hB5 hg5 ⊢
  have HB5 := Lib.hid hB5
  have HD5 := Lib.hid (HD4.out.grown hg5 (by intro e; injection e with e; omega))
  have HR5 : Hid (w5.rangeAt gp 0 ((parP l 0).map b8)) := rangeAt_keep HR4.out (hg5.block gp (by omega) (by intro e; injection e with e; omega))
  have HG5 := Lib.hid (Lib.grownBy_trans (Lib.grownBy_below (World.grownBy.refl w (some b)) HBB4.out) hg5)
  have hz5 := hg5.size
  have d0 : w5.cell? ⟨gh, 0, none⟩ = some (.int .u8 (a0 : Nat)) := by rw [HD5.out.cell]; rfl
  have f5 := HD5.out.frozen
  clear hB5 hg5 q39 f4
  go_upto_region 10 with fail
  have hD6 : Blk (w5.setCell ⟨gh, 0, none⟩ (.int .u8 2)) gh 54 #[.int .u8 ((2 : Nat) : Int), .int .u8 ((1 : Nat) : Int), .int .u16 (a2 : Nat), .int .u32 (a3 : Nat)] := Blk.of_eq (HD5.out.set_ 0 _) rfl
  have hg6 : w5.grownBy (w5.setCell ⟨gh, 0, none⟩ (.int .u8 2)) (some gh) := Lib.grownBy_setB (World.grownBy.refl w5 _) 0 _
  generalize w5.setCell ⟨gh, 0, none⟩ (.int .u8 2) = w6 at hD6 hg6 ⊢
  have HD6 := Lib.hid hD6
  have HB6 := Lib.hid (HB5.out.grown hg6 (by intro e; injection e with e; omega))
  have HR6 : Hid (w6.rangeAt gp 0 ((parP l 0).map b8)) := rangeAt_keep HR5.out (hg6.block gp (by omega) (by intro e; injection e with e; omega))
  have HG6 := Lib.hid (World.grownBy.andThen HG5.out hg6 (fun j e => by injection e with e; left; omega))
  have hz6 := hg6.size
  have HO6 := Lib.hid (HO.out.grown HG6.out (Or.inr (HO.out.ne HB.out (by decide))))
  clear hD6 hg6 d0 f5
  refine wp_region_held (S := fun wx : World => Blk wx b 59 (endC (.slice A1 nk c1) H S ⟨2, 1, a2, a3⟩ N false d).toArray ∧ Blk wx gh 54 #[.int .u8 ((2 : Nat) : Int), .int .u8 ((1 : Nat) : Int), .int .u16 (a2 : Nat), .int .u32 (a3 : Nat)] ∧ wx.rangeAt gp 0 ((parP l 0).map b8)) (by kernel_rfl) ?_
  change wpAnyH _ _ _ _ _ _ _ _ (World.drew _)
  refine wpAnyH_take (i := 0) (v := .agg #[.int .u8 ((2 : Nat) : Int), .int .u8 ((1 : Nat) : Int), .int .u16 (a2 : Nat), .int .u32 (a3 : Nat)]) rfl (by kernel_rfl) (by kernel_rfl) (by kernel_rfl) (fun _ _ _ h => h) (yields_load (by rfl) 54 (.tmp 5) rfl gh 0 (by rfl) [.int .u8 ((2 : Nat) : Int), .int .u8 ((1 : Nat) : Int), .int .u16 (a2 : Nat), .int .u32 (a3 : Nat)] _ (fun _ h => blk_range h.2.1) Try.underlying54 rfl head_size) ⟨HB6.out.drew, HD6.out.drew, HR6.out⟩ ?_
  refine wpAnyH_take (i := 1) (v := .pointer (some ⟨b, 0, none⟩)) rfl (by kernel_rfl) (by kernel_rfl) (by kernel_rfl) (fun _ _ _ h => h) (Or.inl ⟨by rfl, by intro w _; go_simp⟩) ⟨HB6.out.drew, HD6.out.drew, HR6.out⟩ ?_
  refine wpAnyH_take (i := 2) (v := .pointer (some ⟨b, 0, none⟩)) rfl (by kernel_rfl) (by kernel_rfl) (by kernel_rfl) (fun _ _ _ h => h) (Or.inl ⟨by rfl, by intro w _; go_simp⟩) ⟨HB6.out.drew, HD6.out.drew, HR6.out⟩ ?_
  go_simp
  refine wpAnyH_take (i := 3) (v := .pointer (some ⟨b, 3, none⟩)) rfl (by kernel_rfl) (by kernel_rfl) (by kernel_rfl) (fun _ _ _ h => h) (Or.inl ⟨by rfl, by intro w _; go_simp⟩) ⟨HB6.out.drew, HD6.out.drew, HR6.out⟩ ?_
  refine wpAnyH_take (i := 4) (v := .agg #[.int .u8 ((2 : Nat) : Int), .int .u8 ((1 : Nat) : Int), .int .u16 (a2 : Nat), .int .u32 (a3 : Nat)]) rfl (by kernel_rfl) (by kernel_rfl) (by kernel_rfl) (fun _ _ _ h => h) (yields_load (by rfl) 54 (.tmp 41) rfl b 3 (by rfl) (hdC ⟨2, 1, a2, a3⟩) _ (fun _ h => end_range_head h.1) Try.underlying54 rfl head_size) ⟨HB6.out.drew, HD6.out.drew, HR6.out⟩ ?_
  refine wpAnyH_take (i := 5) (v := .bool false) rfl (by kernel_rfl) (by kernel_rfl) (by kernel_rfl) (fun _ _ _ h => h) (Or.inl ⟨by rfl, by intro w _; go_simp⟩) ⟨HB6.out.drew, HD6.out.drew, HR6.out⟩ ?_
  go_simp
  refine wpAnyH_take (i := 6) (v := .bool false) rfl (by kernel_rfl) (by kernel_rfl) (by kernel_rfl) (fun _ _ _ h => h) (Or.inl ⟨by rfl, by intro w _; go_simp⟩) ⟨HB6.out.drew, HD6.out.drew, HR6.out⟩ ?_
  refine wpAnyH_done (by kernel_rfl) ?_ _
  go_simp
  go_upto_region 12 with fail
  have HP0 := Lib.hid (parP_len l 1 0 HLL.out (by omega))
  have hok := HH.out ▸ parH_ok l
  have CR := Lib.hid (response_calls K N nk c1 A1 H S ⟨2, 1, a2, a3⟩ 67 w6.drew.drew (OwnAt.sl (w := w6.drew.drew) (OwnAt.drew (OwnAt.drew HO6.out))) HNK.out.symm (by rw [HNK.out]; exact hKl) hH hS HNL.out ⟨show (2 : Nat) < 256 by omega, hok.2⟩ (by omega))
  clear hok
  refine wp_region_held (S := fun wx : World => Blk wx b 59 (endC (.slice A1 nk c1) H S ⟨2, 1, a2, a3⟩ N false d).toArray ∧ Blk wx gh 54 #[.int .u8 ((2 : Nat) : Int), .int .u8 ((1 : Nat) : Int), .int .u16 (a2 : Nat), .int .u32 (a3 : Nat)] ∧ wx.rangeAt gp 0 ((parP l 0).map b8)) (by kernel_rfl) ?_
  change wpAnyH _ _ _ _ _ _ _ _ (World.drew _)
  refine wpAnyH_take (i := 0) (v := .pointer (some ⟨gh, 1, none⟩)) rfl (by kernel_rfl) (by kernel_rfl) (by kernel_rfl) (fun _ _ _ h => h) (Or.inl ⟨by rfl, by intro w _; go_simp⟩) ⟨HB6.out.drew.drew, HD6.out.drew.drew, HR6.out⟩ ?_
  refine wpAnyH_take (i := 1) (v := .int .u8 ((1 : Nat) : Int)) rfl (by kernel_rfl) (by kernel_rfl) (by kernel_rfl) (fun _ _ _ h => h) (Or.inl ⟨by rfl, by intro wz hz; have hc : wz.cell? ⟨gh, 1, none⟩ = some (.int .u8 ((1 : Nat) : Int)) := (by rw [hz.2.1.cell]; rfl); go_simp⟩) ⟨HB6.out.drew.drew, HD6.out.drew.drew, HR6.out⟩ ?_
  refine wpAnyH_take (i := 2) (v := .bool true) rfl (by kernel_rfl) (by kernel_rfl) (by kernel_rfl) (fun _ _ _ h => h) (Or.inl ⟨by rfl, by intro w _; go_simp⟩) ⟨HB6.out.drew.drew, HD6.out.drew.drew, HR6.out⟩ ?_
  go_simp
  refine wpAnyH_take (i := 3) (v := .bool true) rfl (by kernel_rfl) (by kernel_rfl) (by kernel_rfl) (fun _ _ _ h => h) (Or.inl ⟨by rfl, by intro w _; go_simp⟩) ⟨HB6.out.drew.drew, HD6.out.drew.drew, HR6.out⟩ ?_
  go_simp
  refine wpAnyH_take (i := 4) (v := .slice (some ⟨gp, 0, none⟩) 1 cp) rfl (by kernel_rfl) (by kernel_rfl) (by kernel_rfl) (fun _ _ _ h => h) (Or.inl ⟨by rfl, by intro w _; go_simp⟩) ⟨HB6.out.drew.drew, HD6.out.drew.drew, HR6.out⟩ ?_
  refine wpAnyH_take (i := 5) (v := .pointer (some ⟨gp, 0, none⟩)) rfl (by kernel_rfl) (by kernel_rfl) (by kernel_rfl) (fun _ _ _ h => h) (Or.inl ⟨by rfl, by intro w _; go_simp⟩) ⟨HB6.out.drew.drew, HD6.out.drew.drew, HR6.out⟩ ?_
  go_simp
  refine wpAnyH_take (i := 6) (v := .agg (arrC b8 (parP l 0))) rfl (by kernel_rfl) (by kernel_rfl) (by kernel_rfl) (fun _ _ _ h => h) (yields_load (by rfl) 25 (.tmp 50) rfl gp 0 (by rfl) ((parP l 0).map b8) _ (fun _ h => h.2.2) Try.underlying25 rfl (by rw [List.length_map, HP0.out]; exact a32_size)) ⟨HB6.out.drew.drew, HD6.out.drew.drew, HR6.out⟩ ?_
  refine wpAnyH_take (i := 7) (v := .pointer (some ⟨b, 0, none⟩)) rfl (by kernel_rfl) (by kernel_rfl) (by kernel_rfl) (fun _ _ _ h => h) (Or.inl ⟨by rfl, by intro w _; go_simp⟩) ⟨HB6.out.drew.drew, HD6.out.drew.drew, HR6.out⟩ ?_
  refine wpAnyH_take (i := 8) (v := .pointer (some ⟨b, 0, none⟩)) rfl (by kernel_rfl) (by kernel_rfl) (by kernel_rfl) (fun _ _ _ h => h) (Or.inl ⟨by rfl, by intro w _; go_simp⟩) ⟨HB6.out.drew.drew, HD6.out.drew.drew, HR6.out⟩ ?_
  go_simp
  refine wpAnyH_take (i := 9) (v := .pointer (some ⟨b, 0, none⟩)) rfl (by kernel_rfl) (by kernel_rfl) (by kernel_rfl) (fun _ _ _ h => h) (Or.inl ⟨by rfl, by intro w _; go_simp⟩) ⟨HB6.out.drew.drew, HD6.out.drew.drew, HR6.out⟩ ?_
  refine wpAnyH_take (i := 10) (v := .agg #[.slice A1 nk c1, .string H, .string S]) rfl (by kernel_rfl) (by kernel_rfl) (by kernel_rfl) (fun _ _ _ h => h) (yields_load (by rfl) 52 (.tmp 54) rfl b 0 (by rfl) [.slice A1 nk c1, .string H, .string S] _ (fun _ h => end_range_party h.1) Try.underlying52 rfl party_size) ⟨HB6.out.drew.drew, HD6.out.drew.drew, HR6.out⟩ ?_
  refine wpAnyH_take (i := 11) (v := .pointer (some ⟨b, 0, none⟩)) rfl (by kernel_rfl) (by kernel_rfl) (by kernel_rfl) (fun _ _ _ h => h) (Or.inl ⟨by rfl, by intro w _; go_simp⟩) ⟨HB6.out.drew.drew, HD6.out.drew.drew, HR6.out⟩ ?_
  go_simp
  refine wpAnyH_take (i := 12) (v := .pointer (some ⟨b, 0, none⟩)) rfl (by kernel_rfl) (by kernel_rfl) (by kernel_rfl) (fun _ _ _ h => h) (Or.inl ⟨by rfl, by intro w _; go_simp⟩) ⟨HB6.out.drew.drew, HD6.out.drew.drew, HR6.out⟩ ?_
  refine wpAnyH_take (i := 13) (v := .pointer (some ⟨b, 7, none⟩)) rfl (by kernel_rfl) (by kernel_rfl) (by kernel_rfl) (fun _ _ _ h => h) (Or.inl ⟨by rfl, by intro w _; go_simp⟩) ⟨HB6.out.drew.drew, HD6.out.drew.drew, HR6.out⟩ ?_
  refine wpAnyH_take (i := 14) (v := .agg (arrC b8 N)) rfl (by kernel_rfl) (by kernel_rfl) (by kernel_rfl) (fun _ _ _ h => h) (yields_load (by rfl) 25 (.tmp 58) rfl b 7 (by rfl) (N.map b8) _ (fun _ h => end_range_nonce h.1) Try.underlying25 rfl (by rw [List.length_map, HNL.out]; exact a32_size)) ⟨HB6.out.drew.drew, HD6.out.drew.drew, HR6.out⟩ ?_
  go_simp
  refine wpAnyH_take (i := 15) (v := .agg #[.int .u8 ((2 : Nat) : Int), .int .u8 ((1 : Nat) : Int), .int .u16 (a2 : Nat), .int .u32 (a3 : Nat)]) rfl (by kernel_rfl) (by kernel_rfl) (by kernel_rfl) (fun _ _ _ h => h) (yields_load (by rfl) 54 (.tmp 5) rfl gh 0 (by rfl) [.int .u8 ((2 : Nat) : Int), .int .u8 ((1 : Nat) : Int), .int .u16 (a2 : Nat), .int .u32 (a3 : Nat)] _ (fun _ h => blk_range h.2.1) Try.underlying54 rfl head_size) ⟨HB6.out.drew.drew, HD6.out.drew.drew, HR6.out⟩ ?_
  go_simp
  refine heldOne (i := 16) (by kernel_rfl) rfl (fun K' hK' => ?_)
  refine step_callW (by rfl) (f := 28) rfl Try.func28 (by kernel_rfl) (by kernel_rfl) (by rw [List.map_toArray]; rfl) CR.out ?_
  intro w7 hb7
  have HB7 := Lib.hid (HB6.out.drew.drew.below hb7 HB6.out.lt)
  have HD7 := Lib.hid (HD6.out.drew.drew.below hb7 HD6.out.lt)
  have HR7 : Hid (w7.rangeAt gp 0 ((parP l 0).map b8)) := rangeAt_keep HR6.out (hb7.block gp (by show gp < w6.heap.size; omega))
  have HG7 := Lib.hid (Lib.grownBy_below (grown_drew (grown_drew HG6.out)) hb7)
  have HO7 := Lib.hid ((OwnAt.drew (OwnAt.drew HO6.out)).below hb7 (Nat.le_refl _))
  clear hb7
  refine hK' _ _ ⟨HB7.out, HD7.out, HR7.out⟩ ?_
  clear hK' K'
  go_simp
  refine heldOne (i := 17) (by kernel_rfl) rfl (fun K' hK' => ?_)
  refine step_neq_arrW (by rfl) (.tmp 51) (.tmp 61) _ rfl (parP l 0) (respB K H S N ⟨2, 1, a2, a3⟩ 67) rfl rfl HP0.out (respB_len _ _ _ _ _ _) ?_
  rw [HRS.out]
  refine hK' _ _ ⟨HB7.out, HD7.out, HR7.out⟩ ?_
  clear hK' K'
  go_simp
  refine wpAnyH_take (i := 18) (v := .bool true) rfl (by kernel_rfl) (by kernel_rfl) (by kernel_rfl) (fun _ _ _ h => h) (Or.inl ⟨by rfl, by intro w _; go_simp⟩) ⟨HB7.out, HD7.out, HR7.out⟩ ?_
  refine wpAnyH_take (i := 19) (v := .bool true) rfl (by kernel_rfl) (by kernel_rfl) (by kernel_rfl) (fun _ _ _ h => h) (Or.inl ⟨by rfl, by intro w _; go_simp⟩) ⟨HB7.out, HD7.out, HR7.out⟩ ?_
  go_simp
  refine wpAnyH_done (by kernel_rfl) ?_ _
  go_wp2_with fail
  go_ret
  exact ⟨rfl, HG7.out, _, HB7.out, HO7.out⟩
set_option maxRecDepth 100000 in
set_option maxHeartbeats 4000000 in
theorem finish_two (K N l : List UInt8) (H S : ByteArray) (d : Bool) (b L c a0 a2 a3 : Nat) (A : Option Addr) (w : World) (hE : EndIs 59 w b K H S ⟨2, 1, a2, a3⟩ N true d) (hK : 0 < K.length) (hN : N.length = 32) (hKl : K.length ≤ 100000) (hH : H.size ≤ 60000) (hS : S.size ≤ 60000)
    (hL : L = l.length) (hs : Sl w w.heap.size A (l.map b8)) (hPE : parE l 3 1 1 = 0) (hPH : parH l = ⟨a0, 1, a2, a3⟩) (hR : sameB (parP l 0) (respB K H S N ⟨2, 1, a2, a3⟩ 67) = true) :
    Calls Try.prog 16 #[.pointer (some ⟨b, 0, none⟩), .slice A L c] w (FiIs b K H S ⟨2, 1, a2, a3⟩ N true 0 w) := by
  have hbl := hE.lt
  obtain ⟨v, hB, hO⟩ := hE
  obtain ⟨A1, c1, rfl, _, _, _⟩ := hO.form8
  generalize hnk : K.length = nk at hB hO hK hKl
  have HNK := Lib.hid hnk
  have c0 : w.cell? ⟨b, 0, none⟩ = some (.slice A1 nk c1) := by rw [hB.cell]; rfl
  have c1' : w.cell? ⟨b, 1, none⟩ = some (.string H) := by rw [hB.cell]; rfl
  have c2 : w.cell? ⟨b, 2, none⟩ = some (.string S) := by rw [hB.cell]; rfl
  have HB := Lib.hid hB
  have HO := Lib.hid hO
  have HS := Lib.hid hs
  have HL := Lib.hid hL
  have HNL := Lib.hid hN
  have HE := Lib.hid hPE
  have HH := Lib.hid hPH
  have HRS := Lib.hid hR
  have HLL := Lib.hid (parE_len hPE)
  clear hB hO hs hL hN hPE hPH hnk hR
  go_enter Try.func16, Try.ntmps16
  go_upto_region 4 with (first
    | (go_at_call 25; refine (none_calls nk c1 A1 H S w hK).mono ?_; rintro e w2 ⟨rfl, hb2⟩; have HB2 := Lib.hid (HB.out.below hb2 hbl); have HBB2 := Lib.hid hb2; have hz2 := hb2.size; have CP := Lib.hid (parsed_yes l L c 3 1 1 a0 1 a2 a3 A w2 (by omega) (by omega) HL.out ((HS.out.below hb2).more hb2.size) (by omega) (by omega) HE.out HH.out); clear hb2)
    | (go_at_call 27; refine CP.out.mono ?_; rintro e w3 ⟨gp, cp, rfl, hb3, hp1, hp2, hr3⟩; have hz3 := hb3.size; have HB3 := Lib.hid (HB2.out.below hb3 (by omega)); have HBB3 := Lib.hid (below_step HBB2.out hb3); have HR3 := Lib.hid hr3; clear hb3 hr3))
  have hD4 : Blk (w3.alloc (.cells #[.int .u8 (a0 : Nat), .int .u8 ((1 : Nat) : Int), .int .u16 (a2 : Nat), .int .u32 (a3 : Nat)] 54)) w3.heap.size 54 #[.int .u8 (a0 : Nat), .int .u8 ((1 : Nat) : Int), .int .u16 (a2 : Nat), .int .u32 (a3 : Nat)] := Blk.new_ rfl
  have hB4 := HB3.out.alloc (.cells #[.int .u8 (a0 : Nat), .int .u8 ((1 : Nat) : Int), .int .u16 (a2 : Nat), .int .u32 (a3 : Nat)] 54)
  have hb4 : Below w3.heap.size w3 (w3.alloc (.cells #[.int .u8 (a0 : Nat), .int .u8 ((1 : Nat) : Int), .int .u16 (a2 : Nat), .int .u32 (a3 : Nat)] 54)) := (Below.refl _ _).alloc (Nat.le_refl _) _
  generalize w3.alloc (.cells #[.int .u8 (a0 : Nat), .int .u8 ((1 : Nat) : Int), .int .u16 (a2 : Nat), .int .u32 (a3 : Nat)] 54) = w4 at hD4 hB4 hb4 ⊢
  have hz4 := hb4.size
  have HBB4 := Lib.hid (below_step HBB3.out hb4)
  have HR4 : Hid (w4.rangeAt gp 0 ((parP l 0).map b8)) := rangeAt_keep (by have h6 := HR3.out 0 (by omega); simpa using h6) (hb4.block gp hp2)
  generalize w3.heap.size = gh at hD4 hp2 hz3 hz4 hb4 ⊢
  have hghl := hD4.lt
  have q39 : w4.cell? ⟨b, 39, none⟩ = some (.bool true) := by rw [hB4.cell, endC_open HNL.out]
  have f4 := hB4.frozen
  have HD4 := Lib.hid hD4
  have HB4 := Lib.hid hB4
  clear hD4 hB4 hb4 c0 c1' c2
  have hbgh : b ≠ gh := by omega
  have hgpgh : gp ≠ gh := by omega
  have hgpb : gp ≠ b := by omega
  go_upto_region 9 with fail
  have hB5 : Blk (w4.setCell ⟨b, 39, none⟩ (.bool false)) b 59 (endC (.slice A1 nk c1) H S ⟨2, 1, a2, a3⟩ N false d).toArray := Blk.of_eq (HB4.out.set_ 39 _) (endC_setOpen HNL.out false)
  have hg5 : w4.grownBy (w4.setCell ⟨b, 39, none⟩ (.bool false)) (some b) := Lib.grownBy_setB (World.grownBy.refl w4 _) 39 _
  generalize w4.setCell ⟨b, 39, none⟩ (.bool false) = w5 at hB5 hg5 ⊢
  have HB5 := Lib.hid hB5
  have HD5 := Lib.hid (HD4.out.grown hg5 (by intro e; injection e with e; omega))
  have HR5 : Hid (w5.rangeAt gp 0 ((parP l 0).map b8)) := rangeAt_keep HR4.out (hg5.block gp (by omega) (by intro e; injection e with e; omega))
  have HG5 := Lib.hid (Lib.grownBy_trans (Lib.grownBy_below (World.grownBy.refl w (some b)) HBB4.out) hg5)
  have hz5 := hg5.size
  have d0 : w5.cell? ⟨gh, 0, none⟩ = some (.int .u8 (a0 : Nat)) := by rw [HD5.out.cell]; rfl
  have f5 := HD5.out.frozen
  clear hB5 hg5 q39 f4
  go_upto_region 10 with fail
  have hD6 : Blk (w5.setCell ⟨gh, 0, none⟩ (.int .u8 2)) gh 54 #[.int .u8 ((2 : Nat) : Int), .int .u8 ((1 : Nat) : Int), .int .u16 (a2 : Nat), .int .u32 (a3 : Nat)] := Blk.of_eq (HD5.out.set_ 0 _) rfl
  have hg6 : w5.grownBy (w5.setCell ⟨gh, 0, none⟩ (.int .u8 2)) (some gh) := Lib.grownBy_setB (World.grownBy.refl w5 _) 0 _
  generalize w5.setCell ⟨gh, 0, none⟩ (.int .u8 2) = w6 at hD6 hg6 ⊢
  have HD6 := Lib.hid hD6
  have HB6 := Lib.hid (HB5.out.grown hg6 (by intro e; injection e with e; omega))
  have HR6 : Hid (w6.rangeAt gp 0 ((parP l 0).map b8)) := rangeAt_keep HR5.out (hg6.block gp (by omega) (by intro e; injection e with e; omega))
  have HG6 := Lib.hid (World.grownBy.andThen HG5.out hg6 (fun j e => by injection e with e; left; omega))
  have hz6 := hg6.size
  have HO6 := Lib.hid (HO.out.grown HG6.out (Or.inr (HO.out.ne HB.out (by decide))))
  clear hD6 hg6 d0 f5
  refine wp_region_held (S := fun wx : World => Blk wx b 59 (endC (.slice A1 nk c1) H S ⟨2, 1, a2, a3⟩ N false d).toArray ∧ Blk wx gh 54 #[.int .u8 ((2 : Nat) : Int), .int .u8 ((1 : Nat) : Int), .int .u16 (a2 : Nat), .int .u32 (a3 : Nat)] ∧ wx.rangeAt gp 0 ((parP l 0).map b8)) (by kernel_rfl) ?_
  change wpAnyH _ _ _ _ _ _ _ _ (World.drew _)
  refine wpAnyH_take (i := 0) (v := .agg #[.int .u8 ((2 : Nat) : Int), .int .u8 ((1 : Nat) : Int), .int .u16 (a2 : Nat), .int .u32 (a3 : Nat)]) rfl (by kernel_rfl) (by kernel_rfl) (by kernel_rfl) (fun _ _ _ h => h) (yields_load (by rfl) 54 (.tmp 5) rfl gh 0 (by rfl) [.int .u8 ((2 : Nat) : Int), .int .u8 ((1 : Nat) : Int), .int .u16 (a2 : Nat), .int .u32 (a3 : Nat)] _ (fun _ h => blk_range h.2.1) Try.underlying54 rfl head_size) ⟨HB6.out.drew, HD6.out.drew, HR6.out⟩ ?_
  refine wpAnyH_take (i := 1) (v := .pointer (some ⟨b, 0, none⟩)) rfl (by kernel_rfl) (by kernel_rfl) (by kernel_rfl) (fun _ _ _ h => h) (Or.inl ⟨by rfl, by intro w _; go_simp⟩) ⟨HB6.out.drew, HD6.out.drew, HR6.out⟩ ?_
  refine wpAnyH_take (i := 2) (v := .pointer (some ⟨b, 0, none⟩)) rfl (by kernel_rfl) (by kernel_rfl) (by kernel_rfl) (fun _ _ _ h => h) (Or.inl ⟨by rfl, by intro w _; go_simp⟩) ⟨HB6.out.drew, HD6.out.drew, HR6.out⟩ ?_
  go_simp
  refine wpAnyH_take (i := 3) (v := .pointer (some ⟨b, 3, none⟩)) rfl (by kernel_rfl) (by kernel_rfl) (by kernel_rfl) (fun _ _ _ h => h) (Or.inl ⟨by rfl, by intro w _; go_simp⟩) ⟨HB6.out.drew, HD6.out.drew, HR6.out⟩ ?_
  refine wpAnyH_take (i := 4) (v := .agg #[.int .u8 ((2 : Nat) : Int), .int .u8 ((1 : Nat) : Int), .int .u16 (a2 : Nat), .int .u32 (a3 : Nat)]) rfl (by kernel_rfl) (by kernel_rfl) (by kernel_rfl) (fun _ _ _ h => h) (yields_load (by rfl) 54 (.tmp 41) rfl b 3 (by rfl) (hdC ⟨2, 1, a2, a3⟩) _ (fun _ h => end_range_head h.1) Try.underlying54 rfl head_size) ⟨HB6.out.drew, HD6.out.drew, HR6.out⟩ ?_
  refine wpAnyH_take (i := 5) (v := .bool false) rfl (by kernel_rfl) (by kernel_rfl) (by kernel_rfl) (fun _ _ _ h => h) (Or.inl ⟨by rfl, by intro w _; go_simp⟩) ⟨HB6.out.drew, HD6.out.drew, HR6.out⟩ ?_
  go_simp
  refine wpAnyH_take (i := 6) (v := .bool false) rfl (by kernel_rfl) (by kernel_rfl) (by kernel_rfl) (fun _ _ _ h => h) (Or.inl ⟨by rfl, by intro w _; go_simp⟩) ⟨HB6.out.drew, HD6.out.drew, HR6.out⟩ ?_
  refine wpAnyH_done (by kernel_rfl) ?_ _
  go_simp
  go_upto_region 12 with fail
  have HP0 := Lib.hid (parP_len l 1 0 HLL.out (by omega))
  have hok := HH.out ▸ parH_ok l
  have CR := Lib.hid (response_calls K N nk c1 A1 H S ⟨2, 1, a2, a3⟩ 67 w6.drew.drew (OwnAt.sl (w := w6.drew.drew) (OwnAt.drew (OwnAt.drew HO6.out))) HNK.out.symm (by rw [HNK.out]; exact hKl) hH hS HNL.out ⟨show (2 : Nat) < 256 by omega, hok.2⟩ (by omega))
  clear hok
  refine wp_region_held (S := fun wx : World => Blk wx b 59 (endC (.slice A1 nk c1) H S ⟨2, 1, a2, a3⟩ N false d).toArray ∧ Blk wx gh 54 #[.int .u8 ((2 : Nat) : Int), .int .u8 ((1 : Nat) : Int), .int .u16 (a2 : Nat), .int .u32 (a3 : Nat)] ∧ wx.rangeAt gp 0 ((parP l 0).map b8)) (by kernel_rfl) ?_
  change wpAnyH _ _ _ _ _ _ _ _ (World.drew _)
  refine wpAnyH_take (i := 0) (v := .pointer (some ⟨gh, 1, none⟩)) rfl (by kernel_rfl) (by kernel_rfl) (by kernel_rfl) (fun _ _ _ h => h) (Or.inl ⟨by rfl, by intro w _; go_simp⟩) ⟨HB6.out.drew.drew, HD6.out.drew.drew, HR6.out⟩ ?_
  refine wpAnyH_take (i := 1) (v := .int .u8 ((1 : Nat) : Int)) rfl (by kernel_rfl) (by kernel_rfl) (by kernel_rfl) (fun _ _ _ h => h) (Or.inl ⟨by rfl, by intro wz hz; have hc : wz.cell? ⟨gh, 1, none⟩ = some (.int .u8 ((1 : Nat) : Int)) := (by rw [hz.2.1.cell]; rfl); go_simp⟩) ⟨HB6.out.drew.drew, HD6.out.drew.drew, HR6.out⟩ ?_
  refine wpAnyH_take (i := 2) (v := .bool true) rfl (by kernel_rfl) (by kernel_rfl) (by kernel_rfl) (fun _ _ _ h => h) (Or.inl ⟨by rfl, by intro w _; go_simp⟩) ⟨HB6.out.drew.drew, HD6.out.drew.drew, HR6.out⟩ ?_
  go_simp
  refine wpAnyH_take (i := 3) (v := .bool true) rfl (by kernel_rfl) (by kernel_rfl) (by kernel_rfl) (fun _ _ _ h => h) (Or.inl ⟨by rfl, by intro w _; go_simp⟩) ⟨HB6.out.drew.drew, HD6.out.drew.drew, HR6.out⟩ ?_
  go_simp
  refine wpAnyH_take (i := 4) (v := .slice (some ⟨gp, 0, none⟩) 1 cp) rfl (by kernel_rfl) (by kernel_rfl) (by kernel_rfl) (fun _ _ _ h => h) (Or.inl ⟨by rfl, by intro w _; go_simp⟩) ⟨HB6.out.drew.drew, HD6.out.drew.drew, HR6.out⟩ ?_
  refine wpAnyH_take (i := 5) (v := .pointer (some ⟨gp, 0, none⟩)) rfl (by kernel_rfl) (by kernel_rfl) (by kernel_rfl) (fun _ _ _ h => h) (Or.inl ⟨by rfl, by intro w _; go_simp⟩) ⟨HB6.out.drew.drew, HD6.out.drew.drew, HR6.out⟩ ?_
  go_simp
  refine wpAnyH_take (i := 6) (v := .agg (arrC b8 (parP l 0))) rfl (by kernel_rfl) (by kernel_rfl) (by kernel_rfl) (fun _ _ _ h => h) (yields_load (by rfl) 25 (.tmp 50) rfl gp 0 (by rfl) ((parP l 0).map b8) _ (fun _ h => h.2.2) Try.underlying25 rfl (by rw [List.length_map, HP0.out]; exact a32_size)) ⟨HB6.out.drew.drew, HD6.out.drew.drew, HR6.out⟩ ?_
  refine wpAnyH_take (i := 7) (v := .pointer (some ⟨b, 0, none⟩)) rfl (by kernel_rfl) (by kernel_rfl) (by kernel_rfl) (fun _ _ _ h => h) (Or.inl ⟨by rfl, by intro w _; go_simp⟩) ⟨HB6.out.drew.drew, HD6.out.drew.drew, HR6.out⟩ ?_
  refine wpAnyH_take (i := 8) (v := .pointer (some ⟨b, 0, none⟩)) rfl (by kernel_rfl) (by kernel_rfl) (by kernel_rfl) (fun _ _ _ h => h) (Or.inl ⟨by rfl, by intro w _; go_simp⟩) ⟨HB6.out.drew.drew, HD6.out.drew.drew, HR6.out⟩ ?_
  go_simp
  refine wpAnyH_take (i := 9) (v := .pointer (some ⟨b, 0, none⟩)) rfl (by kernel_rfl) (by kernel_rfl) (by kernel_rfl) (fun _ _ _ h => h) (Or.inl ⟨by rfl, by intro w _; go_simp⟩) ⟨HB6.out.drew.drew, HD6.out.drew.drew, HR6.out⟩ ?_
  refine wpAnyH_take (i := 10) (v := .agg #[.slice A1 nk c1, .string H, .string S]) rfl (by kernel_rfl) (by kernel_rfl) (by kernel_rfl) (fun _ _ _ h => h) (yields_load (by rfl) 52 (.tmp 54) rfl b 0 (by rfl) [.slice A1 nk c1, .string H, .string S] _ (fun _ h => end_range_party h.1) Try.underlying52 rfl party_size) ⟨HB6.out.drew.drew, HD6.out.drew.drew, HR6.out⟩ ?_
  refine wpAnyH_take (i := 11) (v := .pointer (some ⟨b, 0, none⟩)) rfl (by kernel_rfl) (by kernel_rfl) (by kernel_rfl) (fun _ _ _ h => h) (Or.inl ⟨by rfl, by intro w _; go_simp⟩) ⟨HB6.out.drew.drew, HD6.out.drew.drew, HR6.out⟩ ?_
  go_simp
  refine wpAnyH_take (i := 12) (v := .pointer (some ⟨b, 0, none⟩)) rfl (by kernel_rfl) (by kernel_rfl) (by kernel_rfl) (fun _ _ _ h => h) (Or.inl ⟨by rfl, by intro w _; go_simp⟩) ⟨HB6.out.drew.drew, HD6.out.drew.drew, HR6.out⟩ ?_
  refine wpAnyH_take (i := 13) (v := .pointer (some ⟨b, 7, none⟩)) rfl (by kernel_rfl) (by kernel_rfl) (by kernel_rfl) (fun _ _ _ h => h) (Or.inl ⟨by rfl, by intro w _; go_simp⟩) ⟨HB6.out.drew.drew, HD6.out.drew.drew, HR6.out⟩ ?_
  refine wpAnyH_take (i := 14) (v := .agg (arrC b8 N)) rfl (by kernel_rfl) (by kernel_rfl) (by kernel_rfl) (fun _ _ _ h => h) (yields_load (by rfl) 25 (.tmp 58) rfl b 7 (by rfl) (N.map b8) _ (fun _ h => end_range_nonce h.1) Try.underlying25 rfl (by rw [List.length_map, HNL.out]; exact a32_size)) ⟨HB6.out.drew.drew, HD6.out.drew.drew, HR6.out⟩ ?_
  go_simp
  refine wpAnyH_take (i := 15) (v := .agg #[.int .u8 ((2 : Nat) : Int), .int .u8 ((1 : Nat) : Int), .int .u16 (a2 : Nat), .int .u32 (a3 : Nat)]) rfl (by kernel_rfl) (by kernel_rfl) (by kernel_rfl) (fun _ _ _ h => h) (yields_load (by rfl) 54 (.tmp 5) rfl gh 0 (by rfl) [.int .u8 ((2 : Nat) : Int), .int .u8 ((1 : Nat) : Int), .int .u16 (a2 : Nat), .int .u32 (a3 : Nat)] _ (fun _ h => blk_range h.2.1) Try.underlying54 rfl head_size) ⟨HB6.out.drew.drew, HD6.out.drew.drew, HR6.out⟩ ?_
  go_simp
  refine heldOne (i := 16) (by kernel_rfl) rfl (fun K' hK' => ?_)
  refine step_callW (by rfl) (f := 28) rfl Try.func28 (by kernel_rfl) (by kernel_rfl) (by rw [List.map_toArray]; rfl) CR.out ?_
  intro w7 hb7
  have HB7 := Lib.hid (HB6.out.drew.drew.below hb7 HB6.out.lt)
  have HD7 := Lib.hid (HD6.out.drew.drew.below hb7 HD6.out.lt)
  have HR7 : Hid (w7.rangeAt gp 0 ((parP l 0).map b8)) := rangeAt_keep HR6.out (hb7.block gp (by show gp < w6.heap.size; omega))
  have HG7 := Lib.hid (Lib.grownBy_below (grown_drew (grown_drew HG6.out)) hb7)
  have HO7 := Lib.hid ((OwnAt.drew (OwnAt.drew HO6.out)).below hb7 (Nat.le_refl _))
  clear hb7
  refine hK' _ _ ⟨HB7.out, HD7.out, HR7.out⟩ ?_
  clear hK' K'
  go_simp
  refine heldOne (i := 17) (by kernel_rfl) rfl (fun K' hK' => ?_)
  refine step_neq_arrW (by rfl) (.tmp 51) (.tmp 61) _ rfl (parP l 0) (respB K H S N ⟨2, 1, a2, a3⟩ 67) rfl rfl HP0.out (respB_len _ _ _ _ _ _) ?_
  rw [HRS.out]
  refine hK' _ _ ⟨HB7.out, HD7.out, HR7.out⟩ ?_
  clear hK' K'
  go_simp
  refine wpAnyH_take (i := 18) (v := .bool false) rfl (by kernel_rfl) (by kernel_rfl) (by kernel_rfl) (fun _ _ _ h => h) (Or.inl ⟨by rfl, by intro w _; go_simp⟩) ⟨HB7.out, HD7.out, HR7.out⟩ ?_
  refine wpAnyH_take (i := 19) (v := .bool false) rfl (by kernel_rfl) (by kernel_rfl) (by kernel_rfl) (fun _ _ _ h => h) (Or.inl ⟨by rfl, by intro w _; go_simp⟩) ⟨HB7.out, HD7.out, HR7.out⟩ ?_
  go_simp
  refine wpAnyH_done (by kernel_rfl) ?_ _
  have q40 : w7.cell? ⟨b, 40, none⟩ = some (.bool d) := by rw [HB7.out.cell, endC_done HNL.out]
  have f9 := HB7.out.frozen
  go_wp2_with fail
  go_ret
  exact ⟨rfl, Lib.grownBy_setB HG7.out 40 _, _, Blk.of_eq (HB7.out.set_ 40 _) (endC_setDone HNL.out true), OwnAt.setCell HO7.out HB7.out (by decide) _⟩
set_option maxRecDepth 100000 in
set_option maxHeartbeats 4000000 in
theorem finish_one (K N l : List UInt8) (H S : ByteArray) (d : Bool) (b L c a0 a1 a2 a3 : Nat) (A : Option Addr) (w : World) (hE : EndIs 59 w b K H S ⟨2, a1, a2, a3⟩ N true d) (hK : 0 < K.length) (hN : N.length = 32)
    (hL : L = l.length) (hs : Sl w w.heap.size A (l.map b8)) (hPE : parE l 3 1 1 = 0) (hPH : parH l = ⟨a0, a1, a2, a3⟩) (ha : a1 ≠ 1) :
    Calls Try.prog 16 #[.pointer (some ⟨b, 0, none⟩), .slice A L c] w (FiIs b K H S ⟨2, a1, a2, a3⟩ N true 0 w) := by
  have hbl := hE.lt
  obtain ⟨v, hB, hO⟩ := hE
  obtain ⟨A1, c1, rfl, _, _, _⟩ := hO.form8
  generalize hnk : K.length = nk at hB hO hK
  have HNK := Lib.hid hnk
  have c0 : w.cell? ⟨b, 0, none⟩ = some (.slice A1 nk c1) := by rw [hB.cell]; rfl
  have c1' : w.cell? ⟨b, 1, none⟩ = some (.string H) := by rw [hB.cell]; rfl
  have c2 : w.cell? ⟨b, 2, none⟩ = some (.string S) := by rw [hB.cell]; rfl
  have HB := Lib.hid hB
  have HO := Lib.hid hO
  have HS := Lib.hid hs
  have HL := Lib.hid hL
  have HNL := Lib.hid hN
  have HE := Lib.hid hPE
  have HH := Lib.hid hPH
  have HLL := Lib.hid (parE_len hPE)
  clear hB hO hs hL hN hPE hPH hnk
  go_enter Try.func16, Try.ntmps16
  go_upto_region 4 with (first
    | (go_at_call 25; refine (none_calls nk c1 A1 H S w hK).mono ?_; rintro e w2 ⟨rfl, hb2⟩; have HB2 := Lib.hid (HB.out.below hb2 hbl); have HBB2 := Lib.hid hb2; have hz2 := hb2.size; have CP := Lib.hid (parsed_yes l L c 3 1 1 a0 a1 a2 a3 A w2 (by omega) (by omega) HL.out ((HS.out.below hb2).more hb2.size) (by omega) (by omega) HE.out HH.out); clear hb2)
    | (go_at_call 27; refine CP.out.mono ?_; rintro e w3 ⟨gp, cp, rfl, hb3, hp1, hp2, hr3⟩; have hz3 := hb3.size; have HB3 := Lib.hid (HB2.out.below hb3 (by omega)); have HBB3 := Lib.hid (below_step HBB2.out hb3); have HR3 := Lib.hid hr3; clear hb3 hr3))
  have hD4 : Blk (w3.alloc (.cells #[.int .u8 (a0 : Nat), .int .u8 (a1 : Nat), .int .u16 (a2 : Nat), .int .u32 (a3 : Nat)] 54)) w3.heap.size 54 #[.int .u8 (a0 : Nat), .int .u8 (a1 : Nat), .int .u16 (a2 : Nat), .int .u32 (a3 : Nat)] := Blk.new_ rfl
  have hB4 := HB3.out.alloc (.cells #[.int .u8 (a0 : Nat), .int .u8 (a1 : Nat), .int .u16 (a2 : Nat), .int .u32 (a3 : Nat)] 54)
  have hb4 : Below w3.heap.size w3 (w3.alloc (.cells #[.int .u8 (a0 : Nat), .int .u8 (a1 : Nat), .int .u16 (a2 : Nat), .int .u32 (a3 : Nat)] 54)) := (Below.refl _ _).alloc (Nat.le_refl _) _
  generalize w3.alloc (.cells #[.int .u8 (a0 : Nat), .int .u8 (a1 : Nat), .int .u16 (a2 : Nat), .int .u32 (a3 : Nat)] 54) = w4 at hD4 hB4 hb4 ⊢
  have hz4 := hb4.size
  have HBB4 := Lib.hid (below_step HBB3.out hb4)
  have HR4 : Hid (w4.rangeAt gp 0 ((parP l 0).map b8)) := rangeAt_keep (by have h6 := HR3.out 0 (by omega); simpa using h6) (hb4.block gp hp2)
  generalize w3.heap.size = gh at hD4 hp2 hz3 hz4 hb4 ⊢
  have hghl := hD4.lt
  have q39 : w4.cell? ⟨b, 39, none⟩ = some (.bool true) := by rw [hB4.cell, endC_open HNL.out]
  have f4 := hB4.frozen
  have HD4 := Lib.hid hD4
  have HB4 := Lib.hid hB4
  clear hD4 hB4 hb4 c0 c1' c2
  have hbgh : b ≠ gh := by omega
  have hgpgh : gp ≠ gh := by omega
  have hgpb : gp ≠ b := by omega
  go_upto_region 9 with fail
  have hB5 : Blk (w4.setCell ⟨b, 39, none⟩ (.bool false)) b 59 (endC (.slice A1 nk c1) H S ⟨2, a1, a2, a3⟩ N false d).toArray := Blk.of_eq (HB4.out.set_ 39 _) (endC_setOpen HNL.out false)
  have hg5 : w4.grownBy (w4.setCell ⟨b, 39, none⟩ (.bool false)) (some b) := Lib.grownBy_setB (World.grownBy.refl w4 _) 39 _
  generalize w4.setCell ⟨b, 39, none⟩ (.bool false) = w5 at hB5 hg5 ⊢
  have HB5 := Lib.hid hB5
  have HD5 := Lib.hid (HD4.out.grown hg5 (by intro e; injection e with e; omega))
  have HR5 : Hid (w5.rangeAt gp 0 ((parP l 0).map b8)) := rangeAt_keep HR4.out (hg5.block gp (by omega) (by intro e; injection e with e; omega))
  have HG5 := Lib.hid (Lib.grownBy_trans (Lib.grownBy_below (World.grownBy.refl w (some b)) HBB4.out) hg5)
  have hz5 := hg5.size
  have d0 : w5.cell? ⟨gh, 0, none⟩ = some (.int .u8 (a0 : Nat)) := by rw [HD5.out.cell]; rfl
  have f5 := HD5.out.frozen
  clear hB5 hg5 q39 f4
  go_upto_region 10 with fail
  have hD6 : Blk (w5.setCell ⟨gh, 0, none⟩ (.int .u8 2)) gh 54 #[.int .u8 ((2 : Nat) : Int), .int .u8 (a1 : Nat), .int .u16 (a2 : Nat), .int .u32 (a3 : Nat)] := Blk.of_eq (HD5.out.set_ 0 _) rfl
  have hg6 : w5.grownBy (w5.setCell ⟨gh, 0, none⟩ (.int .u8 2)) (some gh) := Lib.grownBy_setB (World.grownBy.refl w5 _) 0 _
  generalize w5.setCell ⟨gh, 0, none⟩ (.int .u8 2) = w6 at hD6 hg6 ⊢
  have HD6 := Lib.hid hD6
  have HB6 := Lib.hid (HB5.out.grown hg6 (by intro e; injection e with e; omega))
  have HR6 : Hid (w6.rangeAt gp 0 ((parP l 0).map b8)) := rangeAt_keep HR5.out (hg6.block gp (by omega) (by intro e; injection e with e; omega))
  have HG6 := Lib.hid (World.grownBy.andThen HG5.out hg6 (fun j e => by injection e with e; left; omega))
  have hz6 := hg6.size
  have HO6 := Lib.hid (HO.out.grown HG6.out (Or.inr (HO.out.ne HB.out (by decide))))
  clear hD6 hg6 d0 f5
  refine wp_region_held (S := fun wx : World => Blk wx b 59 (endC (.slice A1 nk c1) H S ⟨2, a1, a2, a3⟩ N false d).toArray ∧ Blk wx gh 54 #[.int .u8 ((2 : Nat) : Int), .int .u8 (a1 : Nat), .int .u16 (a2 : Nat), .int .u32 (a3 : Nat)] ∧ wx.rangeAt gp 0 ((parP l 0).map b8)) (by kernel_rfl) ?_
  change wpAnyH _ _ _ _ _ _ _ _ (World.drew _)
  refine wpAnyH_take (i := 0) (v := .agg #[.int .u8 ((2 : Nat) : Int), .int .u8 (a1 : Nat), .int .u16 (a2 : Nat), .int .u32 (a3 : Nat)]) rfl (by kernel_rfl) (by kernel_rfl) (by kernel_rfl) (fun _ _ _ h => h) (yields_load (by rfl) 54 (.tmp 5) rfl gh 0 (by rfl) [.int .u8 ((2 : Nat) : Int), .int .u8 (a1 : Nat), .int .u16 (a2 : Nat), .int .u32 (a3 : Nat)] _ (fun _ h => blk_range h.2.1) Try.underlying54 rfl head_size) ⟨HB6.out.drew, HD6.out.drew, HR6.out⟩ ?_
  refine wpAnyH_take (i := 1) (v := .pointer (some ⟨b, 0, none⟩)) rfl (by kernel_rfl) (by kernel_rfl) (by kernel_rfl) (fun _ _ _ h => h) (Or.inl ⟨by rfl, by intro w _; go_simp⟩) ⟨HB6.out.drew, HD6.out.drew, HR6.out⟩ ?_
  refine wpAnyH_take (i := 2) (v := .pointer (some ⟨b, 0, none⟩)) rfl (by kernel_rfl) (by kernel_rfl) (by kernel_rfl) (fun _ _ _ h => h) (Or.inl ⟨by rfl, by intro w _; go_simp⟩) ⟨HB6.out.drew, HD6.out.drew, HR6.out⟩ ?_
  go_simp
  refine wpAnyH_take (i := 3) (v := .pointer (some ⟨b, 3, none⟩)) rfl (by kernel_rfl) (by kernel_rfl) (by kernel_rfl) (fun _ _ _ h => h) (Or.inl ⟨by rfl, by intro w _; go_simp⟩) ⟨HB6.out.drew, HD6.out.drew, HR6.out⟩ ?_
  refine wpAnyH_take (i := 4) (v := .agg #[.int .u8 ((2 : Nat) : Int), .int .u8 (a1 : Nat), .int .u16 (a2 : Nat), .int .u32 (a3 : Nat)]) rfl (by kernel_rfl) (by kernel_rfl) (by kernel_rfl) (fun _ _ _ h => h) (yields_load (by rfl) 54 (.tmp 41) rfl b 3 (by rfl) (hdC ⟨2, a1, a2, a3⟩) _ (fun _ h => end_range_head h.1) Try.underlying54 rfl head_size) ⟨HB6.out.drew, HD6.out.drew, HR6.out⟩ ?_
  refine wpAnyH_take (i := 5) (v := .bool false) rfl (by kernel_rfl) (by kernel_rfl) (by kernel_rfl) (fun _ _ _ h => h) (Or.inl ⟨by rfl, by intro w _; go_simp⟩) ⟨HB6.out.drew, HD6.out.drew, HR6.out⟩ ?_
  go_simp
  refine wpAnyH_take (i := 6) (v := .bool false) rfl (by kernel_rfl) (by kernel_rfl) (by kernel_rfl) (fun _ _ _ h => h) (Or.inl ⟨by rfl, by intro w _; go_simp⟩) ⟨HB6.out.drew, HD6.out.drew, HR6.out⟩ ?_
  refine wpAnyH_done (by kernel_rfl) ?_ _
  go_simp
  go_upto_region 12 with fail
  have e1 : ((a1 : Int) == 1) = false := by simp; omega
  have e2 : (a1 == 1) = false := by simpa using ha
  refine wp_region_held (S := fun wx : World => Blk wx b 59 (endC (.slice A1 nk c1) H S ⟨2, a1, a2, a3⟩ N false d).toArray ∧ Blk wx gh 54 #[.int .u8 ((2 : Nat) : Int), .int .u8 (a1 : Nat), .int .u16 (a2 : Nat), .int .u32 (a3 : Nat)] ∧ wx.rangeAt gp 0 ((parP l 0).map b8)) (by kernel_rfl) ?_
  change wpAnyH _ _ _ _ _ _ _ _ (World.drew _)
  refine wpAnyH_take (i := 0) (v := .pointer (some ⟨gh, 1, none⟩)) rfl (by kernel_rfl) (by kernel_rfl) (by kernel_rfl) (fun _ _ _ h => h) (Or.inl ⟨by rfl, by intro w _; go_simp⟩) ⟨HB6.out.drew.drew, HD6.out.drew.drew, HR6.out⟩ ?_
  refine wpAnyH_take (i := 1) (v := .int .u8 (a1 : Nat)) rfl (by kernel_rfl) (by kernel_rfl) (by kernel_rfl) (fun _ _ _ h => h) (Or.inl ⟨by rfl, by intro wz hz; have hc : wz.cell? ⟨gh, 1, none⟩ = some (.int .u8 (a1 : Nat)) := (by rw [hz.2.1.cell]; rfl); go_simp⟩) ⟨HB6.out.drew.drew, HD6.out.drew.drew, HR6.out⟩ ?_
  refine wpAnyH_take (i := 2) (v := .bool false) rfl (by kernel_rfl) (by kernel_rfl) (by kernel_rfl) (fun _ _ _ h => h) (Or.inl ⟨by rfl, by intro w _; go_simp⟩) ⟨HB6.out.drew.drew, HD6.out.drew.drew, HR6.out⟩ ?_
  go_simp
  refine wpAnyH_take (i := 3) (v := .bool false) rfl (by kernel_rfl) (by kernel_rfl) (by kernel_rfl) (fun _ _ _ h => h) (Or.inl ⟨by rfl, by intro w _; go_simp⟩) ⟨HB6.out.drew.drew, HD6.out.drew.drew, HR6.out⟩ ?_
  go_simp
  refine wpAnyH_take (i := 4) (v := undef) rfl (by kernel_rfl) (by kernel_rfl) (by kernel_rfl) (fun _ _ _ h => h) (Or.inr ⟨by rfl, rfl⟩) ⟨HB6.out.drew.drew, HD6.out.drew.drew, HR6.out⟩ ?_
  refine wpAnyH_take (i := 5) (v := undef) rfl (by kernel_rfl) (by kernel_rfl) (by kernel_rfl) (fun _ _ _ h => h) (Or.inr ⟨by rfl, rfl⟩) ⟨HB6.out.drew.drew, HD6.out.drew.drew, HR6.out⟩ ?_
  go_simp
  refine wpAnyH_take (i := 6) (v := undef) rfl (by kernel_rfl) (by kernel_rfl) (by kernel_rfl) (fun _ _ _ h => h) (Or.inr ⟨by rfl, rfl⟩) ⟨HB6.out.drew.drew, HD6.out.drew.drew, HR6.out⟩ ?_
  refine wpAnyH_take (i := 7) (v := undef) rfl (by kernel_rfl) (by kernel_rfl) (by kernel_rfl) (fun _ _ _ h => h) (Or.inr ⟨by rfl, rfl⟩) ⟨HB6.out.drew.drew, HD6.out.drew.drew, HR6.out⟩ ?_
  refine wpAnyH_take (i := 8) (v := undef) rfl (by kernel_rfl) (by kernel_rfl) (by kernel_rfl) (fun _ _ _ h => h) (Or.inr ⟨by rfl, rfl⟩) ⟨HB6.out.drew.drew, HD6.out.drew.drew, HR6.out⟩ ?_
  go_simp
  refine wpAnyH_take (i := 9) (v := undef) rfl (by kernel_rfl) (by kernel_rfl) (by kernel_rfl) (fun _ _ _ h => h) (Or.inr ⟨by rfl, rfl⟩) ⟨HB6.out.drew.drew, HD6.out.drew.drew, HR6.out⟩ ?_
  refine wpAnyH_take (i := 10) (v := undef) rfl (by kernel_rfl) (by kernel_rfl) (by kernel_rfl) (fun _ _ _ h => h) (Or.inr ⟨by rfl, rfl⟩) ⟨HB6.out.drew.drew, HD6.out.drew.drew, HR6.out⟩ ?_
  refine wpAnyH_take (i := 11) (v := undef) rfl (by kernel_rfl) (by kernel_rfl) (by kernel_rfl) (fun _ _ _ h => h) (Or.inr ⟨by rfl, rfl⟩) ⟨HB6.out.drew.drew, HD6.out.drew.drew, HR6.out⟩ ?_
  go_simp
  refine wpAnyH_take (i := 12) (v := undef) rfl (by kernel_rfl) (by kernel_rfl) (by kernel_rfl) (fun _ _ _ h => h) (Or.inr ⟨by rfl, rfl⟩) ⟨HB6.out.drew.drew, HD6.out.drew.drew, HR6.out⟩ ?_
  refine wpAnyH_take (i := 13) (v := undef) rfl (by kernel_rfl) (by kernel_rfl) (by kernel_rfl) (fun _ _ _ h => h) (Or.inr ⟨by rfl, rfl⟩) ⟨HB6.out.drew.drew, HD6.out.drew.drew, HR6.out⟩ ?_
  refine wpAnyH_take (i := 14) (v := undef) rfl (by kernel_rfl) (by kernel_rfl) (by kernel_rfl) (fun _ _ _ h => h) (Or.inr ⟨by rfl, rfl⟩) ⟨HB6.out.drew.drew, HD6.out.drew.drew, HR6.out⟩ ?_
  go_simp
  refine wpAnyH_take (i := 15) (v := undef) rfl (by kernel_rfl) (by kernel_rfl) (by kernel_rfl) (fun _ _ _ h => h) (Or.inr ⟨by rfl, rfl⟩) ⟨HB6.out.drew.drew, HD6.out.drew.drew, HR6.out⟩ ?_
  refine wpAnyH_take (i := 16) (v := undef) rfl (by kernel_rfl) (by kernel_rfl) (by kernel_rfl) (fun _ _ _ h => h) (Or.inr ⟨by rfl, rfl⟩) ⟨HB6.out.drew.drew, HD6.out.drew.drew, HR6.out⟩ ?_
  refine wpAnyH_take (i := 17) (v := undef) rfl (by kernel_rfl) (by kernel_rfl) (by kernel_rfl) (fun _ _ _ h => h) (Or.inr ⟨by rfl, rfl⟩) ⟨HB6.out.drew.drew, HD6.out.drew.drew, HR6.out⟩ ?_
  go_simp
  refine wpAnyH_take (i := 18) (v := .bool false) rfl (by kernel_rfl) (by kernel_rfl) (by kernel_rfl) (fun _ _ _ h => h) (Or.inl ⟨by rfl, by intro w _; go_simp⟩) ⟨HB6.out.drew.drew, HD6.out.drew.drew, HR6.out⟩ ?_
  refine wpAnyH_take (i := 19) (v := .bool false) rfl (by kernel_rfl) (by kernel_rfl) (by kernel_rfl) (fun _ _ _ h => h) (Or.inl ⟨by rfl, by intro w _; go_simp⟩) ⟨HB6.out.drew.drew, HD6.out.drew.drew, HR6.out⟩ ?_
  go_simp
  refine wpAnyH_done (by kernel_rfl) ?_ _
  have q40 : w6.drew.drew.cell? ⟨b, 40, none⟩ = some (.bool d) := by rw [HB6.out.drew.drew.cell, endC_done HNL.out]
  have f9 := HB6.out.drew.drew.frozen
  go_wp2_with fail
  go_ret
  exact ⟨rfl, Lib.grownBy_setB (grown_drew (grown_drew HG6.out)) 40 _, _, Blk.of_eq (HB6.out.drew.drew.set_ 40 _) (endC_setDone HNL.out true), OwnAt.setCell (OwnAt.drew (OwnAt.drew HO6.out)) HB6.out.drew.drew (by decide) _⟩
end Go.Proofs.Ytfamififoifagaa
