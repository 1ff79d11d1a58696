/- Contracts of auth: a message's bytes. -/
import Derived.Test.YtfamififoifagaaAuthM
import Derived.Deep.MidRow
namespace Go.Proofs.Ytfamififoifagaa
open Go.RowKit Words

/-- the bounds of a head's numbers -/
def Hd.ok (h : Hd) : Prop := h.kind < 256 ∧ h.flags < 256 ∧ h.queue < 65536 ∧ h.seq < 4294967296
def hdF (h : Hd) : List (Nat × Nat) := [(h.kind, 1), (h.flags, 1), (h.queue, 2), (h.seq, 4)]
/-- the bytes of a head -/
def hdB (h : Hd) : List UInt8 := fldB (hdF h)
theorem hdF_ok {h : Hd} (hh : h.ok) : fldOk (hdF h) := by
  obtain ⟨h1, h2, h3, h4⟩ := hh
  intro f hf
  simp only [hdF, List.mem_cons, List.not_mem_nil, or_false] at hf
  rcases hf with rfl | rfl | rfl | rfl <;> simp <;> omega
theorem hdB_len (h : Hd) : (hdB h).length = 8 := by simp [hdB, hdF, fldB, leB_len]
/-- what a message is -/
def msgB (h : Hd) (parts : List (List UInt8)) : List UInt8 := hdB h ++ parts.flatten
theorem flat_len : ∀ (parts : List (List UInt8)) (_ : ∀ p ∈ parts, p.length = 32), parts.flatten.length = 32 * parts.length
  | [], _ => rfl
  | p :: ps, h => by
    rw [List.flatten_cons, List.length_append, flat_len ps (fun q hq => h q (by simp [hq])), h p (by simp), List.length_cons]; omega
theorem flat_at : ∀ (parts : List (List UInt8)) (_ : ∀ p ∈ parts, p.length = 32) (i : Nat) (hi : i < parts.length) (j : Nat) (_ : j < 32), parts.flatten[i * 32 + j]? = parts[i][j]?
  | p :: ps, h, 0, _, j, hj => by
    have hp := h p (by simp)
    rw [List.flatten_cons, List.getElem?_append_left (by omega)]; simp
  | p :: ps, h, i + 1, hi, j, hj => by
    have hp := h p (by simp)
    rw [List.flatten_cons, List.getElem?_append_right (by omega), hp, show (i + 1) * 32 + j - 32 = i * 32 + j by omega, flat_at ps (fun q hq => h q (by simp [hq])) i (by simpa using hi) j hj]
    rfl
theorem a32_size : (Try.prog.info? 25).map (·.size) = some 32 := by kernel_rfl
theorem blk_range {w : World} {g : Nat} {t : TypeId} {cs : Array Value} (h : Blk w g t cs) : w.rangeAt g 0 cs.toList := fun j v hj => by
  rw [h.cell, Nat.zero_add]; rwa [Array.getElem?_toList] at hj
theorem sl_arr {w : World} {g : Nat} {l : List UInt8} {t : TypeId} (h : Blk w g t (arrC b8 l)) : Sl w w.heap.size (some ⟨g, 0, none⟩) (l.map b8) := fun _ =>
  ⟨g, 0, rfl, h.lt, fun j v hj => by rw [h.cell, Nat.zero_add]; unfold arrC; rw [List.getElem?_toArray]; exact hj⟩

theorem WrIs.new (w : World) (base : Nat) : WrIs (w.alloc (.cells #[.slice none 0 0] 72)) base w.heap.size [] := ⟨_, Blk.new_ rfl, OwnAt.nil _ _ _⟩
theorem WrIs.alloc {w : World} {base b : Nat} {l : List UInt8} (h : WrIs w base b l) (o : Obj) : WrIs (w.alloc o) base b l := h.below ((Below.refl _ _).alloc (Nat.le_refl _) _)
/-- AddAll, its fields laid ahead of the call -/
theorem addAll_new (l : List UInt8) (F : List (Nat × Nat)) (cs : Array Value) (base b g n : Nat) (w : World) (hD : WrIs w base b l) (hF : fldOk F) (hcs : cs.toList = fldC F) (hg : g = w.heap.size) (hn : n = F.length) (hlen : F.length ≤ 1000) (hb : base ≤ b) (hl : l.length + 8 * F.length ≤ 1048576) :
    Calls Try.prog 31 #[.pointer (some ⟨b, 0, none⟩), .slice (some ⟨g, 0, none⟩) n n] (w.alloc (.cells cs 76)) fun e w' => e = .returned (.int .i64 0) ∧ Below base w w' ∧ WrIs w' base b (l ++ fldB F) := by
  subst hg
  have hlt := hD.lt
  refine (addAll_calls l F base b w.heap.size 0 n n _ (hD.alloc _) hF (by rw [← hcs]; exact blk_range (Blk.new_ rfl)) (by simp) hn hlen hb hl).mono ?_
  rintro e w' ⟨h1, h2, h3⟩
  exact ⟨h1, ((Below.refl base w).alloc (by omega) _).trans h2, h3⟩
/-- AddBytes at a block that holds an array -/
theorem addBytes_arr (l m : List UInt8) (base b g n : Nat) (t : TypeId) (w : World) (hD : WrIs w base b l) (hB : Blk w g t (arrC b8 m)) (hn : n = m.length) (hb : base ≤ b) (hlen : l.length + m.length ≤ 1048576) :
    Calls Try.prog 32 #[.pointer (some ⟨b, 0, none⟩), .slice (some ⟨g, 0, none⟩) n n] w fun e w' => e = .returned (.int .i64 0) ∧ Below base w w' ∧ WrIs w' base b (l ++ m) :=
  addBytes_calls l m base b n n _ w hD (sl_arr hB) hn hb hlen

set_option maxRecDepth 100000 in
set_option maxHeartbeats 1000000 in
theorem bytes_head (h : Hd) (parts : List (List UInt8)) (g o n c : Nat) (w : World) (hh : h.ok) (hp : ∀ p ∈ parts, p.length = 32) (hs : w.rangeAt g o (parts.flatten.map b8)) (hg : g < w.heap.size) (hn : n = parts.length) (hlen : parts.length ≤ 1000) :
    Calls Try.prog 26 #[.agg #[.int .u8 (h.kind : Nat), .int .u8 (h.flags : Nat), .int .u16 (h.queue : Nat), .int .u32 (h.seq : Nat)], .slice (some ⟨g, o, none⟩) n c] w fun e w' => ∃ s, e = .returned s ∧ OwnAt w' w.heap.size 5 s ((msgB h parts).map b8) ∧ Below w.heap.size w w' := by
  have hF := hdF_ok hh
  obtain ⟨h1, h2, h3, h4⟩ := hh
  have hB : hdB h = fldB (hdF h) := rfl
  have hl := hdB_len h
  unfold msgB
  have E : fldC (hdF h) = [.int .u64 (h.kind : Nat), .int .i64 1, .int .u64 (h.flags : Nat), .int .i64 1, .int .u64 (h.queue : Nat), .int .i64 2, .int .u64 (h.seq : Nat), .int .i64 4] := rfl
  have E2 : (hdF h).length = 4 := rfl
  generalize hdF h = F at hF hB E E2
  generalize hdB h = D at hB hl ⊢
  obtain ⟨kind, flags, queue, seq⟩ := h
  simp only at h1 h2 h3 h4 E ⊢
  have g1 : (kind : Int) < 256 := by omega
  have g2 : (flags : Int) < 256 := by omega
  have g3 : (queue : Int) < 65536 := by omega
  have g4 : (seq : Int) < 4294967296 := by omega
  have hn1 : n ≤ 1000 := by omega
  have HS := Lib.hid hs
  have HN := Lib.hid hn
  have HE := Lib.hid E
  have HE2 := Lib.hid E2
  have HHB := Lib.hid hB
  have HL := Lib.hid hl
  clear hs hn E E2 hB hl
  have C := Lib.hid (addAll_new [] F #[.int .u64 (kind : Nat), .int .i64 1, .int .u64 (flags : Nat), .int .i64 1, .int .u64 (queue : Nat), .int .i64 2, .int .u64 (seq : Nat), .int .i64 4] w.heap.size (w.heap.size + 1) (w.heap.size + 1 + 1) 4
    ((w.alloc (.cells #[.int .u8 (kind : Nat), .int .u8 (flags : Nat), .int .u16 (queue : Nat), .int .u32 (seq : Nat)] 54)).alloc (.cells #[.slice none 0 0] 72)) (by simpa using WrIs.new (w.alloc (.cells #[.int .u8 (kind : Nat), .int .u8 (flags : Nat), .int .u16 (queue : Nat), .int .u32 (seq : Nat)] 54)) w.heap.size) hF HE.out.symm (by simp) HE2.out.symm (by rw [HE2.out]; omega) (by omega) (by rw [HE2.out]; simp))
  rw [List.nil_append, ← HHB.out] at C
  go_enter Try.func26, Try.ntmps26
  go_wp2_with (go_at_call 31; refine C.out.mono ?_; rintro e w1 ⟨rfl, hb1, hw1⟩)
  have hbb : Below w.heap.size w w1 := (((Below.refl _ _).alloc (Nat.le_refl _) _).alloc (by simp) _).trans hb1
  have HW1 := Lib.hid hw1
  have HB1 := Lib.hid hbb
  clear hw1 hb1 hbb
  go_loopw [28] (fun j wr => ∃ i : Nat, i ≤ n ∧ j = .int .i64 (i : Nat) ∧ WrIs wr w.heap.size (w.heap.size + 1) (D ++ (parts.take i).flatten) ∧ Below w.heap.size w wr) (fun j _ => n - (intOf j).toNat)
  case atStart => exact ⟨0, by omega, rfl, by simpa using HW1.out, HB1.out⟩
  case round =>
    obtain ⟨i, hi, rfl, hW, hbw⟩ := hrel
    rcases Nat.lt_or_ge i n with hin | hin
    · have hip : i < parts.length := by rw [← HN.out]; exact hin
      have hi0 : (i : Int) < (n : Int) := by omega
      have hpl := hp _ (List.getElem_mem hip)
      have hr : wr.rangeAt g (o + i * 32) (parts[i].map b8) := fun j v hj => by
        have hj1 : j < 32 := by have := (List.getElem?_eq_some_iff.1 hj).1; rwa [List.length_map, hpl] at this
        rw [World.cell?_of_block (w := w) (hbw.block g hg), Nat.add_assoc]
        refine HS.out (i * 32 + j) v ?_
        rw [List.getElem?_map, flat_at parts hp i hip j hj1, ← List.getElem?_map]; exact hj
      have hT : (parts.take (i + 1)).flatten = (parts.take i).flatten ++ parts[i] := by rw [List.take_succ_eq_append_getElem hip, List.flatten_append, List.flatten_cons, List.flatten_nil, List.append_nil]
      have hl1 := flat_len (parts.take i) (fun q hq => hp q (List.mem_of_mem_take hq))
      have hl2 : (parts.take i).length ≤ 1000 := by rw [List.length_take]; omega
      generalize parts[i] = p at hr hpl hT
      have HR := Lib.hid hr
      have HP := Lib.hid hpl
      have HT := Lib.hid hT
      have HB := Lib.hid hbw
      have HW := Lib.hid hW
      have HL1 := Lib.hid hl1
      clear hr hpl hT hbw hW hl1 hip hp
      have e1 : (Try.prog.info? 25).map (·.size) = some (p.map b8).length := by rw [List.length_map, HP.out]; exact a32_size
      have e2 : (Try.prog.info? 25).map (·.size) = some (arrC b8 p).size := by rw [arrC_size, HP.out]; exact a32_size
      have e3 : 0 + (arrC b8 p).size ≤ (Array.replicate 32 (Value.int .u8 0)).size := by rw [arrC_size, HP.out]; decide
      have E1 := Lib.hid e1
      have E2 := Lib.hid e2
      have E3 := Lib.hid e3
      clear e1 e2 e3
      go_wp2_with (first
        | (with_reducible refine wpList_load_mid rfl 25 (.tmp 30) rfl g (o + i * 32) rfl (p.map b8) _ HR.out Try.underlying25 rfl E1.out ?_)
        | ((with_reducible refine wpList_store_part rfl 25 (.tmp 7) (.tmp 31) rfl rfl rfl (Blk.new_ rfl) E2.out E3.out (arrC_one b8_one) ?_); intro w2 hB2 hg2 hz2; rw [spl_all _ _ (by rw [arrC_size, HP.out]; rfl)] at hB2; have hb2 := below_grown ((Below.refl _ _).alloc (Nat.le_refl _) _) hg2 (Nat.le_refl _); have C2 := addBytes_arr _ p w.heap.size (w.heap.size + 1) wr.heap.size 32 _ w2 (HW.out.below hb2) hB2 HP.out.symm (by omega) (by rw [List.length_append, HL1.out, HL.out, HP.out]; omega); rw [List.append_assoc, ← HT.out] at C2; have C2 := Lib.hid C2; have HB2 := Lib.hid (below_step HB.out hb2); clear hB2 hg2 hz2 hb2)
        | (go_at_call 32; refine C2.out.mono ?_; rintro e w3 ⟨rfl, hb3, hW3⟩))
      go_roundw
      case rel => exact ⟨i + 1, by omega, by go_num, hW3, HB2.out.trans hb3⟩
      case measure => simp [intOf]; omega
    · obtain rfl : i = n := by omega
      rw [HN.out, List.take_length] at hW
      have hfl := flat_len parts hp
      have C2 := Lib.hid (bytes_calls (D ++ parts.flatten) w.heap.size (w.heap.size + 1) wr hW (by rw [List.length_append, hfl, HL.out]; omega))
      have HB := Lib.hid hbw
      clear hW hbw hfl
      go_wp2_with (go_at_call 33; refine C2.out.mono ?_; rintro e w3 ⟨s, rfl, hO3, hb3⟩)
      go_ret
      exact ⟨_, rfl, hO3.base HB.out.size, below_step HB.out hb3⟩
end Go.Proofs.Ytfamififoifagaa
