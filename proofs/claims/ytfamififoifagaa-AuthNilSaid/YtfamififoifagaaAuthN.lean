/- Contracts of auth: methods of nil ends and of zero ends; Done; Copy; a challenge that comes too late. -/
import Derived.Test.YtfamififoifagaaAuthQ
namespace Go.Proofs.Ytfamififoifagaa
open Go.RowKit Words

def RetV (k : Int) (w : World) (e : Ending) (w' : World) : Prop := e = .returned (.int .i64 k) ∧ Below w.heap.size w w'
def RetBool (b : Bool) (w : World) (e : Ending) (w' : World) : Prop := e = .returned (.bool b) ∧ Below w.heap.size w w'
def RetNil (w : World) (e : Ending) (w' : World) : Prop := e = .returned (.pointer none) ∧ Below w.heap.size w w'
/-- an end that is zero -/
def ZeroEnd (t : TypeId) (w : World) (b : Nat) : Prop := Blk w b t (endC (.slice none 0 0) ⟨#[]⟩ ⟨#[]⟩ Hd.zero (List.replicate 32 0) false false).toArray
set_option maxRecDepth 100000 in
set_option maxHeartbeats 1000000 in
theorem ch_nil (N : List UInt8) (seq queue : Nat) (w : World) : Calls Try.prog 11 #[.pointer none, .agg (arrC b8 N), .int .u32 (seq : Nat), .int .u16 (queue : Nat)] w (RetE 1 w) := by
  go_enter Try.func11, Try.ntmps11
  go_wp2_with fail
  go_ret2
  exact ⟨rfl, (Below.refl _ _).alloc (Nat.le_refl _) _⟩
set_option maxRecDepth 100000 in
set_option maxHeartbeats 1000000 in
theorem ch_zero (N : List UInt8) (seq queue : Nat) (b : Nat) (w : World) (hZ : ZeroEnd 56 w b) : Calls Try.prog 11 #[.pointer (some ⟨b, 0, none⟩), .agg (arrC b8 N), .int .u32 (seq : Nat), .int .u16 (queue : Nat)] w (RetE 1 w) := by
  have hbl := hZ.lt
  have c0 : w.cell? ⟨b, 0, none⟩ = some (.slice none 0 0) := by rw [hZ.cell]; rfl
  have c1 : w.cell? ⟨b, 1, none⟩ = some (.string ⟨#[]⟩) := by rw [hZ.cell]; rfl
  have c2 : w.cell? ⟨b, 2, none⟩ = some (.string ⟨#[]⟩) := by rw [hZ.cell]; rfl
  have d0 : (w.alloc (.cells (arrC b8 N) 25)).cell? ⟨b, 0, none⟩ = some (.slice none 0 0) := by rw [World.cell?_alloc_lt w _ _ hbl]; exact c0
  have d1 : (w.alloc (.cells (arrC b8 N) 25)).cell? ⟨b, 1, none⟩ = some (.string ⟨#[]⟩) := by rw [World.cell?_alloc_lt w _ _ hbl]; exact c1
  have d2 : (w.alloc (.cells (arrC b8 N) 25)).cell? ⟨b, 2, none⟩ = some (.string ⟨#[]⟩) := by rw [World.cell?_alloc_lt w _ _ hbl]; exact c2
  go_enter Try.func11, Try.ntmps11
  go_wp2_with (go_at_call 25; refine (none_nil none 0 ⟨#[]⟩ ⟨#[]⟩ _).mono ?_; rintro e w2 ⟨rfl, hb2⟩)
  go_ret2
  exact ⟨rfl, below_step ((Below.refl _ _).alloc (Nat.le_refl _) _) hb2⟩
set_option maxRecDepth 100000 in
set_option maxHeartbeats 1000000 in
theorem ck_nil (s : Value) (w : World) : Calls Try.prog 15 #[.pointer none, s] w (RetE 1 w) := by
  go_enter Try.func15, Try.ntmps15
  go_wp2_with fail
  go_ret2
  exact ⟨rfl, Below.refl _ _⟩
set_option maxRecDepth 100000 in
set_option maxHeartbeats 1000000 in
theorem ck_zero (s : Value) (b : Nat) (w : World) (hZ : ZeroEnd 56 w b) : Calls Try.prog 15 #[.pointer (some ⟨b, 0, none⟩), s] w (RetE 1 w) := by
  have hbl := hZ.lt
  have c0 : w.cell? ⟨b, 0, none⟩ = some (.slice none 0 0) := by rw [hZ.cell]; rfl
  have c1 : w.cell? ⟨b, 1, none⟩ = some (.string ⟨#[]⟩) := by rw [hZ.cell]; rfl
  have c2 : w.cell? ⟨b, 2, none⟩ = some (.string ⟨#[]⟩) := by rw [hZ.cell]; rfl
  go_enter Try.func15, Try.ntmps15
  go_wp2_with (go_at_call 25; refine (none_nil none 0 ⟨#[]⟩ ⟨#[]⟩ _).mono ?_; rintro e w2 ⟨rfl, hb2⟩)
  go_ret2
  exact ⟨rfl, hb2⟩
set_option maxRecDepth 100000 in
set_option maxHeartbeats 1000000 in
theorem an_nil (s : Value) (both : Bool) (N : List UInt8) (w : World) : Calls Try.prog 12 #[.pointer none, s, .bool both, .agg (arrC b8 N)] w (RetE 1 w) := by
  go_enter Try.func12, Try.ntmps12
  go_wp2_with fail
  go_ret2
  exact ⟨rfl, (Below.refl _ _).alloc (Nat.le_refl _) _⟩
set_option maxRecDepth 100000 in
set_option maxHeartbeats 1000000 in
theorem an_zero (s : Value) (both : Bool) (N : List UInt8) (b : Nat) (w : World) (hZ : ZeroEnd 59 w b) : Calls Try.prog 12 #[.pointer (some ⟨b, 0, none⟩), s, .bool both, .agg (arrC b8 N)] w (RetE 1 w) := by
  have hbl := hZ.lt
  have c0 : w.cell? ⟨b, 0, none⟩ = some (.slice none 0 0) := by rw [hZ.cell]; rfl
  have c1 : w.cell? ⟨b, 1, none⟩ = some (.string ⟨#[]⟩) := by rw [hZ.cell]; rfl
  have c2 : w.cell? ⟨b, 2, none⟩ = some (.string ⟨#[]⟩) := by rw [hZ.cell]; rfl
  have d0 : (w.alloc (.cells (arrC b8 N) 25)).cell? ⟨b, 0, none⟩ = some (.slice none 0 0) := by rw [World.cell?_alloc_lt w _ _ hbl]; exact c0
  have d1 : (w.alloc (.cells (arrC b8 N) 25)).cell? ⟨b, 1, none⟩ = some (.string ⟨#[]⟩) := by rw [World.cell?_alloc_lt w _ _ hbl]; exact c1
  have d2 : (w.alloc (.cells (arrC b8 N) 25)).cell? ⟨b, 2, none⟩ = some (.string ⟨#[]⟩) := by rw [World.cell?_alloc_lt w _ _ hbl]; exact c2
  go_enter Try.func12, Try.ntmps12
  go_wp2_with (go_at_call 25; refine (none_nil none 0 ⟨#[]⟩ ⟨#[]⟩ _).mono ?_; rintro e w2 ⟨rfl, hb2⟩)
  go_ret2
  exact ⟨rfl, below_step ((Below.refl _ _).alloc (Nat.le_refl _) _) hb2⟩
set_option maxRecDepth 100000 in
set_option maxHeartbeats 1000000 in
theorem fi_nil (s : Value) (w : World) : Calls Try.prog 16 #[.pointer none, s] w (RetV 1 w) := by
  go_enter Try.func16, Try.ntmps16
  go_wp2_with fail
  go_ret
  exact ⟨rfl, Below.refl _ _⟩
set_option maxRecDepth 100000 in
set_option maxHeartbeats 1000000 in
theorem fi_zero (s : Value) (b : Nat) (w : World) (hZ : ZeroEnd 59 w b) : Calls Try.prog 16 #[.pointer (some ⟨b, 0, none⟩), s] w (RetV 1 w) := by
  have hbl := hZ.lt
  have c0 : w.cell? ⟨b, 0, none⟩ = some (.slice none 0 0) := by rw [hZ.cell]; rfl
  have c1 : w.cell? ⟨b, 1, none⟩ = some (.string ⟨#[]⟩) := by rw [hZ.cell]; rfl
  have c2 : w.cell? ⟨b, 2, none⟩ = some (.string ⟨#[]⟩) := by rw [hZ.cell]; rfl
  go_enter Try.func16, Try.ntmps16
  go_wp2_with (go_at_call 25; refine (none_nil none 0 ⟨#[]⟩ ⟨#[]⟩ _).mono ?_; rintro e w2 ⟨rfl, hb2⟩)
  go_ret
  exact ⟨rfl, hb2⟩
set_option maxRecDepth 100000 in
set_option maxHeartbeats 1000000 in
theorem cpv_nil  (w : World) : Calls Try.prog 17 #[.pointer none] w (RetNil w) := by
  go_enter Try.func17, Try.ntmps17
  go_wp2_with fail
  go_ret
  exact ⟨rfl, Below.refl _ _⟩
set_option maxRecDepth 100000 in
set_option maxHeartbeats 1000000 in
theorem cpv_zero  (b : Nat) (w : World) (hZ : ZeroEnd 56 w b) : Calls Try.prog 17 #[.pointer (some ⟨b, 0, none⟩)] w (RetNil w) := by
  have hbl := hZ.lt
  have c0 : w.cell? ⟨b, 0, none⟩ = some (.slice none 0 0) := by rw [hZ.cell]; rfl
  have c1 : w.cell? ⟨b, 1, none⟩ = some (.string ⟨#[]⟩) := by rw [hZ.cell]; rfl
  have c2 : w.cell? ⟨b, 2, none⟩ = some (.string ⟨#[]⟩) := by rw [hZ.cell]; rfl
  go_enter Try.func17, Try.ntmps17
  go_wp2_with (go_at_call 25; refine (none_nil none 0 ⟨#[]⟩ ⟨#[]⟩ _).mono ?_; rintro e w2 ⟨rfl, hb2⟩)
  go_ret
  exact ⟨rfl, hb2⟩
set_option maxRecDepth 100000 in
set_option maxHeartbeats 1000000 in
theorem cpp_nil  (w : World) : Calls Try.prog 19 #[.pointer none] w (RetNil w) := by
  go_enter Try.func19, Try.ntmps19
  go_wp2_with fail
  go_ret
  exact ⟨rfl, Below.refl _ _⟩
set_option maxRecDepth 100000 in
set_option maxHeartbeats 1000000 in
theorem cpp_zero  (b : Nat) (w : World) (hZ : ZeroEnd 59 w b) : Calls Try.prog 19 #[.pointer (some ⟨b, 0, none⟩)] w (RetNil w) := by
  have hbl := hZ.lt
  have c0 : w.cell? ⟨b, 0, none⟩ = some (.slice none 0 0) := by rw [hZ.cell]; rfl
  have c1 : w.cell? ⟨b, 1, none⟩ = some (.string ⟨#[]⟩) := by rw [hZ.cell]; rfl
  have c2 : w.cell? ⟨b, 2, none⟩ = some (.string ⟨#[]⟩) := by rw [hZ.cell]; rfl
  go_enter Try.func19, Try.ntmps19
  go_wp2_with (go_at_call 25; refine (none_nil none 0 ⟨#[]⟩ ⟨#[]⟩ _).mono ?_; rintro e w2 ⟨rfl, hb2⟩)
  go_ret
  exact ⟨rfl, hb2⟩
set_option maxRecDepth 100000 in
set_option maxHeartbeats 1000000 in
theorem dnv_nil  (w : World) : Calls Try.prog 13 #[.pointer none] w (RetBool false w) := by
  go_enter Try.func13, Try.ntmps13
  go_wp2_with fail
  go_ret
  exact ⟨rfl, Below.refl _ _⟩
set_option maxRecDepth 100000 in
set_option maxHeartbeats 1000000 in
theorem dnv_calls (K N : List UInt8) (H S : ByteArray) (h : Hd) (o d : Bool) (b : Nat) (w : World) (hE : EndIs 56 w b K H S h N o d) (hN : N.length = 32) : Calls Try.prog 13 #[.pointer (some ⟨b, 0, none⟩)] w (RetBool d w) := by
  obtain ⟨v, hB, hO⟩ := hE
  have c0 : w.cell? ⟨b, 40, none⟩ = some (.bool d) := by rw [hB.cell, endC_done hN]
  clear hB hO
  go_enter Try.func13, Try.ntmps13
  go_wp2_with fail
  go_ret
  exact ⟨rfl, Below.refl _ _⟩
theorem dnv_zero (b : Nat) (w : World) (hZ : ZeroEnd 56 w b) : Calls Try.prog 13 #[.pointer (some ⟨b, 0, none⟩)] w (RetBool false w) :=
  dnv_calls [] (List.replicate 32 0) ⟨#[]⟩ ⟨#[]⟩ Hd.zero false false b w ⟨_, hZ, OwnAt.nil _ _ _⟩ (by simp)
set_option maxRecDepth 100000 in
set_option maxHeartbeats 1000000 in
theorem dnp_nil  (w : World) : Calls Try.prog 14 #[.pointer none] w (RetBool false w) := by
  go_enter Try.func14, Try.ntmps14
  go_wp2_with fail
  go_ret
  exact ⟨rfl, Below.refl _ _⟩
set_option maxRecDepth 100000 in
set_option maxHeartbeats 1000000 in
theorem dnp_calls (K N : List UInt8) (H S : ByteArray) (h : Hd) (o d : Bool) (b : Nat) (w : World) (hE : EndIs 59 w b K H S h N o d) (hN : N.length = 32) : Calls Try.prog 14 #[.pointer (some ⟨b, 0, none⟩)] w (RetBool d w) := by
  obtain ⟨v, hB, hO⟩ := hE
  have c0 : w.cell? ⟨b, 40, none⟩ = some (.bool d) := by rw [hB.cell, endC_done hN]
  clear hB hO
  go_enter Try.func14, Try.ntmps14
  go_wp2_with fail
  go_ret
  exact ⟨rfl, Below.refl _ _⟩
theorem dnp_zero (b : Nat) (w : World) (hZ : ZeroEnd 59 w b) : Calls Try.prog 14 #[.pointer (some ⟨b, 0, none⟩)] w (RetBool false w) :=
  dnp_calls [] (List.replicate 32 0) ⟨#[]⟩ ⟨#[]⟩ Hd.zero false false b w ⟨_, hZ, OwnAt.nil _ _ _⟩ (by simp)

theorem endC_one {v : Value} {H S : ByteArray} {h : Hd} {N : List UInt8} {o d : Bool} (hv : v.oneCell' = true) : ∀ u ∈ (endC v H S h N o d).toArray.toList, u.oneCell' = true := by
  intro u hu
  simp only [endC, hdC, List.cons_append, List.nil_append, List.mem_cons, List.mem_append, List.mem_map, List.not_mem_nil, or_false] at hu
  rcases hu with rfl | rfl | rfl | rfl | rfl | rfl | rfl | ⟨x, _, rfl⟩ | rfl | rfl <;> first | exact hv | rfl
def CpOk (t : TypeId) (K : List UInt8) (H S : ByteArray) (h : Hd) (N : List UInt8) (o d : Bool) (w : World) (e : Ending) (w' : World) : Prop :=
  ∃ b', e = .returned (.pointer (some ⟨b', 0, none⟩)) ∧ w.heap.size ≤ b' ∧ Below w.heap.size w w' ∧ EndIs t w' b' K H S h N o d
theorem cpv_size : (Try.prog.info? 56).map (·.size) = some 41 := by kernel_rfl
set_option maxRecDepth 100000 in
set_option maxHeartbeats 1000000 in
theorem cpv_ok (K N : List UInt8) (H S : ByteArray) (h : Hd) (o d : Bool) (b : Nat) (w : World) (hE : EndIs 56 w b K H S h N o d) (hK : 0 < K.length) (hN : N.length = 32) :
    Calls Try.prog 17 #[.pointer (some ⟨b, 0, none⟩)] w (CpOk 56 K H S h N o d w) := by
  have hbl := hE.lt
  obtain ⟨v, hB, hO⟩ := hE
  obtain ⟨A, c, rfl, _, _, _⟩ := hO.form8
  have c0 : w.cell? ⟨b, 0, none⟩ = some (.slice A K.length c) := by rw [hB.cell]; rfl
  have c1 : w.cell? ⟨b, 1, none⟩ = some (.string H) := by rw [hB.cell]; rfl
  have c2 : w.cell? ⟨b, 2, none⟩ = some (.string S) := by rw [hB.cell]; rfl
  have C := Lib.hid (none_calls K.length c A H S w hK)
  have hsz := endC_size (v := .slice A K.length c) (H := H) (S := S) (h := h) (o := o) (d := d) hN
  have h1 := endC_one (v := .slice A K.length c) (H := H) (S := S) (h := h) (N := N) (o := o) (d := d) rfl
  generalize K.length = n at c0 C hsz h1 hB hO
  have HE : Hid (endC (.slice A n c) H S h N o d = endC (.slice A n c) H S h N o d) := rfl
  generalize hcs : (endC (.slice A n c) H S h N o d) = cs at hB hsz h1
  have HCS := Lib.hid hcs
  have HB := Lib.hid hB
  have HO := Lib.hid hO
  have HSZ := Lib.hid hsz
  have H1 := Lib.hid h1
  clear hcs hB hO hsz h1 HE
  go_enter Try.func17, Try.ntmps17
  go_wp2_with (first
    | (go_at_call 25; refine C.out.mono ?_; rintro e w2 ⟨rfl, hb2⟩; have HB2 := Lib.hid (HB.out.below hb2 hbl); have HO2 := Lib.hid (HO.out.below hb2 (Nat.le_refl _)); have HBB := Lib.hid hb2; have hz2 := hb2.size; clear hb2)
    | (with_reducible refine wpList_load_all rfl 56 (.tmp 14) rfl rfl HB2.out Try.underlying56 rfl (by rw [HSZ.out]; exact cpv_size) ?_)
    | ((with_reducible refine wpList_store_to rfl 56 (.tmp 3) (.tmp 15) rfl rfl rfl rfl (Blk.new_ rfl) (by rw [HSZ.out]; exact cpv_size) (by rw [HSZ.out]; decide) H1.out ?_); intro w3 hB3 hg3 hz3; replace hB3 := Blk.of_eq hB3 (spl_all _ _ (by rw [HSZ.out]; rfl))))
  go_ret
  refine ⟨w2.heap.size, rfl, hz2, below_step HBB.out (below_grown ((Below.refl _ _).alloc (Nat.le_refl _) _) hg3 (Nat.le_refl _)), .slice A n c, by rw [HCS.out]; exact hB3, ?_⟩
  exact HO2.out.below (below_grown ((Below.refl _ _).alloc (Nat.le_refl _) _) hg3 (Nat.le_refl _)) (Nat.le_refl _)
theorem cpp_size : (Try.prog.info? 59).map (·.size) = some 41 := by kernel_rfl
set_option maxRecDepth 100000 in
set_option maxHeartbeats 1000000 in
theorem cpp_ok (K N : List UInt8) (H S : ByteArray) (h : Hd) (o d : Bool) (b : Nat) (w : World) (hE : EndIs 59 w b K H S h N o d) (hK : 0 < K.length) (hN : N.length = 32) :
    Calls Try.prog 19 #[.pointer (some ⟨b, 0, none⟩)] w (CpOk 59 K H S h N o d w) := by
  have hbl := hE.lt
  obtain ⟨v, hB, hO⟩ := hE
  obtain ⟨A, c, rfl, _, _, _⟩ := hO.form8
  have c0 : w.cell? ⟨b, 0, none⟩ = some (.slice A K.length c) := by rw [hB.cell]; rfl
  have c1 : w.cell? ⟨b, 1, none⟩ = some (.string H) := by rw [hB.cell]; rfl
  have c2 : w.cell? ⟨b, 2, none⟩ = some (.string S) := by rw [hB.cell]; rfl
  have C := Lib.hid (none_calls K.length c A H S w hK)
  have hsz := endC_size (v := .slice A K.length c) (H := H) (S := S) (h := h) (o := o) (d := d) hN
  have h1 := endC_one (v := .slice A K.length c) (H := H) (S := S) (h := h) (N := N) (o := o) (d := d) rfl
  generalize K.length = n at c0 C hsz h1 hB hO
  have HE : Hid (endC (.slice A n c) H S h N o d = endC (.slice A n c) H S h N o d) := rfl
  generalize hcs : (endC (.slice A n c) H S h N o d) = cs at hB hsz h1
  have HCS := Lib.hid hcs
  have HB := Lib.hid hB
  have HO := Lib.hid hO
  have HSZ := Lib.hid hsz
  have H1 := Lib.hid h1
  clear hcs hB hO hsz h1 HE
  go_enter Try.func19, Try.ntmps19
  go_wp2_with (first
    | (go_at_call 25; refine C.out.mono ?_; rintro e w2 ⟨rfl, hb2⟩; have HB2 := Lib.hid (HB.out.below hb2 hbl); have HO2 := Lib.hid (HO.out.below hb2 (Nat.le_refl _)); have HBB := Lib.hid hb2; have hz2 := hb2.size; clear hb2)
    | (with_reducible refine wpList_load_all rfl 59 (.tmp 14) rfl rfl HB2.out Try.underlying59 rfl (by rw [HSZ.out]; exact cpp_size) ?_)
    | ((with_reducible refine wpList_store_to rfl 59 (.tmp 3) (.tmp 15) rfl rfl rfl rfl (Blk.new_ rfl) (by rw [HSZ.out]; exact cpp_size) (by rw [HSZ.out]; decide) H1.out ?_); intro w3 hB3 hg3 hz3; replace hB3 := Blk.of_eq hB3 (spl_all _ _ (by rw [HSZ.out]; rfl))))
  go_ret
  refine ⟨w2.heap.size, rfl, hz2, below_step HBB.out (below_grown ((Below.refl _ _).alloc (Nat.le_refl _) _) hg3 (Nat.le_refl _)), .slice A n c, by rw [HCS.out]; exact hB3, ?_⟩
  exact HO2.out.below (below_grown ((Below.refl _ _).alloc (Nat.le_refl _) _) hg3 (Nat.le_refl _)) (Nat.le_refl _)
set_option maxRecDepth 100000 in
set_option maxHeartbeats 1000000 in
theorem challenge_late (K N0 N : List UInt8) (H S : ByteArray) (last : Hd) (o d : Bool) (seq queue b : Nat) (w : World) (hE : EndIs 56 w b K H S last N0 o d) (hK : 0 < K.length) (hlt : seq ≤ last.seq) :
    Calls Try.prog 11 #[.pointer (some ⟨b, 0, none⟩), .agg (arrC b8 N), .int .u32 (seq : Nat), .int .u16 (queue : Nat)] w (RetE 2 w) := by
  have hbl := hE.lt
  obtain ⟨v, hB, hO⟩ := hE
  obtain ⟨A, c, rfl, _, _, _⟩ := hO.form8
  have hcmpI : (seq : Int) ≤ (last.seq : Int) := by omega
  generalize K.length = n at hB hO hK
  have HB := Lib.hid hB
  clear hB hO
  go_enter Try.func11, Try.ntmps11
  go_upto_region 1 with fail
  have hB1 := HB.out.alloc (.cells (arrC b8 N) 25)
  have hb1 : Below w.heap.size w (w.alloc (.cells (arrC b8 N) 25)) := (Below.refl _ _).alloc (Nat.le_refl _) _
  generalize w.alloc (.cells (arrC b8 N) 25) = w1 at hB1 hb1 ⊢
  have c0 : w1.cell? ⟨b, 0, none⟩ = some (.slice A n c) := by rw [hB1.cell]; rfl
  have c1 : w1.cell? ⟨b, 1, none⟩ = some (.string H) := by rw [hB1.cell]; rfl
  have c2 : w1.cell? ⟨b, 2, none⟩ = some (.string S) := by rw [hB1.cell]; rfl
  have HB1 := Lib.hid hB1
  clear hB1
  go_wp2_with (go_at_call 25; refine (none_calls n c A H S w1 hK).mono ?_; rintro e w2 ⟨rfl, hb2⟩; have hB2 := HB1.out.below hb2 HB1.out.lt; have q6 : w2.cell? ⟨b, 6, none⟩ = some (.int .u32 (last.seq : Nat)) := (by rw [hB2.cell]; rfl); clear hB2)
  go_ret2
  exact ⟨rfl, below_step hb1 hb2⟩
end Go.Proofs.Ytfamififoifagaa
