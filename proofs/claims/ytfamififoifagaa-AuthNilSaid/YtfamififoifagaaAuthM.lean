/- Contracts of auth: how a verifier and a prover are made. -/
import Derived.Test.YtfamififoifagaaAuthV
namespace Go.Proofs.Ytfamififoifagaa
open Go.RowKit Words

structure Hd where
  kind : Nat
  flags : Nat
  queue : Nat
  seq : Nat
def Hd.zero : Hd := ⟨0, 0, 0, 0⟩
/-- a head in memory -/
def hdC (h : Hd) : List Value := [.int .u8 (h.kind : Nat), .int .u8 (h.flags : Nat), .int .u16 (h.queue : Nat), .int .u32 (h.seq : Nat)]
/-- an end in memory: its secret, the names, a head, a nonce, two marks -/
def endC (v : Value) (H S : ByteArray) (h : Hd) (N : List UInt8) (o d : Bool) : List Value := v :: .string H :: .string S :: (hdC h ++ (N.map b8 ++ [.bool o, .bool d]))
/-- the end at block b, of element type t -/
def EndIs (t : TypeId) (w : World) (b : Nat) (K : List UInt8) (H S : ByteArray) (h : Hd) (N : List UInt8) (o d : Bool) : Prop :=
  ∃ v, Blk w b t (endC v H S h N o d).toArray ∧ OwnAt w 0 5 v (K.map b8)

def RetNo (b : Bool) (w : World) (e : Ending) (w' : World) : Prop := e = .returned (.bool b) ∧ Below w.heap.size w w'
set_option maxRecDepth 100000 in
theorem none_calls (n c : Nat) (A : Option Addr) (H S : ByteArray) (w : World) (hn : 0 < n) :
    Calls Try.prog 25 #[.agg #[.slice A n c, .string H, .string S]] w (RetNo false w) := by
  have h0 : ((n : Int) == 0) = false := by simp; omega
  go_enter Try.func25, Try.ntmps25
  go_wp2_with fail
  go_ret
  exact ⟨rfl, (Below.refl _ _).alloc (Nat.le_refl _) _⟩
set_option maxRecDepth 100000 in
theorem none_nil (A : Option Addr) (c : Nat) (H S : ByteArray) (w : World) :
    Calls Try.prog 25 #[.agg #[.slice A 0 c, .string H, .string S]] w (RetNo true w) := by
  go_enter Try.func25, Try.ntmps25
  go_wp2_with fail
  go_ret
  exact ⟨rfl, (Below.refl _ _).alloc (Nat.le_refl _) _⟩

set_option maxRecDepth 100000 in
theorem mv_calls (v : Value) (H S : ByteArray) (w : World) :
    Calls Try.prog 22 #[.agg #[v, .string H, .string S]] w fun e w' => e = .returned (.pointer (some ⟨w.heap.size + 1, 0, none⟩)) ∧ Below w.heap.size w w' ∧ Blk w' (w.heap.size + 1) 56 (endC v H S Hd.zero (List.replicate 32 0) false false).toArray := by
  go_enter Try.func22, Try.ntmps22
  go_wp2_with fail
  go_ret
  exact ⟨rfl, ((Below.refl _ _).alloc (Nat.le_refl _) _).alloc (by simp) _, Blk.of_eq (Blk.new_ (by simp)) rfl⟩
def mvOk (l : List UInt8) (H S : ByteArray) (w : World) (e : Ending) (w' : World) : Prop := ∃ b, e = .returned (.tuple #[.pointer (some ⟨b, 0, none⟩), .int .i64 0]) ∧ w.heap.size ≤ b ∧ Below w.heap.size w w' ∧ EndIs 56 w' b l H S Hd.zero (List.replicate 32 0) false false
def mvBad (w : World) (e : Ending) (w' : World) : Prop := e = .returned (.tuple #[.pointer none, .int .i64 2]) ∧ Below w.heap.size w w'
set_option maxRecDepth 100000 in
theorem mv_bad (n c : Nat) (A : Option Addr) (H S : ByteArray) (w : World) (hH : H.size ≤ 1000000) (hS : S.size ≤ 1000000) (hv : validB n H S = false) :
    Calls Try.prog 21 #[.agg #[.slice A n c, .string H, .string S], .func (.func 22) #[] #[]] w (mvBad w) := by
  have C := Lib.hid fun wx => valid_calls n c A H S wx hH hS
  have HV := Lib.hid hv
  clear hv
  go_enter Try.func21, Try.ntmps21
  go_wp2_with (go_at_call 29; refine (C.out _).mono ?_; rintro e w1 ⟨rfl, hb1⟩; rw [HV.out])
  go_ret2
  exact ⟨rfl, below_step ((Below.refl _ _).alloc (Nat.le_refl _) _) hb1⟩
set_option maxRecDepth 100000 in
set_option maxHeartbeats 1000000 in
theorem mv_ok (l : List UInt8) (n c : Nat) (A : Option Addr) (H S : ByteArray) (w : World) (hH : H.size ≤ 1000000) (hS : S.size ≤ 1000000) (hv : validB n H S = true) (hs : Sl w w.heap.size A (l.map b8)) (hn : n = l.length) (hz : A = none → n = 0) (hl : l.length ≤ 1000000) :
    Calls Try.prog 21 #[.agg #[.slice A n c, .string H, .string S], .func (.func 22) #[] #[]] w (mvOk l H S w) := by
  have C := Lib.hid fun wx => valid_calls n c A H S wx hH hS
  have HV := Lib.hid hv
  have HS := Lib.hid hs
  have HN := Lib.hid hn
  have HZ := Lib.hid hz
  clear hv hs hn hz
  go_enter Try.func21, Try.ntmps21
  go_wp2_with (first
    | (go_at_call 29; refine (C.out _).mono ?_; rintro e w1 ⟨rfl, hb1⟩; rw [HV.out]; have hB1 := (Blk.new_ (w := w) (t := 52) (cs := #[.slice A n c, .string H, .string S]) rfl).below hb1 (by simp); have hbb := below_step ((Below.refl _ _).alloc (Nat.le_refl _) _) hb1; have c10 : w1.cell? ⟨w.heap.size, 0, none⟩ = some (.slice A n c) := (by rw [hB1.cell]; rfl); have HB1 := Lib.hid hB1; have HBB := Lib.hid hbb; have hw1 := hbb.size; clear hB1 hbb hb1)
    | (go_at_call 30; refine (clone_calls l A n c w1 ((HS.out.below HBB.out).more hw1) HN.out HZ.out (by omega)).mono ?_; rintro e w2 ⟨v, rfl, hO2, hb2⟩; obtain ⟨A2, c2, rfl, _, _, _⟩ := hO2.form8; generalize l.length = n2 at hO2 ⊢; have hB2 := HB1.out.below hb2 HB1.out.lt; have c20 : w2.cell? ⟨w.heap.size, 0, none⟩ = some (.slice A n c) := (by rw [hB2.cell]; rfl); have c21 : w2.cell? ⟨w.heap.size, 1, none⟩ = some (.string H) := (by rw [hB2.cell]; rfl); have c22 : w2.cell? ⟨w.heap.size, 2, none⟩ = some (.string S) := (by rw [hB2.cell]; rfl); have f2 := hB2.frozen; have HB2 := Lib.hid hB2; have HO2 := Lib.hid hO2; have HBB2 := Lib.hid (below_step HBB.out hb2); have hw2 := hb2.size; clear hB2 hO2 hb2)
    | (go_at_call 22; refine (mv_calls (.slice A2 n2 c2) H S (w2.setCell ⟨w.heap.size, 0, none⟩ (.slice A2 n2 c2))).mono ?_; rintro e w3 ⟨rfl, hb3, hE3⟩))
  go_ret2
  have hz3 : (w2.setCell ⟨w.heap.size, 0, none⟩ (.slice A2 n2 c2)).heap.size = w2.heap.size := by simp [World.setCell]
  rw [hz3] at hE3
  refine ⟨_, rfl, by omega, below_step (HBB2.out.setCell (p := ⟨w.heap.size, 0, none⟩) (Nat.le_refl _) (.slice A2 n2 c2)) hb3, _, hE3, ?_⟩
  exact ((HO2.out.base (Nat.zero_le _)).setCell HB2.out (by decide) _).below hb3 (Nat.le_refl _)
set_option maxRecDepth 100000 in
theorem newVerifier_bad (n c : Nat) (A : Option Addr) (H S : ByteArray) (w : World) (hH : H.size ≤ 1000000) (hS : S.size ≤ 1000000) (hv : validB n H S = false) :
    Calls Try.prog 9 #[.slice A n c, .string H, .string S] w (mvBad w) := by
  have C := Lib.hid fun wx => mv_bad n c A H S wx hH hS hv
  clear hv
  go_enter Try.func9, Try.ntmps9
  go_wp2_with (go_at_call 21; refine (C.out _).mono ?_; rintro e w1 ⟨rfl, hb1⟩)
  go_ret2
  exact ⟨rfl, hb1⟩
set_option maxRecDepth 100000 in
theorem newVerifier_ok (l : List UInt8) (n c : Nat) (A : Option Addr) (H S : ByteArray) (w : World) (hH : H.size ≤ 1000000) (hS : S.size ≤ 1000000) (hv : validB n H S = true) (hs : Sl w w.heap.size A (l.map b8)) (hn : n = l.length) (hz : A = none → n = 0) (hl : l.length ≤ 1000000) :
    Calls Try.prog 9 #[.slice A n c, .string H, .string S] w (mvOk l H S w) := by
  have C := Lib.hid (mv_ok l n c A H S w hH hS hv hs hn hz hl)
  clear hv hs hn hz
  go_enter Try.func9, Try.ntmps9
  go_wp2_with (go_at_call 21; refine C.out.mono ?_; rintro e w1 ⟨b, rfl, h1, h2, h3⟩)
  go_ret2
  exact ⟨b, rfl, h1, h2, h3⟩
set_option maxRecDepth 100000 in
theorem mp_calls (v : Value) (H S : ByteArray) (w : World) :
    Calls Try.prog 24 #[.agg #[v, .string H, .string S]] w fun e w' => e = .returned (.pointer (some ⟨w.heap.size + 1, 0, none⟩)) ∧ Below w.heap.size w w' ∧ Blk w' (w.heap.size + 1) 59 (endC v H S Hd.zero (List.replicate 32 0) false false).toArray := by
  go_enter Try.func24, Try.ntmps24
  go_wp2_with fail
  go_ret
  exact ⟨rfl, ((Below.refl _ _).alloc (Nat.le_refl _) _).alloc (by simp) _, Blk.of_eq (Blk.new_ (by simp)) rfl⟩
def mpOk (l : List UInt8) (H S : ByteArray) (w : World) (e : Ending) (w' : World) : Prop := ∃ b, e = .returned (.tuple #[.pointer (some ⟨b, 0, none⟩), .int .i64 0]) ∧ w.heap.size ≤ b ∧ Below w.heap.size w w' ∧ EndIs 59 w' b l H S Hd.zero (List.replicate 32 0) false false
def mpBad (w : World) (e : Ending) (w' : World) : Prop := e = .returned (.tuple #[.pointer none, .int .i64 2]) ∧ Below w.heap.size w w'
set_option maxRecDepth 100000 in
theorem mp_bad (n c : Nat) (A : Option Addr) (H S : ByteArray) (w : World) (hH : H.size ≤ 1000000) (hS : S.size ≤ 1000000) (hv : validB n H S = false) :
    Calls Try.prog 23 #[.agg #[.slice A n c, .string H, .string S], .func (.func 24) #[] #[]] w (mpBad w) := by
  have C := Lib.hid fun wx => valid_calls n c A H S wx hH hS
  have HV := Lib.hid hv
  clear hv
  go_enter Try.func23, Try.ntmps23
  go_wp2_with (go_at_call 29; refine (C.out _).mono ?_; rintro e w1 ⟨rfl, hb1⟩; rw [HV.out])
  go_ret2
  exact ⟨rfl, below_step ((Below.refl _ _).alloc (Nat.le_refl _) _) hb1⟩
set_option maxRecDepth 100000 in
set_option maxHeartbeats 1000000 in
theorem mp_ok (l : List UInt8) (n c : Nat) (A : Option Addr) (H S : ByteArray) (w : World) (hH : H.size ≤ 1000000) (hS : S.size ≤ 1000000) (hv : validB n H S = true) (hs : Sl w w.heap.size A (l.map b8)) (hn : n = l.length) (hz : A = none → n = 0) (hl : l.length ≤ 1000000) :
    Calls Try.prog 23 #[.agg #[.slice A n c, .string H, .string S], .func (.func 24) #[] #[]] w (mpOk l H S w) := by
  have C := Lib.hid fun wx => valid_calls n c A H S wx hH hS
  have HV := Lib.hid hv
  have HS := Lib.hid hs
  have HN := Lib.hid hn
  have HZ := Lib.hid hz
  clear hv hs hn hz
  go_enter Try.func23, Try.ntmps23
  go_wp2_with (first
    | (go_at_call 29; refine (C.out _).mono ?_; rintro e w1 ⟨rfl, hb1⟩; rw [HV.out]; have hB1 := (Blk.new_ (w := w) (t := 52) (cs := #[.slice A n c, .string H, .string S]) rfl).below hb1 (by simp); have hbb := below_step ((Below.refl _ _).alloc (Nat.le_refl _) _) hb1; have c10 : w1.cell? ⟨w.heap.size, 0, none⟩ = some (.slice A n c) := (by rw [hB1.cell]; rfl); have HB1 := Lib.hid hB1; have HBB := Lib.hid hbb; have hw1 := hbb.size; clear hB1 hbb hb1)
    | (go_at_call 30; refine (clone_calls l A n c w1 ((HS.out.below HBB.out).more hw1) HN.out HZ.out (by omega)).mono ?_; rintro e w2 ⟨v, rfl, hO2, hb2⟩; obtain ⟨A2, c2, rfl, _, _, _⟩ := hO2.form8; generalize l.length = n2 at hO2 ⊢; have hB2 := HB1.out.below hb2 HB1.out.lt; have c20 : w2.cell? ⟨w.heap.size, 0, none⟩ = some (.slice A n c) := (by rw [hB2.cell]; rfl); have c21 : w2.cell? ⟨w.heap.size, 1, none⟩ = some (.string H) := (by rw [hB2.cell]; rfl); have c22 : w2.cell? ⟨w.heap.size, 2, none⟩ = some (.string S) := (by rw [hB2.cell]; rfl); have f2 := hB2.frozen; have HB2 := Lib.hid hB2; have HO2 := Lib.hid hO2; have HBB2 := Lib.hid (below_step HBB.out hb2); have hw2 := hb2.size; clear hB2 hO2 hb2)
    | (go_at_call 24; refine (mp_calls (.slice A2 n2 c2) H S (w2.setCell ⟨w.heap.size, 0, none⟩ (.slice A2 n2 c2))).mono ?_; rintro e w3 ⟨rfl, hb3, hE3⟩))
  go_ret2
  have hz3 : (w2.setCell ⟨w.heap.size, 0, none⟩ (.slice A2 n2 c2)).heap.size = w2.heap.size := by simp [World.setCell]
  rw [hz3] at hE3
  refine ⟨_, rfl, by omega, below_step (HBB2.out.setCell (p := ⟨w.heap.size, 0, none⟩) (Nat.le_refl _) (.slice A2 n2 c2)) hb3, _, hE3, ?_⟩
  exact ((HO2.out.base (Nat.zero_le _)).setCell HB2.out (by decide) _).below hb3 (Nat.le_refl _)
set_option maxRecDepth 100000 in
theorem newProver_bad (n c : Nat) (A : Option Addr) (H S : ByteArray) (w : World) (hH : H.size ≤ 1000000) (hS : S.size ≤ 1000000) (hv : validB n H S = false) :
    Calls Try.prog 10 #[.slice A n c, .string H, .string S] w (mpBad w) := by
  have C := Lib.hid fun wx => mp_bad n c A H S wx hH hS hv
  clear hv
  go_enter Try.func10, Try.ntmps10
  go_wp2_with (go_at_call 23; refine (C.out _).mono ?_; rintro e w1 ⟨rfl, hb1⟩)
  go_ret2
  exact ⟨rfl, hb1⟩
set_option maxRecDepth 100000 in
theorem newProver_ok (l : List UInt8) (n c : Nat) (A : Option Addr) (H S : ByteArray) (w : World) (hH : H.size ≤ 1000000) (hS : S.size ≤ 1000000) (hv : validB n H S = true) (hs : Sl w w.heap.size A (l.map b8)) (hn : n = l.length) (hz : A = none → n = 0) (hl : l.length ≤ 1000000) :
    Calls Try.prog 10 #[.slice A n c, .string H, .string S] w (mpOk l H S w) := by
  have C := Lib.hid (mp_ok l n c A H S w hH hS hv hs hn hz hl)
  clear hv hs hn hz
  go_enter Try.func10, Try.ntmps10
  go_wp2_with (go_at_call 23; refine C.out.mono ?_; rintro e w1 ⟨b, rfl, h1, h2, h3⟩)
  go_ret2
  exact ⟨b, rfl, h1, h2, h3⟩
end Go.Proofs.Ytfamififoifagaa
