/- Contracts of wire: the reader's take. -/
import Derived.Test.YtfamififoifagaaWireR
import Derived.BigRegion
namespace Go.Proofs.Ytfamififoifagaa
open Go.RowKit Words

set_option maxRecDepth 100000 in
set_option maxHeartbeats 1000000 in
theorem take_calls (l : List UInt8) (p k q b : Nat) (w : World) (hD : RdIs w q b l p) (hk3 : 1 ≤ k) (hk : k ≤ l.length) (hl : l.length ≤ 1048576) (hp : p ≤ 1048576) :
    Calls Try.prog 47 #[.pointer (some ⟨b, 0, none⟩), .int .i64 (k : Int)] w fun e w' => ∃ A, e = .returned (.tuple #[.slice A k k, .int .i64 0]) ∧ w.grownBy w' (some b) ∧ RdIs w' q b (l.drop k) (p + k) ∧ Sl w' w'.heap.size A ((l.take k).map b8) := by
  obtain ⟨v, hB, hO⟩ := hD
  obtain ⟨A1, c1, rfl, hc1, hm1, hs1⟩ := hO.form8
  generalize hl1 : l.length = n1 at hB hO hc1 hk hl
  have r0 : w.cell? ⟨b, 0, none⟩ = some (.slice A1 n1 c1) := by rw [hB.cell]; rfl
  have r1 : w.cell? ⟨b, 1, none⟩ = some (.int .i64 (p : Nat)) := by rw [hB.cell]; rfl
  have f0 := hB.frozen
  have hk0 : (0 : Int) ≤ (k : Int) := by omega
  have hk1 : (k : Int) ≤ (n1 : Int) := by omega
  have hk2 : (k : Int) ≤ (c1 : Int) := by omega
  have hw : IntKind.i64.wrap ((p : Int) + (k : Int)) = (p : Int) + (k : Int) := IntWalk.i64_in _ (by omega)
  have HB := Lib.hid hB
  have HO := Lib.hid hO
  have HS := Lib.hid hs1
  have HL := Lib.hid hl1
  clear hB hO hs1 hl1
  go_enter Try.func47, Try.ntmps47
  go_upto_region 6 with fail
  go_region
  have hcut := HO.out.cut (k := k) hk3 hk
  rw [← List.map_drop] at hcut
  have h1 := hcut.setCell (i := 0) HB.out (by decide) (.slice (if c1 = k then A1 else Option.map (fun x => x.add k) A1) (n1 - k) (c1 - k))
  have h2 := h1.setCell (i := 1) (HB.out.set_ 0 _) (by decide) (.int .i64 ((p : Int) + (k : Int)))
  have hS := HS.out.take k
  have hA : ∀ a, A1 = some a → (l.take k).map b8 ≠ [] → a.block ≠ b := by
    intro a ha _ he
    subst ha
    exact HO.out.ne HB.out (by decide) (congrArg some he)
  have hb2 : w.grownBy ((w.setCell ⟨b, 0, none⟩ (.slice (if c1 = k then A1 else Option.map (fun x => x.add k) A1) (n1 - k) (c1 - k))).setCell ⟨b, 1, none⟩ (.int .i64 ((p : Int) + (k : Int)))).drew (some b) := grown_drew (Lib.grownBy_setB (Lib.grownBy_setB (World.grownBy.refl w _) 0 _) 1 _)
  have hS2 := (sl_apart (i := 1) (u := .int .i64 ((p : Int) + (k : Int))) (sl_apart (i := 0) (u := .slice (if c1 = k then A1 else Option.map (fun x => x.add k) A1) (n1 - k) (c1 - k)) hS (b := b) (fun hx a ha => hA a ha (by rw [List.map_take]; exact hx))) (b := b) (fun hx a ha => hA a ha (by rw [List.map_take]; exact hx)))
  rw [← List.map_take] at hS2
  clear hcut h1
  generalize (if c1 = k then A1 else Option.map (fun x => x.add k) A1) = A2 at h2 hb2 hS2 ⊢
  go_wp2_with fail
  go_ret2
  exact ⟨_, rfl, hb2, ⟨_, Blk.of_eq ((HB.out.set_ 0 _).set_ 1 _) rfl, h2⟩, hS2.more (Nat.le_of_eq (by simp [World.drew]))⟩
end Go.Proofs.Ytfamififoifagaa
