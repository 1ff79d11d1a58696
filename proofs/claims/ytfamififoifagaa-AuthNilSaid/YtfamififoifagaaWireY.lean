/- Contracts of wire: the reader's All. -/
import Derived.Test.YtfamififoifagaaWireX
namespace Go.Proofs.Ytfamififoifagaa
open Go.RowKit Words

theorem own_base {w : World} {base base' : Nat} {e : TypeId} {size : Nat} {v : Value} {n : Nat} {xs : List Value} (h : w.ownsRow base e size v n xs) (hb : base' ≤ base) : w.ownsRow base' e size v n xs := by
  refine ⟨h.1, ?_⟩
  rcases h.2 with hn | ⟨g, cap, cur, hv, hbg, rest⟩
  · exact .inl hn
  · exact .inr ⟨g, cap, cur, hv, Nat.le_trans hb hbg, rest⟩
set_option maxRecDepth 100000 in
set_option maxHeartbeats 1000000 in
theorem all_calls (S : List Nat) (l : List UInt8) (p q b g o n c : Nat) (w : World) (hD : RdIs w q b l p) (hS : ∀ k ∈ S, 1 ≤ k ∧ k ≤ 8) (hs : w.rangeAt g o (S.map i64)) (hg : g < w.heap.size) (hn : n = S.length) (hlen : S.length ≤ 1000) (hsum : S.sum ≤ l.length) (hl : l.length ≤ 100000) (hp : p ≤ 100000) :
    Calls Try.prog 35 #[.pointer (some ⟨b, 0, none⟩), .slice (some ⟨g, o, none⟩) n c] w fun e w' => ∃ A d, e = .returned (.tuple #[.slice A n d, .int .i64 0]) ∧ w.grownBy w' (some b) ∧ RdIs w' q b (l.drop S.sum) (p + S.sum) ∧ w'.ownsRow w.heap.size 74 1 (.slice A n d) n ((fieldsN S l).map u64) := by
  have hblt := hD.lt
  obtain ⟨v, hB, hO⟩ := hD
  obtain ⟨A1, c1, rfl, hc1, hm1, hs1⟩ := hO.form8
  have r0 : w.cell? ⟨b, 0, none⟩ = some (.slice A1 l.length c1) := by rw [hB.cell]; rfl
  have r1 : w.cell? ⟨b, 1, none⟩ = some (.int .i64 (p : Nat)) := by rw [hB.cell]; rfl
  have f0 := hB.frozen
  have hD2 : RdIs (w.alloc (.cells #[.slice A1 l.length c1, .int .i64 (p : Nat)] 98)) q w.heap.size l p := ⟨_, Blk.new_ rfl, hO.keep fun k hk => Below.heap_alloc w _ k (hO.lt k hk).2⟩
  have C := Lib.hid (eachR_calls S l p q w.heap.size g o n c (w.alloc (.cells #[.slice A1 l.length c1, .int .i64 (p : Nat)] 98)) hD2 hS (rangeAt_keep hs (Below.heap_alloc w _ g hg)) (by simp; omega) (by omega) hn hlen hsum hl hp)
  have HB := Lib.hid hB
  have HO := Lib.hid hO
  clear hB hO hs1 hD2 hs hS hn
  go_enter Try.func35, Try.ntmps35
  go_wp2_with (first
    | (go_at_call 44; refine (state_calls b w).mono ?_; rintro e w0 ⟨rfl, rfl⟩)
    | (go_at_call 45; refine C.out.mono ?_; rintro e w1 ⟨A, d, rfl, hb1, hD1, hS1⟩; have hw1 := hb1.size; obtain ⟨v2, hB2, hO2⟩ := hD1; obtain ⟨A2, c2, rfl, _, _, _⟩ := hO2.form8; have hB3 := (HB.out.alloc (.cells #[.slice A1 l.length c1, .int .i64 (p : Nat)] 98)).grown hb1 (by simp; omega); generalize (l.drop S.sum).length = n2 at hB2 hO2 ⊢; have q0 : w1.cell? ⟨w.heap.size, 0, none⟩ = some (.slice A2 n2 c2) := (by rw [hB2.cell]; rfl); have q1 : w1.cell? ⟨w.heap.size, 1, none⟩ = some (.int .i64 ((p + S.sum : Nat) : Int)) := (by rw [hB2.cell]; rfl); have q2 : w1.cell? ⟨b, 0, none⟩ = some (.slice A1 l.length c1) := (by rw [hB3.cell]; rfl); have q3 : w1.cell? ⟨b, 1, none⟩ = some (.int .i64 (p : Int)) := (by rw [hB3.cell]; rfl); have f3 := hB3.frozen; have HB3 := Lib.hid hB3; have HO2 := Lib.hid hO2; have HG1 := Lib.hid hb1; have HS1 := Lib.hid hS1; clear hB3 hO2 hb1 hS1 hB2))
  go_ret2
  refine ⟨A, d, rfl, ?_, ⟨_, Blk.of_eq ((HB3.out.set_ 0 _).set_ 1 _) rfl, (HO2.out.setCell HB3.out (by decide) _).setCell (HB3.out.set_ 0 _) (by decide) _⟩, ?_⟩
  · exact Lib.grownBy_setB (Lib.grownBy_setB (World.grownBy.andThen (Lib.grownBy_below (World.grownBy.refl w _) ((Below.refl _ _).alloc (Nat.le_refl _) _)) HG1.out (fun j e => by injection e with e; omega)) 0 _) 1 _
  · have h1 : w1.ownsRow w.heap.size 74 1 (.slice A n d) n ((fieldsN S l).map u64) := own_base HS1.out (by simp)
    have hne := own_ne h1 HB3.out (by decide)
    exact h1.kept (Lib.grownBy_setB (Lib.grownBy_setB (World.grownBy.refl w1 (some b)) 0 _) 1 _) (Or.inr hne)
end Go.Proofs.Ytfamififoifagaa
