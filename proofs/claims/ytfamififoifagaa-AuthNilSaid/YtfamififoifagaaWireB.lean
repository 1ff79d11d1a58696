/- Contracts of wire: AddAll. -/
import Derived.Test.YtfamififoifagaaWireA
namespace Go.Proofs.Ytfamififoifagaa
open Go.RowKit Words
set_option maxRecDepth 100000 in
theorem addAll_calls (l : List UInt8) (F : List (Nat × Nat)) (base b g o n c : Nat) (w : World) (hD : WrIs w base b l) (hF : fldOk F) (hs : w.rangeAt g o (fldC F)) (hg : g < w.heap.size) (hn : n = F.length) (hlen : F.length ≤ 1000) (hb : base ≤ b) (hl : l.length + 8 * F.length ≤ 1048576) :
    Calls Try.prog 31 #[.pointer (some ⟨b, 0, none⟩), .slice (some ⟨g, o, none⟩) n c] w fun e w' => e = .returned (.int .i64 0) ∧ Below base w w' ∧ WrIs w' base b (l ++ fldB F) := by
  have hlt := hD.lt
  have HD := Lib.hid hD
  have C := Lib.hid (each_calls F g o n c w hF hs hg hn hlen)
  have hL := fldB_len F hF
  clear hD hF hs hn
  go_enter Try.func31, Try.ntmps31
  go_wp2_with (first
    | (go_at_call 41; refine C.out.mono ?_; rintro e w1 ⟨s, rfl, hO, hb1⟩; obtain ⟨A, k, rfl, hc, hm, hs⟩ := hO.form8; generalize hl1 : (fldB F).length = n1 at hO hc hL ⊢; have C2 := Lib.hid (wadd_calls l (fldB F) base b n1 k A w1 (HD.out.below hb1) hs hl1.symm hb (by omega)); clear hl1)
    | (go_at_call 40; refine C2.out.mono ?_; rintro e w2 ⟨rfl, h3, h4⟩))
  go_ret
  exact ⟨rfl, (hb1.mono (by omega)).trans h3, h4⟩
end Go.Proofs.Ytfamififoifagaa
