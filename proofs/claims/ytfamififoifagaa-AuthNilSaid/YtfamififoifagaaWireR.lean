/- Contracts of wire: the reader. -/
import Derived.Test.YtfamififoifagaaWireGet
namespace Go.Proofs.Ytfamififoifagaa
open Go.RowKit Words

/-- the reader at block b has the bytes l left, at a position -/
def RdIs (w : World) (base b : Nat) (l : List UInt8) (p : Nat) : Prop := ∃ v, Blk w b 98 #[v, .int .i64 (p : Nat)] ∧ OwnAt w base 5 v (l.map b8)

set_option maxRecDepth 100000 in
theorem newReader_calls (l : List UInt8) (A : Option Addr) (n c : Nat) (w : World) (hs : Sl w w.heap.size A (l.map b8)) (hn : n = l.length) (hz : A = none → n = 0) (hl : l.length ≤ 1048576) :
    Calls Try.prog 34 #[.slice A n c] w fun e w' => ∃ b, e = .returned (.pointer (some ⟨b, 0, none⟩)) ∧ w.heap.size ≤ b ∧ Below w.heap.size w w' ∧ RdIs w' w.heap.size b l 0 := by
  have C := Lib.hid (clone_calls l A n c w hs hn hz (by omega))
  clear hs hn
  go_enter Try.func34, Try.ntmps34
  go_wp2_with (go_at_call 30; refine C.out.mono ?_; rintro e w1 ⟨v, rfl, hO, hb⟩; obtain ⟨A1, c1, rfl, hc1, hm1, hs1⟩ := hO.form8; generalize hl1 : l.length = n1 at hO hc1 ⊢)
  go_ret
  exact ⟨w1.heap.size, rfl, hb.size, hb.alloc hb.size _, _, Blk.new_ rfl, hO.keep fun k hk => Below.heap_alloc w1 _ k (hO.lt k hk).2⟩
end Go.Proofs.Ytfamififoifagaa
