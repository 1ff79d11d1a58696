/- append of bytes onto rows of the call's own; slices.Clone of bytes. -/
import Derived.Test.YtfamififoifagaaRows
import Derived.Test.YtfamififoifagaaBase3
import Derived.WalkKit
import Derived.WalkSpells
import Derived.WalkLawsBesides
import Derived.Lib.SliceRun
import Derived.Lib.Hide
namespace Go.Proofs.Ytfamififoifagaa
open Go.RowKit Words

theorem arr8_one (l : List UInt8) : ∀ u ∈ l.map b8, u.oneCell' = true := by
  intro u hu
  obtain ⟨x, _, rfl⟩ := List.mem_map.1 hu
  exact b8_one x
theorem u8_info : ∃ i, Try.prog.info? 5 = some i ∧ i.zero = some (.int .u8 0) ∧ i.size = 1 ∧ i.bytes = 1 := by
  have h : (Try.prog.info? 5).map (fun i => (i.zero, i.size, i.bytes)) = some (some (.int .u8 0), 1, 1) := by kernel_rfl
  cases hq : Try.prog.info? 5 with
  | none => rw [hq] at h; cases h
  | some i => rw [hq] at h; simp at h; exact ⟨i, rfl, h.1, h.2.1, h.2.2⟩
theorem wpList_append_u8 {w : World} {ops : Array Oper} {rest : List Oper} {o : Oper} {a : Act} {Q : Exit → Act → World → Prop} (hgd : o.guard = none) (s x : Operand)
    (ho : o.op = .call { callee := .builtin .append, args := #[s, x], argTypes := #[22, 22] })
    (base : Nat) (v : Value) (xs : List Value) (hs : a.eval s = v) (hown : OwnAt w base 5 v xs)
    (B : Nat) (A : Option Addr) (m c : Nat) (news : List Value) (hx : a.eval x = .slice A m c) (hr : Sl w B A news) (hl : news.length = m) (h1 : ∀ u ∈ news, u.oneCell' = true)
    (hbytes : xs.length + m ≤ 140737488355328) (hbase : base ≤ w.heap.size)
    (h : ∀ v' w', OwnAt w' base 5 v' (xs ++ news) → w.grownBy w' v.ownBlock → (v'.ownBlock = v.ownBlock ∨ v'.ownBlock = some w.heap.size) → wpList Try.prog ops Q rest (a.put o.dst v') w') :
    wpList Try.prog ops Q (o :: rest) a w := by
  obtain ⟨i, hi, hz, hsz, hby⟩ := u8_info
  exact wpList_append_at hgd s x 22 ho base 5 i _ Try.underlying22 hi hz hsz hby rfl v xs hs hown B A m c news hx hr hl h1 hbytes hbase h

theorem OwnAt.made (w : World) (e : TypeId) : OwnAt (w.alloc (.cells #[] e)) w.heap.size e (.slice (some ⟨w.heap.size, 0, none⟩) 0 0) [] :=
  .inr ⟨w.heap.size, 0, 0, #[], rfl, Nat.le_refl _, Blk.new_ rfl, Nat.le_refl _, by unfold maxLen; omega, by simp, by simp⟩

set_option maxRecDepth 100000 in
theorem clone_calls (l : List UInt8) (A : Option Addr) (n c : Nat) (w : World) (hs : Sl w w.heap.size A (l.map b8)) (hn : n = l.length) (hz : A = none → n = 0) (hl : l.length ≤ 140737488355328) :
    Calls Try.prog 30 #[.slice A n c] w fun e w' => ∃ v, e = .returned v ∧ OwnAt w' w.heap.size 5 v (l.map b8) ∧ Below w.heap.size w w' := by
  subst hn
  have he := fun wx => Lib.run_eql_slice_nil (P := Try.prog) wx 22 5 A l.length c 0 0 Try.underlying22
  cases A with
  | none =>
    obtain rfl : l = [] := List.eq_nil_of_length_eq_zero (hz rfl)
    simp only [Option.isNone_none, List.length_nil] at he ⊢
    go_enter Try.func30, Try.ntmps30
    go_wp2_with fail
    go_ret
    exact ⟨_, rfl, OwnAt.nil _ _ _, Below.refl _ _⟩
  | some a =>
    simp only [Option.isNone_some] at he
    go_enter Try.func30, Try.ntmps30
    go_wp2_with (at_builtin; refine wpList_append_u8 rfl (.tmp 5) (.tmp 6) rfl w.heap.size (.slice (some ⟨w.heap.size, 0, none⟩) 0 0) [] rfl (OwnAt.made w _) w.heap.size (some a) l.length c (l.map b8) rfl (hs.keep fun k hk => heap_alloc_old w _ hk) (by simp) (arr8_one l) (by simpa using hl) (by simp) ?_; intro v' w1 ho hg hh)
    go_ret
    refine ⟨_, rfl, by simpa using ho, ?_⟩
    exact below_grown ((Below.refl _ _).alloc (Nat.le_refl _) _) hg (Nat.le_refl _)
end Go.Proofs.Ytfamififoifagaa
