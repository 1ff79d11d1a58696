/- Contracts of wire: the reader's fields, in a row. -/
import Derived.Test.YtfamififoifagaaWireV
namespace Go.Proofs.Ytfamififoifagaa
open Go.RowKit Words

/-- the numbers that fields of these sizes hold -/
def fieldsN : List Nat → List UInt8 → List Nat
  | [], _ => []
  | k :: S, l => getN (l.take k) k :: fieldsN S (l.drop k)
theorem fieldsN_append : ∀ (S T : List Nat) (l : List UInt8), fieldsN (S ++ T) l = fieldsN S l ++ fieldsN T (l.drop S.sum)
  | [], T, l => by simp [fieldsN]
  | k :: S, T, l => by simp [fieldsN, fieldsN_append S T, List.drop_drop]
theorem fieldsN_len : ∀ (S : List Nat) (l : List UInt8), (fieldsN S l).length = S.length
  | [], _ => rfl
  | k :: S, l => by simp [fieldsN, fieldsN_len S]
theorem sum_take_le (S : List Nat) : ∀ i, (S.take i).sum ≤ S.sum := by
  induction S with
  | nil => simp
  | cons a S ih => intro i; cases i with
    | zero => simp
    | succ i => have := ih i; simp; omega
theorem u64_info : ∃ i, Try.prog.info? 74 = some i ∧ i.zero = some (.int .u64 0) ∧ i.size = 1 ∧ i.bytes = 8 := by
  have h : (Try.prog.info? 74).map (fun i => (i.zero, i.size, i.bytes)) = some (some (.int .u64 0), 1, 8) := by kernel_rfl
  cases hq : Try.prog.info? 74 with
  | none => rw [hq] at h; cases h
  | some i => rw [hq] at h; simp at h; exact ⟨i, rfl, h.1, h.2.1, h.2.2⟩
theorem u64_one (l : List Nat) : ∀ u ∈ l.map u64, u.oneCell' = true := by
  intro u hu
  obtain ⟨x, _, rfl⟩ := List.mem_map.1 hu
  rfl
theorem wpList_append_u64 {w : World} {ops : Array Oper} {rest : List Oper} {o : Oper} {a : Act} {Q : Exit → Act → World → Prop} (hgd : o.guard = none) (s x : Operand)
    (ho : o.op = .call { callee := .builtin .append, args := #[s, x], argTypes := #[81, 81] })
    (base : Nat) (v : Value) (n : Nat) (xs : List Value) (hs : a.eval s = v) (hown : w.ownsRow base 74 1 v n xs)
    (B : Nat) (A : Option Addr) (m c : Nat) (news : List Value) (hx : a.eval x = .slice A m c) (hr : Sl w B A news) (hl : news.length = m) (h1 : ∀ u ∈ news, u.oneCell' = true)
    (hbytes : n + m ≤ 1000000) (hbase : base ≤ w.heap.size)
    (h : ∀ v' w', w'.ownsRow base 74 1 v' (n + m) (xs ++ news) → w.grownBy w' v.ownBlock → (v'.ownBlock = v.ownBlock ∨ v'.ownBlock = some w.heap.size) → wpList Try.prog ops Q rest (a.put o.dst v') w') :
    wpList Try.prog ops Q (o :: rest) a w := by
  obtain ⟨i, hi, hz, hsz, hby⟩ := u64_info
  exact wpList_append_sl hgd s x 81 ho base 74 i _ 1 8 Try.underlying81 hi hz hsz hby rfl (by omega) v n xs hs hown B A m c news hx hr (by omega) h1 (by unfold maxLen; omega) (by omega) hbase h

theorem OwnAt.apart {w : World} {q base : Nat} {e e' : TypeId} {size n : Nat} {v v' : Value} {xs ys : List Value} (hO : OwnAt w q e v xs) (h : w.ownsRow base e' size v' n ys) (hne : e ≠ e') : v.ownBlock = none ∨ v.ownBlock ≠ v'.ownBlock := by
  rcases hO with ⟨rfl, _⟩ | ⟨g, o, cap, cur, rfl, _, hB, _⟩
  · exact Or.inl rfl
  · refine Or.inr fun he => ?_
    exact own_ne h hB (fun e => hne e.symm) he.symm
theorem RdIs.app {w w' : World} {q b : Nat} {l : List UInt8} {p base n : Nat} {v : Value} {ys : List Value} (h : RdIs w q b l p) (ho : w.ownsRow base 74 1 v n ys) (hg : w.grownBy w' v.ownBlock) : RdIs w' q b l p := by
  obtain ⟨u, hB, hO⟩ := h
  exact ⟨u, hB.grown hg (fun e => own_ne ho hB (by decide) e.symm), hO.grown hg (hO.apart ho (by decide))⟩

set_option maxRecDepth 100000 in
set_option maxHeartbeats 1000000 in
theorem eachR_calls (S : List Nat) (l : List UInt8) (p q b g o n c : Nat) (w : World) (hD : RdIs w q b l p) (hS : ∀ k ∈ S, 1 ≤ k ∧ k ≤ 8) (hs : w.rangeAt g o (S.map i64)) (hg : g < w.heap.size) (hgb : g ≠ b) (hn : n = S.length) (hlen : S.length ≤ 1000) (hsum : S.sum ≤ l.length) (hl : l.length ≤ 100000) (hp : p ≤ 100000) :
    Calls Try.prog 45 #[.slice (some ⟨g, o, none⟩) n c, .func (.func 46) #[.pointer (some ⟨b, 0, none⟩)] #[]] w fun e w' => ∃ A d, e = .returned (.tuple #[.slice A n d, .int .i64 0]) ∧ w.grownBy w' (some b) ∧ RdIs w' q b (l.drop S.sum) (p + S.sum) ∧ w'.ownsRow w.heap.size 74 1 (.slice A n d) n ((fieldsN S l).map u64) := by
  have hblt := hD.lt
  have HD := Lib.hid hD
  have HS := Lib.hid hs
  have HN := Lib.hid hn
  clear hs hn hD
  go_enter Try.func45, Try.ntmps45
  go_wp2_with fail
  go_loopw [12, 4] (fun j v wr => ∃ i : Nat, i ≤ n ∧ j = .int .i64 (i : Nat) ∧ wr.ownsRow w.heap.size 74 1 v i ((fieldsN (S.take i) l).map u64) ∧ w.grownBy wr (some b) ∧ RdIs wr q b (l.drop (S.take i).sum) (p + (S.take i).sum)) (fun j _ _ => n - (intOf j).toNat)
  case atStart => exact ⟨0, by omega, rfl, by simpa [fieldsN] using World.ownsRow_nil w _ _ 1, World.grownBy.refl _ _, by simpa using HD.out⟩
  case round =>
    obtain ⟨i, hi, rfl, hO, hbw, hR⟩ := hrel
    obtain ⟨A0, c0, rfl, _, _, _, _⟩ := own_form hO
    rcases Nat.lt_or_ge i n with hin | hin
    · have hiS : i < S.length := by rw [← HN.out]; exact hin
      have hi0 : (i : Int) < (n : Int) := by omega
      have hok := hS S[i] (List.getElem_mem hiS)
      have r0 : wr.cell? ⟨g, o + i, none⟩ = some (.int .i64 (S[i] : Nat)) := by
        rw [World.cell?_of_block (w := w) (hbw.block g hg (fun e => hgb (by injection e)))]; exact HS.out i _ (by rw [List.getElem?_map, List.getElem?_eq_getElem hiS]; rfl)
      have hT : S.take (i + 1) = S.take i ++ [S[i]] := List.take_succ_eq_append_getElem hiS
      have hsu := sum_take_le S i
      have hsu1 := sum_take_le S (i + 1)
      have hT2 : (S.take (i + 1)).sum = (S.take i).sum + S[i] := by rw [hT, List.sum_append]; simp
      have hT3 : fieldsN (S.take (i + 1)) l = fieldsN (S.take i) l ++ [getN ((l.drop (S.take i).sum).take S[i]) S[i]] := by rw [hT, fieldsN_append]; rfl
      have C := Lib.hid (field_calls (l.drop (S.take i).sum) (p + (S.take i).sum) S[i] q b wr hR hok.1 hok.2 (by rw [List.length_drop]; omega) (by rw [List.length_drop]; omega) (by omega))
      rw [Nat.add_assoc, List.drop_drop, ← hT2] at C
      generalize S[i] = k at r0 C hok hT3
      generalize getN ((l.drop (S.take i).sum).take k) k = vk at C hT3
      have hwz := hbw.size
      have hne : (Value.slice A0 i c0).ownBlock ≠ some b := by obtain ⟨u, hB, _⟩ := hR; exact own_ne hO hB (by decide)
      have HNE := Lib.hid hne
      clear hne
      have HO := Lib.hid hO
      have HB := Lib.hid hbw
      have HT := Lib.hid hT3
      clear hO hbw hT2 hT3 hT hok hS hR hsum hsu hsu1
      go_wp2_with (first
        | (go_at_call 46; refine C.out.mono ?_; rintro e w1 ⟨A, rfl, hb1, hR1, hS1⟩; have hz1 := hb1.size)
        | (at_builtin; refine wpList_append_u64 rfl (.tmp 25) (.tmp 26) rfl w.heap.size _ i ((fieldsN (S.take i) l).map u64) rfl (HO.out.kept hb1 (Or.inr HNE.out)) w1.heap.size A 1 1 [u64 vk] rfl hS1 rfl (by intro u hu; simp at hu; subst hu; rfl) (by omega) (by omega) ?_; intro v2 w2 hO2 hg2 hh2; rw [show ((fieldsN (S.take i) l).map u64) ++ [u64 vk] = (fieldsN (S.take (i + 1)) l).map u64 by rw [HT.out, List.map_append]; rfl] at hO2))
      go_roundw
      case rel => exact ⟨i + 1, by omega, by go_num, hO2, (HB.out.andThen hb1 (fun j e => Or.inr e)).andThen hg2 (fun j e => Or.inl (HO.out.lt j e).1), hR1.app (HO.out.kept hb1 (Or.inr HNE.out)) hg2⟩
      case measure => simp [intOf]; omega
    · obtain rfl : i = n := by omega
      have HO := Lib.hid hO
      have HB := Lib.hid hbw
      have HR := Lib.hid hR
      clear hO hbw hR
      go_wp2_with fail
      go_ret2
      have h1 := HO.out
      have h2 := HR.out
      rw [HN.out, List.take_length] at h1 h2
      exact ⟨A0, c0, by rw [HN.out]; rfl, HB.out, h2, by rw [HN.out]; exact h1⟩
end Go.Proofs.Ytfamififoifagaa
