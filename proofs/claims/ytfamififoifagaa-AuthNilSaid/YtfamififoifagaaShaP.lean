/- Contracts of sha's primes. -/
import Derived.Test.YtfamififoifagaaShaC
import Derived.Deep.LoopGhost
namespace Go.Proofs.Ytfamififoifagaa
open Go.RowKit Words

def dvdB (p q : Nat) : Bool := (p : Int) % (q : Int) == 0

set_option maxHeartbeats 400000 in
theorem dvd_calls (q p : Nat) (a : Addr) (hq : 1 ≤ q) (w : World) (hc : w.cell? a = some (.int .u64 (p : Nat))) (hp : p < 70000) :
    Calls Try.prog 83 #[.int .u64 (q : Nat), .pointer (some a)] w fun e w' => e = .returned (.bool (dvdB p q)) ∧ w = w' := by
  go_enter Try.func83, Try.ntmps83
  go_wp2
  go_ret
  exact ⟨rfl, rfl⟩

set_option maxHeartbeats 400000 in
theorem p_index (p : Nat) (a : Addr) (l : List Nat) (A : Option Addr) (c : Nat) (hl : l.length ≤ 9223372036854775807) (w : World) (hs : Sl w w.heap.size A (l.map fun x : Nat => Value.int .u64 ((x : Nat) : Int))) (hcell : w.cell? a = some (.int .u64 (p : Nat))) (hp70 : p < 70000) (hq : ∀ x ∈ l, 1 ≤ x) :
    Calls Try.prog 87 #[.slice A l.length c, .func (.func 83) #[] #[.pointer (some a)]] w fun e w' => e = .returned (.int .i64 (firstI (dvdB p) l)) ∧ w = w' := by
  have Hs := Lib.hid hs
  clear hs
  have Hq := Lib.hid hq
  clear hq
  go_enter Try.func87, Try.ntmps87
  go_wp2
  go_loop [8] (fun i => ∃ k : Nat, k ≤ l.length ∧ i = .int .i64 k ∧ Hid (∀ j, (h : j < l.length) → j < k → (dvdB p) l[j] = false)) (fun i => l.length - (intOf i).toNat)
  case atStart => exact ⟨0, Nat.zero_le _, rfl, fun j _ hj => absurd hj (by omega)⟩
  case round =>
    obtain ⟨k, hk, rfl, H⟩ := hrel
    by_cases hlt : k < l.length
    · obtain ⟨b, o, rfl, _, hc⟩ := Hs.out.at_ (k := k) (by simpa using hlt)
      simp only [List.getElem_map] at hc
      have Hx := Lib.hid (List.getElem_mem hlt)
      cases hp : (dvdB p) l[k] with
      | true =>
        have E := Lib.hid (firstI_at hlt hp H.out)
        have HP := Lib.hid hp
        clear hp
        go_wp2_with (go_at_call 83; refine (dvd_calls _ p a (Hq.out _ Hx.out) _ hcell hp70).mono ?_; rintro e w' ⟨rfl, rfl⟩; rw [HP.out])
        go_ret
        exact ⟨by rw [E.out]; rfl, rfl⟩
      | false =>
        have HP := Lib.hid hp
        clear hp
        go_wp2_with (go_at_call 83; refine (dvd_calls _ p a (Hq.out _ Hx.out) _ hcell hp70).mono ?_; rintro e w' ⟨rfl, rfl⟩; rw [HP.out])
        go_round
        case rel => exact ⟨k + 1, by omega, by go_num, fun j h hj => by
          rcases Nat.lt_or_ge j k with h' | h'
          · exact H.out j h h'
          · obtain rfl : j = k := by omega
            exact HP.out⟩
        case measure => simp [intOf]; omega
    · have E := Lib.hid (firstI_none (fun j h => H.out j h (by omega)))
      go_wp2
      go_ret
      exact ⟨by rw [E.out]; rfl, rfl⟩

set_option maxHeartbeats 400000 in
theorem p_contains (p : Nat) (a : Addr) (l : List Nat) (A : Option Addr) (c : Nat) (hl : l.length ≤ 9223372036854775807) (w : World) (hs : Sl w w.heap.size A (l.map fun x : Nat => Value.int .u64 ((x : Nat) : Int))) (hcell : w.cell? a = some (.int .u64 (p : Nat))) (hp70 : p < 70000) (hq : ∀ x ∈ l, 1 ≤ x) :
    Calls Try.prog 82 #[.slice A l.length c, .func (.func 83) #[] #[.pointer (some a)]] w fun e w' => e = .returned (.bool (l.any (dvdB p))) ∧ w = w' := by
  have C := Lib.hid (p_index p a l A c hl w hs hcell hp70 hq)
  have E := Lib.hid (firstI_any (dvdB p) l)
  clear hs hcell hp70 hq
  go_enter Try.func82, Try.ntmps82
  go_wp2_with (go_at_call 87; refine C.out.mono ?_; rintro e w' ⟨rfl, rfl⟩)
  go_ret
  exact ⟨congrArg (fun b => Ending.returned (Value.bool b)) E.out, rfl⟩

/-- the primes among the first i numbers from 2 on -/
def psl : Nat → List Nat
  | 0 => []
  | i + 1 => if (psl i).any (dvdB (i + 2)) then psl i else psl i ++ [i + 2]
theorem psl_mem (i : Nat) : ∀ x ∈ psl i, 2 ≤ x ∧ x ≤ i + 1 := by
  induction i with
  | zero => simp [psl]
  | succ i ih =>
    intro x hx
    unfold psl at hx
    split at hx
    · have := ih x hx; omega
    · rw [List.mem_append, List.mem_singleton] at hx
      rcases hx with hx | rfl
      · have := ih x hx; omega
      · omega
theorem psl_step (i : Nat) : (psl i).length ≤ (psl (i + 1)).length := by
  rw [psl]; split
  · exact Nat.le_refl _
  · simp
theorem psl_mono {i j : Nat} (h : i ≤ j) : (psl i).length ≤ (psl j).length := by
  induction h with
  | refl => exact Nat.le_refl _
  | step _ ih => exact Nat.le_trans ih (psl_step _)
theorem psl_309 : (psl 309).length = 63 := by decide +kernel
theorem psl_310 : (psl 310).length = 64 := by decide +kernel
/-- the array of primes while it is filled -/
def pcells (l : List Nat) : Array Value := ((l ++ List.replicate (64 - l.length) 0).map fun n : Nat => Value.int .u64 ((n : Nat) : Int)).toArray
theorem pcells_size (l : List Nat) (h : l.length ≤ 64) : (pcells l).size = 64 := by simp [pcells]; omega
theorem pcells_at (l : List Nat) (h : l.length < 64) : (pcells l)[l.length]? = some (.int .u64 0) := by
  unfold pcells
  rw [List.getElem?_toArray, List.map_append, List.getElem?_append_right (by simp), List.length_map, Nat.sub_self, List.map_replicate, List.getElem?_replicate, if_pos (by omega)]
  rfl
theorem pcells_old (l : List Nat) (j : Nat) (v : Value) (h : (l.map fun n : Nat => Value.int .u64 ((n : Nat) : Int))[j]? = some v) : (pcells l)[j]? = some v := by
  have hj := (List.getElem?_eq_some_iff.1 h).1
  rw [List.length_map] at hj
  unfold pcells
  rw [List.getElem?_toArray, List.map_append, List.getElem?_append_left (by simpa using hj)]
  exact h
theorem pcells_set (l : List Nat) (p : Nat) (h : l.length < 64) : (pcells l).setIfInBounds l.length (.int .u64 ((p : Nat) : Int)) = pcells (l ++ [p]) := by
  unfold pcells
  rw [List.setIfInBounds_toArray]
  congr 1
  rw [show 64 - l.length = (64 - (l ++ [p]).length) + 1 from by simp; omega, List.replicate_succ, List.map_append, List.set_append_right _ _ (by simp), List.length_map, Nat.sub_self, List.map_cons, List.set_cons_zero, List.map_append, List.map_append]
  simp
theorem pcells_one (l : List Nat) : ∀ v ∈ (pcells l).toList, v.oneCell' = true := by
  unfold pcells; intro v hv
  rw [List.mem_map] at hv
  obtain ⟨n, _, rfl⟩ := hv
  rfl

set_option maxRecDepth 100000 in
set_option maxHeartbeats 1000000 in
theorem primes_calls (w : World) :
    Calls Try.prog 75 #[] w fun e w' => e = .returned (.agg (pcells (psl 310))) ∧ Below w.heap.size w w' := by
  go_enter Try.func75, Try.ntmps75
  go_wp2
  go_loopg [1, 2] 310 (fun k n p wr => ∃ i g : Nat, i ≤ 310 ∧ k = 310 - i ∧ n = .int .i64 ((psl i).length : Nat) ∧ p = .pointer (some ⟨g, 0, none⟩) ∧ w.heap.size < g ∧
      Blk wr g 74 #[.int .u64 ((i + 2 : Nat) : Int)] ∧ Blk wr w.heap.size 149 (pcells (psl i)) ∧ Below w.heap.size w wr)
  case atStart =>
    refine ⟨0, _, by omega, by omega, rfl, rfl, ?_, Blk.new_ (by simp), (Blk.new _ _ _).alloc _, ?_⟩
    · simp
    · go_grown
  case round =>
    obtain ⟨i, g, hi, rfl, rfl, rfl, hg, hp, hB, hb⟩ := hrel
    have hl : (psl i).length ≤ 64 := by have := psl_mono hi; rw [psl_310] at this; exact this
    have hmem := psl_mem i
    have hgl := hp.lt
    have hBl := hB.lt
    rcases Nat.lt_or_ge (psl i).length 64 with hlt | hge
    · have hi2 : i < 310 := by
        rcases Nat.lt_or_ge i 310 with h | h
        · exact h
        · obtain rfl : i = 310 := by omega
          rw [psl_310] at hlt; omega
      have hsl : Sl wr wr.heap.size (some ⟨w.heap.size, 0, none⟩) ((psl i).map fun x : Nat => Value.int .u64 ((x : Nat) : Int)) :=
        fun _ => ⟨_, _, rfl, hBl, fun j v hv => by rw [Nat.zero_add, hB.cell]; exact pcells_old _ _ _ hv⟩
      have hc0 : wr.cell? ⟨g, 0, none⟩ = some (.int .u64 ((i + 2 : Nat) : Int)) := by rw [hp.cell]; rfl
      have hf0 := hp.frozen 0
      have C := Lib.hid (p_contains (i + 2) ⟨g, 0, none⟩ (psl i) (some ⟨w.heap.size, 0, none⟩) 64 (by omega) wr hsl hc0 (by omega) (fun x hx => by have := (hmem x hx).1; omega))
      have S := Lib.hid (show psl (i + 1) = if (psl i).any (dvdB (i + 2)) then psl i else psl i ++ [i + 2] from rfl)
      have hcn : wr.cell? ⟨w.heap.size, (psl i).length, none⟩ = some (.int .u64 0) := by rw [hB.cell]; exact pcells_at _ hlt
      have hfn := hB.frozen (psl i).length
      have HS := Lib.hid (pcells_set (psl i) (i + 2) hlt)
      have Hlen := Lib.hid (show (psl i ++ [i + 2]).length = (psl i).length + 1 by simp)
      have hI : ((psl i).length : Int) ≤ 64 := by omega
      have HB := Lib.hid hB
      have HP := Lib.hid hp
      clear hB hp hsl hmem
      cases ha : (psl i).any (dvdB (i + 2)) with
      | true =>
        have S' : Hid (psl (i + 1) = psl i) := by rw [S.out, ha]; rfl
        have HA := Lib.hid ha
        clear ha S
        go_wp2_with (go_at_call 82; refine C.out.mono ?_; rintro e w' ⟨rfl, rfl⟩; rw [HA.out])
        go_roundg (310 - (i + 1))
        case measure => omega
        case rel => exact ⟨i + 1, _, by omega, rfl, by rw [S'.out], rfl, by omega, Blk.new_ rfl, by rw [S'.out]; exact HB.out.alloc _, by go_grown⟩
      | false =>
        have S' : Hid (psl (i + 1) = psl i ++ [i + 2]) := by rw [S.out, ha]; rfl
        have HA := Lib.hid ha
        clear ha S
        go_wp2_with (go_at_call 82; refine C.out.mono ?_; rintro e w' ⟨rfl, rfl⟩; rw [HA.out])
        go_roundg (310 - (i + 1))
        case measure => omega
        case rel => exact ⟨i + 1, _, by omega, rfl, by rw [S'.out, Hlen.out]; rfl, rfl, by omega, Blk.new_ (by simp), by rw [S'.out, ← HS.out]; exact (HB.out.set_ _ _).alloc _, by go_grown⟩
    · obtain rfl : i = 310 := by
        rcases Nat.lt_or_ge i 310 with h | h
        · have := psl_mono (show i ≤ 309 by omega); rw [psl_309] at this; omega
        · omega
      have hx : ¬ ((psl 310).length : Int) < 64 := by rw [psl_310]; omega
      have hsz := Lib.hid (pcells_size (psl 310) (by omega))
      have hone := Lib.hid (pcells_one (psl 310))
      have HB := Lib.hid hB
      clear hB hp hmem
      go_wp2_with (first
        | (with_reducible refine wpList_load_all rfl 149 (.tmp 0) rfl rfl HB.out Try.underlying149 rfl (by rw [hsz.out]; kernel_rfl) ?_)
        | (with_reducible refine wpList_store_part rfl 149 (.tmp 0) (.tmp 18) rfl rfl rfl HB.out (by rw [hsz.out]; kernel_rfl) (by omega) hone.out ?_; intro w' hB' hg' hz'))
      rw [spl_all _ _ rfl] at hB'
      exact ret_row rfl rfl hB' Try.underlying149 rfl (by rw [hsz.out]; kernel_rfl) ⟨rfl, below_grown hb hg' (Nat.le_refl _)⟩ rfl

end Go.Proofs.Ytfamififoifagaa
