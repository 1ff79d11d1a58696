/- Contracts of sha: HMAC. -/
import Derived.Test.YtfamififoifagaaShaI
import Derived.Laws.CopyOwn
import Derived.Deep.RegionWith
namespace Go.Proofs.Ytfamififoifagaa
open Go.RowKit Words

theorem u8_size : (Try.prog.info? 5).map (·.size) = some 1 := by kernel_rfl
theorem spl_nil (cur : Array Value) : spl cur 0 #[] = cur := by unfold spl; simp
theorem wpList_copy_u8 {w : World} {ops : Array Oper} {rest : List Oper} {o : Oper} {a : Act} {Q : Exit → Act → World → Prop} (hgd : o.guard = none) (d s : Operand)
    (ho : o.op = .call { callee := .builtin .copy, args := #[d, s], argTypes := #[22, 22] })
    (g dLen dCap : Nat) (A : Option Addr) (sLen sCap : Nat) (hd : a.eval d = .slice (some ⟨g, 0, none⟩) dLen dCap) (hs : a.eval s = .slice A sLen sCap)
    (t : TypeId) (cur : Array Value) (hB : Blk w g t cur) (cs : List Value) (hn : cs.length = sLen) (hle : sLen ≤ dLen) (B : Nat) (hr : Sl w B A cs) (hfit : cs.length ≤ cur.size) (h1 : ∀ v ∈ cs, v.oneCell' = true)
    (h : ∀ w', Blk w' g t (spl cur 0 cs.toArray) → w.grownBy w' (some g) → w'.heap.size = w.heap.size → wpList Try.prog ops Q rest (a.put o.dst (goInt sLen)) w') :
    wpList Try.prog ops Q (o :: rest) a w := by
  subst hn
  rcases List.eq_nil_or_concat cs with h0 | ⟨x, y, h0⟩
  · subst h0
    refine wpList_copy_nothing hgd d s 22 22 ho 5 Try.underlying22 u8_size _ A dLen dCap _ sCap hd hs (Nat.zero_min _) ?_
    exact h w (Blk.of_eq hB (spl_nil _).symm) (World.grownBy.refl w _) rfl
  · obtain ⟨b, ob, rfl, _, hc⟩ := hr (by rw [h0]; simp)
    refine wpList_copy_own hgd d s 22 22 ho 5 Try.underlying22 u8_size g 0 dLen dCap ⟨b, ob, none⟩ _ sCap hd hs cur t hB cs (Nat.min_eq_left hle).symm (fun j v hv => by rw [add_mk]; exact hc j v hv) (by omega) h1 ?_
    refine h _ ?_ (grown_setRow _ _ _) (by simp)
    have h2 := setRow_heap w g cur (cur.toList.take 0 ++ (cs ++ cur.toList.drop (0 + cs.length))).toArray t _ hB
    refine Blk.of_eq h2 ?_
    unfold spl
    simp

theorem step_append_u8 {w : World} {ops : Array Oper} {o : Oper} {a : Act} {K : Act → World → Prop} {Q : Exit → Act → World → Prop} {E : Prop} (hgd : o.guard = none) (s x : Operand)
    (ho : o.op = .call { callee := .builtin .append, args := #[s, x], argTypes := #[22, 22] })
    (base : Nat) (v : Value) (xs : List Value) (hs : a.eval s = v) (hown : OwnAt w base 5 v xs)
    (B : Nat) (A : Option Addr) (m c : Nat) (news : List Value) (hx : a.eval x = .slice A m c) (hr : Sl w B A news) (hl : news.length = m) (h1 : ∀ u ∈ news, u.oneCell' = true)
    (hbytes : xs.length + m ≤ 140737488355328) (hbase : base ≤ w.heap.size)
    (h : ∀ v' w', OwnAt w' base 5 v' (xs ++ news) → w.grownBy w' v.ownBlock → K (a.put o.dst v') w') :
    if Region.wanted o (yielded ops a.tmps) = true then Oper.wp Try.prog o a w K Q else E := by
  rw [if_pos (by simp [Region.wanted, hgd])]
  obtain ⟨i, hi, hz, hsz, hby⟩ := u8_info
  exact wp_append_at s x 22 ho base 5 i _ Try.underlying22 hi hz hsz hby rfl v xs hs hown B A m c news hx hr hl h1 hbytes hbase fun v' w' h2 h3 _ => h v' w' h2 h3
def padK (K : List UInt8) : List UInt8 := K ++ List.replicate (64 - K.length) 0
theorem padK_len (K : List UInt8) (h : K.length ≤ 64) : (padK K).length = 64 := by unfold padK; simp; omega
theorem spl_padK (K : List UInt8) : spl (Array.replicate 64 (.int .u8 0)) 0 (K.map b8).toArray = arrC b8 (padK K) := by
  unfold spl padK arrC
  rw [Array.toList_replicate, List.drop_replicate, List.take_zero, List.map_append, List.map_replicate, List.size_toArray, List.length_map, Nat.zero_add, List.nil_append]
  rfl
def hmacF (K M : List UInt8) : List UInt8 :=
  let P := padK (if 64 < K.length then sumF K else K)
  sumF (P.map (· ^^^ 0x5c) ++ sumF (P.map (· ^^^ 0x36) ++ M))
theorem hmacF_len (K M : List UInt8) : (hmacF K M).length = 32 := sumF_len _
theorem hash_calls_n (m : List UInt8) (n c : Nat) (A : Option Addr) (w : World) (hn : n = m.length) (hs : Sl w w.heap.size A (m.map b8)) (hlen : m.length ≤ 35184372088832) :
    Calls Try.prog 48 #[.slice A n c] w fun e w' => e = .returned (.agg (arrC b8 (sumF m))) ∧ Below w.heap.size w w' := by
  subst hn; exact hash_calls m c A w hs hlen
theorem mixed_calls_n (P : List UInt8) (x : UInt8) (xv : Int) (hx : xv = (x.toNat : Int)) (p : Nat) (w : World) (hP : P.length = 64) (hB : Blk w p 104 (arrC b8 P)) :
    Calls Try.prog 49 #[.int .u8 xv, .pointer (some ⟨p, 0, none⟩)] w fun e w' => ∃ v, e = .returned v ∧ OwnAt w' w.heap.size 5 v ((P.map (· ^^^ x)).map b8) ∧ Below w.heap.size w w' := by
  subst hx; exact mixed_calls P x p w hP hB

set_option maxRecDepth 100000 in
set_option maxHeartbeats 1000000 in
theorem hmac_calls (K M : List UInt8) (nk ck nm cm : Nat) (Ak Am : Option Addr) (w : World) (hk : Sl w w.heap.size Ak (K.map b8)) (hm : Sl w w.heap.size Am (M.map b8)) (hnk : nk = K.length) (hnm : nm = M.length) (hKl : K.length ≤ 1000000) (hMl : M.length ≤ 1000000) :
    Calls Try.prog 38 #[.slice Ak nk ck, .slice Am nm cm] w fun e w' => e = .returned (.agg (arrC b8 (hmacF K M))) ∧ Below w.heap.size w w' := by
  have HK := Lib.hid hk
  have HM := Lib.hid hm
  have HNM := Lib.hid hnm
  have HNK := Lib.hid hnk
  clear hk hm hnm
  rcases Nat.lt_or_ge 64 nk with h64 | h64
  · have hgt : (64 : Int) < (nk : Int) := by omega
    have hE : Hid (hmacF K M = sumF ((padK (sumF K)).map (· ^^^ 0x5c) ++ sumF ((padK (sumF K)).map (· ^^^ 0x36) ++ M))) := by unfold hmacF; rw [if_pos (by omega)]; rfl
    generalize hmacF K M = F at hE ⊢
    have h64 := Lib.hid h64
    clear hnk
    go_enter Try.func38, Try.ntmps38
    go_upto_region 2 with fail
    change Code.wp _ _ _ _ ((w.alloc (.cells (Array.replicate 32 (.int .u8 0)) 25)).alloc (.cells (Array.replicate 64 (.int .u8 0)) 104))
    have hO : Blk ((w.alloc (.cells (Array.replicate 32 (.int .u8 0)) 25)).alloc (.cells (Array.replicate 64 (.int .u8 0)) 104)) w.heap.size 25 (Array.replicate 32 (.int .u8 0)) := (Blk.new_ rfl).alloc _
    have hP : Blk ((w.alloc (.cells (Array.replicate 32 (.int .u8 0)) 25)).alloc (.cells (Array.replicate 64 (.int .u8 0)) 104)) (w.heap.size + 1) 104 (Array.replicate 64 (.int .u8 0)) := Blk.new_ (by simp)
    have hb : Below w.heap.size w ((w.alloc (.cells (Array.replicate 32 (.int .u8 0)) 25)).alloc (.cells (Array.replicate 64 (.int .u8 0)) 104)) := by go_grown
    have hz : w.heap.size + 2 ≤ ((w.alloc (.cells (Array.replicate 32 (.int .u8 0)) 25)).alloc (.cells (Array.replicate 64 (.int .u8 0)) 104)).heap.size := by simp
    generalize ((w.alloc (.cells (Array.replicate 32 (.int .u8 0)) 25)).alloc (.cells (Array.replicate 64 (.int .u8 0)) 104)) = w1 at hO hP hb hz ⊢
    have hOb := Lib.hid hO
    have hPb := Lib.hid hP
    have hBb := Lib.hid hb
    clear hO hP hb
    go_upto_region 5 with (first
      | (go_at_call 48; refine (hash_calls_n K nk ck Ak w1 HNK.out ((HK.out.below hBb.out).more hBb.out.size) (by omega)).mono ?_; rintro e w2 ⟨rfl, hb2⟩)
      | ((with_reducible refine wpList_store_part rfl 25 (.tmp 6) (.tmp 13) rfl rfl rfl (Blk.new_ rfl) (by rw [arrC_size, sumF_len]; kernel_rfl) (by simp [arrC_size, sumF_len]) (arrC_one b8_one) ?_); intro w3 hB3 hg3 hz3; rw [spl_all _ _ (by rw [arrC_size, sumF_len]; rfl)] at hB3; have hz4 : w2.heap.size < w3.heap.size := (by rw [hz3]; simp); clear hz3))
    have hsz2 := hb2.size
    have hb := (below_grown ((below_step hBb.out hb2).alloc (by omega) _) hg3 (by omega))
    have hP := ((hPb.out.below hb2 (by omega)).alloc _).grown hg3 (by simp; omega)
    have hO := ((hOb.out.below hb2 (by omega)).alloc _).grown hg3 (by simp; omega)
    have hK3 : Sl w3 w3.heap.size (some ⟨w2.heap.size, 0, none⟩) ((sumF K).map b8) := fun _ => ⟨w2.heap.size, 0, rfl, hz4, fun j v hv => by rw [hB3.cell, Nat.zero_add]; unfold arrC; rw [List.getElem?_toArray]; exact hv⟩
    have hl3 := sumF_len K
    generalize sumF K = K2 at hK3 hl3 hE
    have HK3 := Lib.hid hK3
    have HL3 := Lib.hid hl3
    have hle3 : K2.length ≤ 64 := by omega
    have hz : w.heap.size + 2 ≤ w3.heap.size := by omega
    clear hB3 hg3 hK3 hl3 hb2 hz4 hOb hPb hBb
    have HP := Lib.hid hP
    have HO := Lib.hid hO
    have HB := Lib.hid hb
    have HM3 := Lib.hid (HM.out.below hb)
    clear hP hO hb
    go_upto_region 7 with ((with_reducible refine wpList_copy_u8 rfl (.tmp 15) (.tmp 16) rfl (w.heap.size + 1) 64 64 _ _ _ rfl rfl 104 (Array.replicate 64 (.int .u8 0)) HP.out (K2.map b8) (by rw [List.length_map]; exact HL3.out) (by first | omega | exact h64.out) w3.heap.size HK3.out (by rw [List.length_map, Array.size_replicate]; exact hle3) (arr8_one K2) ?_); intro w4 hB4 hg4 hz4; rw [spl_padK] at hB4)
    have hb4 := below_grown HB.out hg4 (by omega)
    have hO4 := HO.out.grown hg4 (by simp)
    have hs4 : w3.heap.size = w4.heap.size := hz4.symm
    have M1 := Lib.hid (mixed_calls_n (padK K2) 0x36 54 rfl (w.heap.size + 1) w4 (padK_len K2 hle3) hB4)
    have HB4 := Lib.hid hb4
    have HO4 := Lib.hid hO4
    have HP4 := Lib.hid hB4
    have hz5 : w.heap.size + 2 ≤ w4.heap.size := by omega
    clear hb4 hO4 hB4 hg4 hz4 hs4 HB HO HP HK3 HM3
    go_upto_region 8 with (first
      | (go_at_call 49; refine M1.out.mono ?_; rintro e w5 ⟨v5, rfl, hO5, hb5⟩; have hz6 := hb5.size)
      | ((with_reducible refine wpList_append_u8 rfl (.tmp 20) (.tmp 21) rfl w4.heap.size v5 (((padK K2).map (· ^^^ 0x36)).map b8) rfl hO5 w.heap.size Am nm cm (M.map b8) rfl (HM.out.below (below_step HB4.out hb5)) (by rw [List.length_map]; exact HNM.out.symm) (arr8_one M) (by rw [List.length_map, List.length_map, padK_len K2 hle3]; have := HNM.out; omega) hz6 ?_); intro v6 w6 hO6 hg6 hh6; rw [← List.map_append] at hO6; obtain ⟨A6, c6, rfl, hc6, hm6, hs6⟩ := hO6.form8; generalize hn6 : ((padK K2).map (· ^^^ 0x36) ++ M).length = n6 at hO6 hc6 ⊢; have HN6 := Lib.hid hn6.symm; clear hn6; have HS6 := Lib.hid hs6; have hb6 := (below_step HB4.out hb5).grown hg6 (by omega) (fun k hk => by have := (hO5.lt k hk).1; omega); have hO7 := (HO4.out.below hb5 (by omega)).grown hg6 (fun e => hO5.ne (HO4.out.below hb5 (by omega)) (by decide) e.symm); have hP7 := (HP4.out.below hb5 (by omega)).grown hg6 (fun e => hO5.ne (HP4.out.below hb5 (by omega)) (by decide) e.symm); have hz7 := hg6.size)
      | (go_at_call 48; refine (hash_calls_n ((padK K2).map (· ^^^ 0x36) ++ M) n6 c6 A6 w6 HN6.out HS6.out (by rw [List.length_append, List.length_map, padK_len K2 hle3]; omega)).mono ?_; rintro e w7 ⟨rfl, hb7⟩; have hz8 := hb7.size)
      | ((with_reducible refine wpList_store_part rfl 25 (.tmp 8) (.tmp 23) rfl rfl rfl (Blk.new_ rfl) (by rw [arrC_size, sumF_len]; kernel_rfl) (by simp [arrC_size, sumF_len]) (arrC_one b8_one) ?_); intro w8 hB8 hg8 hz9; rw [spl_all _ _ (by rw [arrC_size, sumF_len]; rfl)] at hB8))
    have hzz : w8.heap.size = w7.heap.size + 1 := by rw [hz9]; simp
    have hb8 := below_grown ((below_step hb6 hb7).alloc (by omega) _) hg8 (by omega)
    have hO8 := ((hO7.below hb7 (by omega)).alloc _).grown hg8 (by simp; omega)
    have hP8 := ((hP7.below hb7 (by omega)).alloc _).grown hg8 (by simp; omega)
    have hS8 : Sl w8 w8.heap.size (some ⟨w7.heap.size, 0, none⟩) ((sumF ((padK K2).map (· ^^^ 0x36) ++ M)).map b8) := fun _ => ⟨w7.heap.size, 0, rfl, by omega, fun j v hv => by rw [hB8.cell, Nat.zero_add]; unfold arrC; rw [List.getElem?_toArray]; exact hv⟩
    have M2 := Lib.hid (mixed_calls_n (padK K2) 0x5c 92 rfl (w.heap.size + 1) w8.drew (padK_len K2 hle3) hP8.drew)
    have hl8 : (sumF ((padK K2).map (· ^^^ 0x36) ++ M)).length = 32 := sumF_len _
    generalize sumF ((padK K2).map (· ^^^ 0x36) ++ M) = I at hE hS8 hl8 hB8
    have HE := Lib.hid hE.out
    have HI := Lib.hid hl8
    have HS8 := Lib.hid hS8
    have HO8 := Lib.hid hO8
    have HB8 := Lib.hid hb8
    have hz10 : w.heap.size + 2 ≤ w8.heap.size := by omega
    clear hE hl8 hS8 hO8 hb8 hP8 hB8 hg8 hz9 hzz hb7 hz8 hO7 hP7 hb6 hg6 hh6 HS6 HN6 hs6 hO6 hO5 hb5 HB4 HO4 HP4 M1
    refine wp_region_any (by kernel_rfl) ?_
    change wpAny _ _ _ _ _ _ _ (World.drew _)
    refine wpAny_take (i := 0) (v := .func (.func 49) #[] #[.pointer (some ⟨w.heap.size + 1, 0, none⟩)]) rfl (by kernel_rfl) (by kernel_rfl) (by kernel_rfl) (fun _ _ _ h => h) (Or.inl ⟨by rfl, by intro w; go_simp⟩) ?_
    refine wpAny_take (i := 2) (v := .slice (some ⟨w7.heap.size, 0, none⟩) 32 32) rfl (by kernel_rfl) (by kernel_rfl) (by kernel_rfl) (fun _ _ _ h => h) (Or.inl ⟨by rfl, by intro w; go_simp⟩) ?_
    refine wpAny_ready (rs := [1]) (by kernel_rfl) (by simp) ?_
    refine AllReady.cons rfl (fun K hK => ?_) AllReady.nil
    go_simp
    go_wp2_with (go_at_call 49; refine M2.out.mono ?_; rintro e w9 ⟨v9, rfl, hO9, hb9⟩)
    have hz11 : w8.heap.size ≤ w9.heap.size := hb9.size
    have hb10 : Below w.heap.size w w9 := below_step HB8.out.drew hb9
    have hO9' : Blk w9 w.heap.size 25 (Array.replicate 32 (.int .u8 0)) := Blk.below (w := w8.drew) HO8.out hb9 (show w.heap.size < w8.heap.size by omega)
    refine wpAny_ready (rs := [3]) (by kernel_rfl) (by simp) ?_
    refine AllReady.cons rfl (fun K hK => ?_) AllReady.nil
    refine step_append_u8 rfl (.tmp 25) (.tmp 26) rfl w8.heap.size v9 (((padK K2).map (· ^^^ 0x5c)).map b8) rfl hO9 w8.heap.size (some ⟨w7.heap.size, 0, none⟩) 32 32 (I.map b8) rfl (Sl.below (w := w8.drew) HS8.out hb9) (by rw [List.length_map]; exact HI.out) (arr8_one I) (by rw [List.length_map, List.length_map, padK_len K2 hle3]; omega) hz11 ?_
    intro v10 w10 hO10 hg10
    rw [← List.map_append] at hO10
    obtain ⟨A10, c10, rfl, hc10, hm10, hs10⟩ := hO10.form8
    generalize hn10 : ((padK K2).map (· ^^^ 0x5c) ++ I).length = n10 at hO10 hc10 ⊢
    have hz12 := hg10.size
    have hb11 := hb10.grown hg10 (by omega) (fun k hk => by have : w8.heap.size ≤ k := (hO9.lt k hk).1; omega)
    have hO11 := hO9'.grown hg10 (fun e => hO9.ne hO9' (by decide) e.symm)
    have C := hash_calls_n ((padK K2).map (· ^^^ 0x5c) ++ I) n10 c10 A10 w10 hn10.symm hs10 (by rw [List.length_append, List.length_map, padK_len K2 hle3, HI.out]; omega)
    have C := Lib.hid C
    have HB11 := Lib.hid hb11
    have HO11 := Lib.hid hO11
    clear hn10 hs10 hO10 hg10 hb11 hO11 hb10 hO9' hO9 hb9
    refine hK _ _ ?_
    clear hK K
    go_simp
    refine wpAny_ready (rs := [4]) (by kernel_rfl) (by simp) ?_
    refine AllReady.cons rfl (fun K hK => ?_) AllReady.nil
    refine step_call rfl (f := 48) rfl Try.func48 (by kernel_rfl) (by kernel_rfl) (by rw [List.map_toArray]; rfl) C.out ?_
    intro w11 hb12
    have hO12 := HO11.out.below hb12 (by omega)
    have hb13 := below_step HB11.out hb12
    refine hK _ _ ?_
    clear hK K
    go_simp
    refine wpAny_ready (rs := [5]) (by kernel_rfl) (by simp) ?_
    refine AllReady.cons rfl (fun K hK => ?_) AllReady.nil
    refine step_store_part rfl 25 (.tmp 4) (.tmp 28) rfl rfl rfl hO12 (by rw [arrC_size, sumF_len]; kernel_rfl) (by simp [arrC_size, sumF_len]) (arrC_one b8_one) ?_
    intro w12 hB12 hg12 hz13
    refine hK _ _ ?_
    clear hK K
    refine wpAny_done (by kernel_rfl) ?_ _
    rw [spl_all _ _ (by rw [arrC_size, sumF_len]; rfl)] at hB12
    go_wp2_with fail
    exact ret_row rfl rfl hB12 Try.underlying25 rfl (by rw [arrC_size, sumF_len]; kernel_rfl) ⟨by rw [HE.out], below_grown hb13 hg12 (Nat.le_refl _)⟩ rfl
  · have hgt : (nk : Int) ≤ 64 := by omega
    have hE : Hid (hmacF K M = sumF ((padK K).map (· ^^^ 0x5c) ++ sumF ((padK K).map (· ^^^ 0x36) ++ M))) := by unfold hmacF; rw [if_neg (by omega)]; rfl
    generalize hmacF K M = F at hE ⊢
    clear hnk
    go_enter Try.func38, Try.ntmps38
    go_upto_region 2 with fail
    change Code.wp _ _ _ _ ((w.alloc (.cells (Array.replicate 32 (.int .u8 0)) 25)).alloc (.cells (Array.replicate 64 (.int .u8 0)) 104))
    have hO : Blk ((w.alloc (.cells (Array.replicate 32 (.int .u8 0)) 25)).alloc (.cells (Array.replicate 64 (.int .u8 0)) 104)) w.heap.size 25 (Array.replicate 32 (.int .u8 0)) := (Blk.new_ rfl).alloc _
    have hP : Blk ((w.alloc (.cells (Array.replicate 32 (.int .u8 0)) 25)).alloc (.cells (Array.replicate 64 (.int .u8 0)) 104)) (w.heap.size + 1) 104 (Array.replicate 64 (.int .u8 0)) := Blk.new_ (by simp)
    have hb : Below w.heap.size w ((w.alloc (.cells (Array.replicate 32 (.int .u8 0)) 25)).alloc (.cells (Array.replicate 64 (.int .u8 0)) 104)) := by go_grown
    have hz : w.heap.size + 2 ≤ ((w.alloc (.cells (Array.replicate 32 (.int .u8 0)) 25)).alloc (.cells (Array.replicate 64 (.int .u8 0)) 104)).heap.size := by simp
    generalize ((w.alloc (.cells (Array.replicate 32 (.int .u8 0)) 25)).alloc (.cells (Array.replicate 64 (.int .u8 0)) 104)) = w3 at hO hP hb hz ⊢
    go_upto_region 5 with fail
    have hK3 : Sl w3 w3.heap.size Ak (K.map b8) := (HK.out.below hb).more hb.size
    have hl3 := HNK.out.symm
    have hle3 : K.length ≤ 64 := by rw [hl3]; exact h64
    generalize hKK : K = K2 at hK3 hl3 hE hle3
    have HK3 := Lib.hid hK3
    have HL3 := Lib.hid hl3
    have h64 := Lib.hid h64
    clear hK3 hl3 hKK
    have HP := Lib.hid hP
    have HO := Lib.hid hO
    have HB := Lib.hid hb
    have HM3 := Lib.hid (HM.out.below hb)
    clear hP hO hb
    go_upto_region 7 with ((with_reducible refine wpList_copy_u8 rfl (.tmp 15) (.tmp 16) rfl (w.heap.size + 1) 64 64 _ _ _ rfl rfl 104 (Array.replicate 64 (.int .u8 0)) HP.out (K2.map b8) (by rw [List.length_map]; exact HL3.out) (by first | omega | exact h64.out) w3.heap.size HK3.out (by rw [List.length_map, Array.size_replicate]; exact hle3) (arr8_one K2) ?_); intro w4 hB4 hg4 hz4; rw [spl_padK] at hB4)
    have hb4 := below_grown HB.out hg4 (by omega)
    have hO4 := HO.out.grown hg4 (by simp)
    have hs4 : w3.heap.size = w4.heap.size := hz4.symm
    have M1 := Lib.hid (mixed_calls_n (padK K2) 0x36 54 rfl (w.heap.size + 1) w4 (padK_len K2 hle3) hB4)
    have HB4 := Lib.hid hb4
    have HO4 := Lib.hid hO4
    have HP4 := Lib.hid hB4
    have hz5 : w.heap.size + 2 ≤ w4.heap.size := by omega
    clear hb4 hO4 hB4 hg4 hz4 hs4 HB HO HP HK3 HM3
    go_upto_region 8 with (first
      | (go_at_call 49; refine M1.out.mono ?_; rintro e w5 ⟨v5, rfl, hO5, hb5⟩; have hz6 := hb5.size)
      | ((with_reducible refine wpList_append_u8 rfl (.tmp 20) (.tmp 21) rfl w4.heap.size v5 (((padK K2).map (· ^^^ 0x36)).map b8) rfl hO5 w.heap.size Am nm cm (M.map b8) rfl (HM.out.below (below_step HB4.out hb5)) (by rw [List.length_map]; exact HNM.out.symm) (arr8_one M) (by rw [List.length_map, List.length_map, padK_len K2 hle3]; have := HNM.out; omega) hz6 ?_); intro v6 w6 hO6 hg6 hh6; rw [← List.map_append] at hO6; obtain ⟨A6, c6, rfl, hc6, hm6, hs6⟩ := hO6.form8; generalize hn6 : ((padK K2).map (· ^^^ 0x36) ++ M).length = n6 at hO6 hc6 ⊢; have HN6 := Lib.hid hn6.symm; clear hn6; have HS6 := Lib.hid hs6; have hb6 := (below_step HB4.out hb5).grown hg6 (by omega) (fun k hk => by have := (hO5.lt k hk).1; omega); have hO7 := (HO4.out.below hb5 (by omega)).grown hg6 (fun e => hO5.ne (HO4.out.below hb5 (by omega)) (by decide) e.symm); have hP7 := (HP4.out.below hb5 (by omega)).grown hg6 (fun e => hO5.ne (HP4.out.below hb5 (by omega)) (by decide) e.symm); have hz7 := hg6.size)
      | (go_at_call 48; refine (hash_calls_n ((padK K2).map (· ^^^ 0x36) ++ M) n6 c6 A6 w6 HN6.out HS6.out (by rw [List.length_append, List.length_map, padK_len K2 hle3]; omega)).mono ?_; rintro e w7 ⟨rfl, hb7⟩; have hz8 := hb7.size)
      | ((with_reducible refine wpList_store_part rfl 25 (.tmp 8) (.tmp 23) rfl rfl rfl (Blk.new_ rfl) (by rw [arrC_size, sumF_len]; kernel_rfl) (by simp [arrC_size, sumF_len]) (arrC_one b8_one) ?_); intro w8 hB8 hg8 hz9; rw [spl_all _ _ (by rw [arrC_size, sumF_len]; rfl)] at hB8))
    have hzz : w8.heap.size = w7.heap.size + 1 := by rw [hz9]; simp
    have hb8 := below_grown ((below_step hb6 hb7).alloc (by omega) _) hg8 (by omega)
    have hO8 := ((hO7.below hb7 (by omega)).alloc _).grown hg8 (by simp; omega)
    have hP8 := ((hP7.below hb7 (by omega)).alloc _).grown hg8 (by simp; omega)
    have hS8 : Sl w8 w8.heap.size (some ⟨w7.heap.size, 0, none⟩) ((sumF ((padK K2).map (· ^^^ 0x36) ++ M)).map b8) := fun _ => ⟨w7.heap.size, 0, rfl, by omega, fun j v hv => by rw [hB8.cell, Nat.zero_add]; unfold arrC; rw [List.getElem?_toArray]; exact hv⟩
    have M2 := Lib.hid (mixed_calls_n (padK K2) 0x5c 92 rfl (w.heap.size + 1) w8.drew (padK_len K2 hle3) hP8.drew)
    have hl8 : (sumF ((padK K2).map (· ^^^ 0x36) ++ M)).length = 32 := sumF_len _
    generalize sumF ((padK K2).map (· ^^^ 0x36) ++ M) = I at hE hS8 hl8 hB8
    have HE := Lib.hid hE.out
    have HI := Lib.hid hl8
    have HS8 := Lib.hid hS8
    have HO8 := Lib.hid hO8
    have HB8 := Lib.hid hb8
    have hz10 : w.heap.size + 2 ≤ w8.heap.size := by omega
    clear hE hl8 hS8 hO8 hb8 hP8 hB8 hg8 hz9 hzz hb7 hz8 hO7 hP7 hb6 hg6 hh6 HS6 HN6 hs6 hO6 hO5 hb5 HB4 HO4 HP4 M1
    refine wp_region_any (by kernel_rfl) ?_
    change wpAny _ _ _ _ _ _ _ (World.drew _)
    refine wpAny_take (i := 0) (v := .func (.func 49) #[] #[.pointer (some ⟨w.heap.size + 1, 0, none⟩)]) rfl (by kernel_rfl) (by kernel_rfl) (by kernel_rfl) (fun _ _ _ h => h) (Or.inl ⟨by rfl, by intro w; go_simp⟩) ?_
    refine wpAny_take (i := 2) (v := .slice (some ⟨w7.heap.size, 0, none⟩) 32 32) rfl (by kernel_rfl) (by kernel_rfl) (by kernel_rfl) (fun _ _ _ h => h) (Or.inl ⟨by rfl, by intro w; go_simp⟩) ?_
    refine wpAny_ready (rs := [1]) (by kernel_rfl) (by simp) ?_
    refine AllReady.cons rfl (fun K hK => ?_) AllReady.nil
    go_simp
    go_wp2_with (go_at_call 49; refine M2.out.mono ?_; rintro e w9 ⟨v9, rfl, hO9, hb9⟩)
    have hz11 : w8.heap.size ≤ w9.heap.size := hb9.size
    have hb10 : Below w.heap.size w w9 := below_step HB8.out.drew hb9
    have hO9' : Blk w9 w.heap.size 25 (Array.replicate 32 (.int .u8 0)) := Blk.below (w := w8.drew) HO8.out hb9 (show w.heap.size < w8.heap.size by omega)
    refine wpAny_ready (rs := [3]) (by kernel_rfl) (by simp) ?_
    refine AllReady.cons rfl (fun K hK => ?_) AllReady.nil
    refine step_append_u8 rfl (.tmp 25) (.tmp 26) rfl w8.heap.size v9 (((padK K2).map (· ^^^ 0x5c)).map b8) rfl hO9 w8.heap.size (some ⟨w7.heap.size, 0, none⟩) 32 32 (I.map b8) rfl (Sl.below (w := w8.drew) HS8.out hb9) (by rw [List.length_map]; exact HI.out) (arr8_one I) (by rw [List.length_map, List.length_map, padK_len K2 hle3]; omega) hz11 ?_
    intro v10 w10 hO10 hg10
    rw [← List.map_append] at hO10
    obtain ⟨A10, c10, rfl, hc10, hm10, hs10⟩ := hO10.form8
    generalize hn10 : ((padK K2).map (· ^^^ 0x5c) ++ I).length = n10 at hO10 hc10 ⊢
    have hz12 := hg10.size
    have hb11 := hb10.grown hg10 (by omega) (fun k hk => by have : w8.heap.size ≤ k := (hO9.lt k hk).1; omega)
    have hO11 := hO9'.grown hg10 (fun e => hO9.ne hO9' (by decide) e.symm)
    have C := hash_calls_n ((padK K2).map (· ^^^ 0x5c) ++ I) n10 c10 A10 w10 hn10.symm hs10 (by rw [List.length_append, List.length_map, padK_len K2 hle3, HI.out]; omega)
    have C := Lib.hid C
    have HB11 := Lib.hid hb11
    have HO11 := Lib.hid hO11
    clear hn10 hs10 hO10 hg10 hb11 hO11 hb10 hO9' hO9 hb9
    refine hK _ _ ?_
    clear hK K
    go_simp
    refine wpAny_ready (rs := [4]) (by kernel_rfl) (by simp) ?_
    refine AllReady.cons rfl (fun K hK => ?_) AllReady.nil
    refine step_call rfl (f := 48) rfl Try.func48 (by kernel_rfl) (by kernel_rfl) (by rw [List.map_toArray]; rfl) C.out ?_
    intro w11 hb12
    have hO12 := HO11.out.below hb12 (by omega)
    have hb13 := below_step HB11.out hb12
    refine hK _ _ ?_
    clear hK K
    go_simp
    refine wpAny_ready (rs := [5]) (by kernel_rfl) (by simp) ?_
    refine AllReady.cons rfl (fun K hK => ?_) AllReady.nil
    refine step_store_part rfl 25 (.tmp 4) (.tmp 28) rfl rfl rfl hO12 (by rw [arrC_size, sumF_len]; kernel_rfl) (by simp [arrC_size, sumF_len]) (arrC_one b8_one) ?_
    intro w12 hB12 hg12 hz13
    refine hK _ _ ?_
    clear hK K
    refine wpAny_done (by kernel_rfl) ?_ _
    rw [spl_all _ _ (by rw [arrC_size, sumF_len]; rfl)] at hB12
    go_wp2_with fail
    exact ret_row rfl rfl hB12 Try.underlying25 rfl (by rw [arrC_size, sumF_len]; kernel_rfl) ⟨by rw [HE.out], below_grown hb13 hg12 (Nat.le_refl _)⟩ rfl
end Go.Proofs.Ytfamififoifagaa
