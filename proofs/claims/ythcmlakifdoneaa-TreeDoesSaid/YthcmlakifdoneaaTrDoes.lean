/- TreeDoes: for every input the law returns true and leaves its arguments as they were. No condition. -/
import Derived.Test.YthcmlakifdoneaaTrLawB
namespace Go.Proofs.Ythcmlakifdoneaa
open Go.ChangeShapes Go.WideShapes Go.ChangeAt Go.RowKit Go.Deep

theorem cells3 {W W' : World} {b : Nat} {v0 v1 v2 : Value} (c : ∀ (j : Nat) (v : Value), (#[v0, v1, v2] : Array Value)[j]? = some v → W.cell? ⟨b, j, none⟩ = some v) (h : W'.heap[b]? = W.heap[b]?) : W'.cell? ⟨b, 0, none⟩ = some v0 ∧ W'.cell? ⟨b, 1, none⟩ = some v1 ∧ W'.cell? ⟨b, 2, none⟩ = some v2 := by
  have q : ∀ (j : Nat) (v : Value), (#[v0, v1, v2] : Array Value)[j]? = some v → W'.cell? ⟨b, j, none⟩ = some v := fun j v hj => (World.cell?_of_block h).trans (c j v hj)
  exact ⟨q 0 _ rfl, q 1 _ rfl, q 2 _ rfl⟩
theorem names_more {nm : List Nm} {x : Nm} (h : ∀ y ∈ nm, y.size ≤ 20) (hx : x.size ≤ 20) : ∀ y ∈ nm ++ [x], y.size ≤ 20 := fun y hy => by
  rcases List.mem_append.1 hy with hy | hy
  · exact h y hy
  · rw [List.mem_singleton] at hy
    rw [hy]
    exact hx
def DHid (w wr : World) (t m r : Nat) (v x : Value) (n : Nat) (N : List Node) (nm : List Nm) : Prop := ∃ D, DS w wr t m r v x n D (fN N) N nm
set_option maxHeartbeats 8000000 in
set_option maxRecDepth 100000 in
theorem walk_treeDoes (w : World) (L : List TDo) (va : Value) (ha : Sl 3 rTDo (fun _ => True) w va L) : Calls Try.prog 3 #[va] w fun e w' => e = .returned (.bool true) ∧ Below w.heap.size w w' := by
  have hfew := Lib.hid (fun W (hW : Below w.heap.size w W) => few_any L va W (fun _ => True) (ha.keep rTDo_ok (by decide) (kept_of hW)))
  obtain ⟨A, c, rfl, hal, hac, han, has⟩ := ha
  unfold maxLen at hac
  obtain ⟨istring, histring, hzstring, h1string, h2string⟩ := info_parts (show (Try.prog.info? 9).map (fun i => (i.zero, i.size, i.bytes)) = some (some (.string ⟨#[]⟩), 1, 16) from by kernel_rfl)
  cases hf : fewB L with
  | false =>
    rw [hf] at hfew
    clear hf
    go_enter Try.func3, Try.ntmps3
    go_wp2_with (first
      | (go_at_call 5; refine Calls.mono (awake_any _) ?_; rintro e w1 ⟨rfl, B1⟩)
      | (go_at_call 6; refine Calls.mono (hfew.out _ B1) ?_; rintro e w2 ⟨rfl, B2⟩))
    go_ret
    exact ⟨rfl, bel_call B1 B2⟩
  | true =>
    rw [hf] at hfew
    obtain ⟨hl40, hsh⟩ := fewB_yes hf
    have HSH := Lib.hid hsh
    clear hf hsh
    go_enter Try.func3, Try.ntmps3
    go_wp2_with (first
      | (go_at_call 5; refine Calls.mono (awake_any _) ?_; rintro e w1 ⟨rfl, B1⟩)
      | (go_at_call 6; refine Calls.mono (hfew.out _ B1) ?_; rintro e w2 ⟨rfl, B2⟩)
      | (go_at_call 7; refine Calls.mono (new_any _) ?_; rintro e w3 ⟨⟨t, m, rfl, hs, ht, hm, htl, hml⟩, B3⟩; have HS := Lib.hid hs; have HT := Lib.hid (And.intro (And.intro ht hm) (And.intro htl hml)); have HB3 := Lib.hid (bel_call (bel_call B1 B2) B3); have HB2 := Lib.hid (bel_call B1 B2); clear hs ht hm htl hml B1 B2 B3))
    clear hfew
    obtain ⟨W4, hW4, c4, f4, B4, q4⟩ := boxed w3 #[.slice none 0 0] 30
    rw [hW4]
    obtain ⟨W5, hW5, c5, f5, B5, q5⟩ := boxed W4 #[.string Top] 9
    have hz4 : W4.heap.size = w3.heap.size + 1 := by rw [← hW4]; simp
    have hnames : W5.heap[W4.heap.size]? = some (.cells #[.string Top] 9 (0, 0)) := by rw [← hW5]; exact heap_alloc_new W4 _
    have hroot : W5.heap[w3.heap.size]? = some (.cells #[.slice none 0 0] 30 (0, 0)) := by rw [← hW5]; refine blk_alloc_old _ ?_; rw [← hW4]; exact heap_alloc_new w3 _
    have HD0 := Lib.hid (show DHid w W5 t m w3.heap.size (.slice none 0 0) (.slice (some ⟨w3.heap.size + 1, 0, none⟩) 1 1) 0 [] [Top] from by
      have hw23 := HB3.out.size
      have hw2 := HB2.out.size
      obtain ⟨⟨ht, hm⟩, htl, hml⟩ := HT.out
      refine ⟨_, (HS.out.below B4).below B5, ⟨hroot, RowC.nil _, by simp [Value.ownBlock], by simp [Uniq], by simp, fun x hx => by simp at hx⟩, ⟨fun y hy => ?_, .inr ⟨w3.heap.size + 1, 0, 1, _, rfl, by rw [← hz4]; exact hnames, by simp [strs], by decide, by simp, fun q u hq => ?_⟩⟩, by omega, by omega, by simp [Value.ownBlock], by simp [Value.ownBlock], ?_, ?_, ?_, fun b hb => by simp [Value.ownBlock], by omega, by omega, by omega, fun b hb => by simp [Value.ownBlock] at hb, fun b hb => ?_, bel_call HB3.out (bel_call B4 B5)⟩
      · obtain rfl : y = [.string Top] := by simpa [strs] using hy
        exact ⟨rfl, fun u hu => by simp at hu; subst hu; rfl⟩
      · rw [Nat.zero_add]
        simpa [strs] using hq
      · simp only [Value.ownBlock, ne_eq, Option.some.injEq]; omega
      · simp only [Value.ownBlock, ne_eq, Option.some.injEq]; omega
      · simp only [Value.ownBlock, ne_eq, Option.some.injEq]; omega
      · simp only [Value.ownBlock, Option.some.injEq] at hb; omega)
    rw [hW5]
    generalize hr : w3.heap.size = r at HD0 ⊢
    obtain ⟨va0, hva0⟩ : ∃ v : Value, v = .slice none 0 0 := ⟨_, rfl⟩
    have HV := Lib.hid (show DHid w W5 t m r va0 (.slice (some ⟨r + 1, 0, none⟩) 1 1) 0 [] [Top] by rw [hva0]; exact HD0.out)
    clear HD0 hnames hroot c4 f4 c5 f5 hW4 hW5 HS HT B4 B5 q4 q5 hz4 hva0 HB3 HB2
    clear hr
    go_loopw [5, 26] (fun s5 i wr => ∃ (k n : Nat) (v : Value) (N : List Node) (nm : List Nm), k ≤ L.length ∧ i = .int .i64 k ∧ n ≤ k ∧ N.length ≤ k ∧ nm.length = k + 1 ∧ Hid (∀ y ∈ nm, y.size ≤ 20) ∧ Hid (Inv (fN N)) ∧ Hid (DHid w wr t m r v s5 n N nm)) (fun _ i _ => L.length - (RowKit.intOf i).toNat)
    case atStart => exact ⟨0, 0, va0, [], [Top], by omega, by go_num, by omega, by simp, rfl, (fun y hy => by simp at hy; subst hy; decide), Inv.start, HV⟩
    case round =>
      clear HV
      obtain ⟨k, n, v, N, nm, hk, rfl, hn, hN, hnm, HNM, HI, HD⟩ := hrel
      by_cases hlt : k < L.length
      · obtain ⟨D, hds⟩ := HD.out
        obtain ⟨x, b, o, hx, hxm, rfl, x0, x1, x2⟩ := get_TDo has hlt (kept_of hds.bel)
        have hsz := HSH.out x hxm
        obtain ⟨A5, c5, rfl, _⟩ := hds.row.shape
        have HDS := Lib.hid hds
        have hF := hds.ref.smallF
        clear hx hxm hds
        have hns : x.name.size ≤ 1000 := by omega
        have hps : x.parent.size ≤ 1000 := by omega
        by_cases k1 : x.kind = 1
        · rw [k1] at x0
          go_wp2_with fail
          obtain ⟨W, hW, cW, fW, BW, qW⟩ := boxed wr #[.int .i64 1, .string x.name, .string x.parent] 33
          rw [hW]
          have CW := Lib.hid cW
          have HWS := Lib.hid (show wr.heap.size < W.heap.size from qW)
          have HDW := Lib.hid (HDS.out.on BW.drew)
          have hzw : wr.heap.size < W.drew.heap.size := qW
          clear x0 x1 x2 hW cW fW BW qW
          refine wp_region_held_drew (S := fun W' => W'.cell? ⟨wr.heap.size, 0, none⟩ = some (.int .i64 1) ∧ W'.cell? ⟨wr.heap.size, 1, none⟩ = some (.string x.name) ∧ W'.cell? ⟨wr.heap.size, 2, none⟩ = some (.string x.parent)) (by kernel_rfl) (cells3 CW.out rfl) (fun hHeld => ?_)
          refine wpAnyH_take (i := 0) (oi := ?_) (v := ?_) ?_ (by kernel_rfl) (by kernel_rfl) (by kernel_rfl) ?_ (Or.inl ⟨?_, ?_⟩) hHeld ?_
          rotate_left 2
          · simp only [List.getElem?_toArray, List.getElem?_cons_succ, List.getElem?_cons_zero]; exact rfl
          · exact fun _ _ _ h => h
          · rfl
          · (intro W' hSw; (try dsimp only at hSw); go_simp; try with_reducible rfl)
          try simp only [Act.put, List.setIfInBounds_toArray, List.set_cons_zero, List.set_cons_succ]
          refine wpAnyH_take (i := 1) (oi := ?_) (v := ?_) ?_ (by kernel_rfl) (by kernel_rfl) (by kernel_rfl) ?_ (Or.inl ⟨?_, ?_⟩) hHeld ?_
          rotate_left 2
          · simp only [List.getElem?_toArray, List.getElem?_cons_succ, List.getElem?_cons_zero]; exact rfl
          · exact fun _ _ _ h => h
          · rfl
          · (intro W' hSw; (try dsimp only at hSw); go_simp; try with_reducible rfl)
          try simp only [Act.put, List.setIfInBounds_toArray, List.set_cons_zero, List.set_cons_succ]
          refine wpAnyH_take (i := 2) (oi := ?_) (v := ?_) ?_ (by kernel_rfl) (by kernel_rfl) (by kernel_rfl) ?_ (Or.inl ⟨?_, ?_⟩) hHeld ?_
          rotate_left 2
          · simp only [List.getElem?_toArray, List.getElem?_cons_succ, List.getElem?_cons_zero]; exact rfl
          · exact fun _ _ _ h => h
          · rfl
          · (intro W' hSw; (try dsimp only at hSw); go_simp; try with_reducible rfl)
          try simp only [Act.put, List.setIfInBounds_toArray, List.set_cons_zero, List.set_cons_succ]
          refine wpAnyH_take (i := 3) (oi := ?_) (v := ?_) ?_ (by kernel_rfl) (by kernel_rfl) (by kernel_rfl) ?_ (Or.inl ⟨?_, ?_⟩) hHeld ?_
          rotate_left 2
          · simp only [List.getElem?_toArray, List.getElem?_cons_succ, List.getElem?_cons_zero]; exact rfl
          · exact fun _ _ _ h => h
          · rfl
          · (intro W' hSw; (try dsimp only at hSw); go_simp; try with_reducible rfl)
          try simp only [Act.put, List.setIfInBounds_toArray, List.set_cons_zero, List.set_cons_succ]
          refine wpAnyH_take (i := 4) (oi := ?_) (v := ?_) ?_ (by kernel_rfl) (by kernel_rfl) (by kernel_rfl) ?_ (Or.inl ⟨?_, ?_⟩) hHeld ?_
          rotate_left 2
          · simp only [List.getElem?_toArray, List.getElem?_cons_succ, List.getElem?_cons_zero]; exact rfl
          · exact fun _ _ _ h => h
          · rfl
          · (intro W' hSw; (try dsimp only at hSw); go_simp; try with_reducible rfl)
          try simp only [Act.put, List.setIfInBounds_toArray, List.set_cons_zero, List.set_cons_succ]
          refine wpAnyH_take (i := 6) (oi := ?_) (v := ?_) ?_ (by kernel_rfl) (by kernel_rfl) (by kernel_rfl) ?_ (Or.inl ⟨?_, ?_⟩) hHeld ?_
          rotate_left 2
          · simp only [List.getElem?_toArray, List.getElem?_cons_succ, List.getElem?_cons_zero]; exact rfl
          · exact fun _ _ _ h => h
          · rfl
          · (intro W' hSw; (try dsimp only at hSw); go_simp; try with_reducible rfl)
          try simp only [Act.put, List.setIfInBounds_toArray, List.set_cons_zero, List.set_cons_succ]
          refine wpAnyH_take (i := 7) (oi := ?_) (v := ?_) ?_ (by kernel_rfl) (by kernel_rfl) (by kernel_rfl) ?_ (Or.inl ⟨?_, ?_⟩) hHeld ?_
          rotate_left 2
          · simp only [List.getElem?_toArray, List.getElem?_cons_succ, List.getElem?_cons_zero]; exact rfl
          · exact fun _ _ _ h => h
          · rfl
          · (intro W' hSw; (try dsimp only at hSw); go_simp; try with_reducible rfl)
          try simp only [Act.put, List.setIfInBounds_toArray, List.set_cons_zero, List.set_cons_succ]
          refine wpAnyH_take (i := 8) (oi := ?_) (v := ?_) ?_ (by kernel_rfl) (by kernel_rfl) (by kernel_rfl) ?_ (Or.inl ⟨?_, ?_⟩) hHeld ?_
          rotate_left 2
          · simp only [List.getElem?_toArray, List.getElem?_cons_succ, List.getElem?_cons_zero]; exact rfl
          · exact fun _ _ _ h => h
          · rfl
          · (intro W' hSw; (try dsimp only at hSw); go_simp; try with_reducible rfl)
          try simp only [Act.put, List.setIfInBounds_toArray, List.set_cons_zero, List.set_cons_succ]
          refine wpAnyH_take (i := 9) (oi := ?_) (v := ?_) ?_ (by kernel_rfl) (by kernel_rfl) (by kernel_rfl) ?_ (Or.inl ⟨?_, ?_⟩) hHeld ?_
          rotate_left 2
          · simp only [List.getElem?_toArray, List.getElem?_cons_succ, List.getElem?_cons_zero]; exact rfl
          · exact fun _ _ _ h => h
          · rfl
          · (intro W' hSw; (try dsimp only at hSw); go_simp; try with_reducible rfl)
          try simp only [Act.put, List.setIfInBounds_toArray, List.set_cons_zero, List.set_cons_succ]
          refine wpAnyH_take (i := 10) (oi := ?_) (v := ?_) ?_ (by kernel_rfl) (by kernel_rfl) (by kernel_rfl) ?_ (Or.inl ⟨?_, ?_⟩) hHeld ?_
          rotate_left 2
          · simp only [List.getElem?_toArray, List.getElem?_cons_succ, List.getElem?_cons_zero]; exact rfl
          · exact fun _ _ _ h => h
          · rfl
          · (intro W' hSw; (try dsimp only at hSw); go_simp; try with_reducible rfl)
          try simp only [Act.put, List.setIfInBounds_toArray, List.set_cons_zero, List.set_cons_succ]
          have hbm : wr.heap.size ≠ m := by have := HDS.out.tree.lt m (.inr rfl); omega
          have hbr : wr.heap.size ≠ r := by have := blk_lt HDS.out.ref.cell; omega
          have hbv : v.ownBlock ≠ some wr.heap.size := fun e => by have := HDS.out.ref.row.lt _ e; omega
          refine wpAnyH_ready (rs := [5]) (by kernel_rfl) (by simp) ?_
          refine AllReadyH.cons rfl (fun K hK => ?_) AllReadyH.nil
          · go_simp
            go_at_call 8
            refine Calls.mono (add_any HDW.out.tree HI.out hF (by omega) x.name x.parent hns hps) ?_
            rintro e wa ⟨rfl, hT⟩
            have hz2 : W.drew.heap.size ≤ wa.heap.size := hT.2.size
            have hb1 : wa.heap[wr.heap.size]? = W.heap[wr.heap.size]? := hT.2.block _ hzw hbm
            obtain ⟨n2, D2, hn2, hA⟩ := HDW.out.stepT hT
            have HA := Lib.hid hA
            clear hT hA
            refine hK.out _ _ (cells3 CW.out hb1) (fun hHeld => ?_)
            clear hK K
            try simp only [Act.put, List.setIfInBounds_toArray, List.set_cons_zero, List.set_cons_succ]
            refine wpAnyH_ready (rs := [11]) (by kernel_rfl) (by simp) ?_
            refine AllReadyH.cons rfl (fun K hK => ?_) AllReadyH.nil
            go_simp
            go_at_call 9
            refine Calls.mono (refadd_any HA.out.ref HI.out (by omega) x.name x.parent hns hps) ?_
            rintro e wz ⟨rfl, hR⟩
            have hb2 : wz.heap[wr.heap.size]? = W.heap[wr.heap.size]? := (hR.choose_spec.choose_spec.2.2.2.2.block _ (by omega) (fun e => e.elim hbr hbv)).trans hb1
            obtain ⟨v2, N2, hf2, hN2, hB⟩ := HA.out.stepR hR
            have HI2 := Lib.hid (show Inv (fN N2) from hf2 ▸ (add_keeps HI.out hF hns hps).1)
            have HD2 := Lib.hid (show DHid w wz t m r v2 (.slice A5 (strs nm).length c5) n2 N2 nm from ⟨D2, by rw [hf2]; exact hB⟩)
            clear hR hB hf2 hHeld
            refine hK.out _ _ (cells3 CW.out hb2) (fun hHeld => ?_)
            clear hK K hb1 hb2
            try simp only [Act.put, List.setIfInBounds_toArray, List.set_cons_zero, List.set_cons_succ]
            refine wpAnyH_take (i := 12) (oi := ?_) (v := ?_) ?_ (by kernel_rfl) (by kernel_rfl) (by kernel_rfl) ?_ (Or.inl ⟨?_, ?_⟩) hHeld ?_
            rotate_left 2
            · simp only [List.getElem?_toArray, List.getElem?_cons_succ, List.getElem?_cons_zero]; exact rfl
            · exact fun _ _ _ h => h
            · rfl
            · (intro W' hSw; (try dsimp only at hSw); go_simp; try with_reducible rfl)
            try simp only [Act.put, List.setIfInBounds_toArray, List.set_cons_zero, List.set_cons_succ]
            refine wpAnyH_take (i := 13) (oi := ?_) (v := ?_) ?_ (by kernel_rfl) (by kernel_rfl) (by kernel_rfl) ?_ (Or.inl ⟨?_, ?_⟩) hHeld ?_
            rotate_left 2
            · simp only [List.getElem?_toArray, List.getElem?_cons_succ, List.getElem?_cons_zero]; exact rfl
            · exact fun _ _ _ h => h
            · rfl
            · (intro W' hSw; (try dsimp only at hSw); go_simp; try with_reducible rfl)
            try simp only [Act.put, List.setIfInBounds_toArray, List.set_cons_zero, List.set_cons_succ]
            refine wpAnyH_done (by kernel_rfl) ?_ _
            obtain ⟨C0, C1, C2⟩ := hHeld
            have hwb : wr.heap.size < wz.heap.size := cell_lt C1
            clear C0 C2 HWS hzw
            go_wp2_with fail
            go_quiet ((first
              | (go_at_call 14; exact Calls.quiet_of_same ((name_any x.name (by omega) _).mono fun e w' h => ⟨h.1, h.2.symm⟩))
              | (go_at_call 15; exact Calls.quiet_of_same ((refname_any x.name (by omega) _).mono fun e w' h => ⟨h.1, h.2.symm⟩))))
            obtain ⟨D9, hd9⟩ := HD2.out
            have HD9 := Lib.hid (fun q => hd9.on (below_drewN (Below.refl _ wz) q))
            clear hd9
            go_wp2_with (at_builtin; (refine wpList_rowC _ [.string x.name] rfl (.tmp 82) (.tmp 85) 31 rfl istring _ 16 Try.underlying31 histring hzstring h1string h2string rfl (by decide) (by decide) _ _ rfl (HD9.out _).row (by rw [strs_len]; omega) rfl (by intro u hu; simp at hu; subst hu; rfl) _ _ rfl rfl ?_); intro v3 w5 r3 g3 o3; have HD5 := Lib.hid (show DHid w w5 t m r v2 v3 n2 N2 (nm ++ [x.name]) from ⟨D9, (HD9.out _).stepX (by rw [show strs (nm ++ [x.name]) = strs nm ++ [[.string x.name]] by simp [strs]]; exact r3) g3 o3⟩); clear r3 g3 o3)
            go_roundw
            case rel => exact ⟨k + 1, n2, v2, N2, nm ++ [x.name], by omega, by go_num, by omega, by omega, by simp; omega, names_more HNM.out hsz.1, HI2, HD5⟩
            case measure => simp [RowKit.intOf]; omega
        by_cases k2 : x.kind = 2
        · rw [k2] at x0
          go_wp2_with fail
          obtain ⟨W, hW, cW, fW, BW, qW⟩ := boxed wr #[.int .i64 2, .string x.name, .string x.parent] 33
          rw [hW]
          have CW := Lib.hid cW
          have HWS := Lib.hid (show wr.heap.size < W.heap.size from qW)
          have HDW := Lib.hid (HDS.out.on BW.drew)
          have hzw : wr.heap.size < W.drew.heap.size := qW
          clear x0 x1 x2 hW cW fW BW qW
          refine wp_region_held_drew (S := fun W' => W'.cell? ⟨wr.heap.size, 0, none⟩ = some (.int .i64 2) ∧ W'.cell? ⟨wr.heap.size, 1, none⟩ = some (.string x.name) ∧ W'.cell? ⟨wr.heap.size, 2, none⟩ = some (.string x.parent)) (by kernel_rfl) (cells3 CW.out rfl) (fun hHeld => ?_)
          refine wpAnyH_take (i := 0) (oi := ?_) (v := ?_) ?_ (by kernel_rfl) (by kernel_rfl) (by kernel_rfl) ?_ (Or.inl ⟨?_, ?_⟩) hHeld ?_
          rotate_left 2
          · simp only [List.getElem?_toArray, List.getElem?_cons_succ, List.getElem?_cons_zero]; exact rfl
          · exact fun _ _ _ h => h
          · rfl
          · (intro W' hSw; (try dsimp only at hSw); go_simp; try with_reducible rfl)
          try simp only [Act.put, List.setIfInBounds_toArray, List.set_cons_zero, List.set_cons_succ]
          refine wpAnyH_take (i := 1) (oi := ?_) (v := ?_) ?_ (by kernel_rfl) (by kernel_rfl) (by kernel_rfl) ?_ (Or.inl ⟨?_, ?_⟩) hHeld ?_
          rotate_left 2
          · simp only [List.getElem?_toArray, List.getElem?_cons_succ, List.getElem?_cons_zero]; exact rfl
          · exact fun _ _ _ h => h
          · rfl
          · (intro W' hSw; (try dsimp only at hSw); go_simp; try with_reducible rfl)
          try simp only [Act.put, List.setIfInBounds_toArray, List.set_cons_zero, List.set_cons_succ]
          refine wpAnyH_take (i := 2) (oi := ?_) (v := ?_) ?_ (by kernel_rfl) (by kernel_rfl) (by kernel_rfl) ?_ (Or.inl ⟨?_, ?_⟩) hHeld ?_
          rotate_left 2
          · simp only [List.getElem?_toArray, List.getElem?_cons_succ, List.getElem?_cons_zero]; exact rfl
          · exact fun _ _ _ h => h
          · rfl
          · (intro W' hSw; (try dsimp only at hSw); go_simp; try with_reducible rfl)
          try simp only [Act.put, List.setIfInBounds_toArray, List.set_cons_zero, List.set_cons_succ]
          refine wpAnyH_take (i := 3) (oi := ?_) (v := ?_) ?_ (by kernel_rfl) (by kernel_rfl) (by kernel_rfl) ?_ (Or.inl ⟨?_, ?_⟩) hHeld ?_
          rotate_left 2
          · simp only [List.getElem?_toArray, List.getElem?_cons_succ, List.getElem?_cons_zero]; exact rfl
          · exact fun _ _ _ h => h
          · rfl
          · (intro W' hSw; (try dsimp only at hSw); go_simp; try with_reducible rfl)
          try simp only [Act.put, List.setIfInBounds_toArray, List.set_cons_zero, List.set_cons_succ]
          refine wpAnyH_take (i := 4) (oi := ?_) (v := ?_) ?_ (by kernel_rfl) (by kernel_rfl) (by kernel_rfl) ?_ (Or.inl ⟨?_, ?_⟩) hHeld ?_
          rotate_left 2
          · simp only [List.getElem?_toArray, List.getElem?_cons_succ, List.getElem?_cons_zero]; exact rfl
          · exact fun _ _ _ h => h
          · rfl
          · (intro W' hSw; (try dsimp only at hSw); go_simp; try with_reducible rfl)
          try simp only [Act.put, List.setIfInBounds_toArray, List.set_cons_zero, List.set_cons_succ]
          refine wpAnyH_take (i := 6) (oi := ?_) (v := ?_) ?_ (by kernel_rfl) (by kernel_rfl) (by kernel_rfl) ?_ (Or.inl ⟨?_, ?_⟩) hHeld ?_
          rotate_left 2
          · simp only [List.getElem?_toArray, List.getElem?_cons_succ, List.getElem?_cons_zero]; exact rfl
          · exact fun _ _ _ h => h
          · rfl
          · (intro W' hSw; (try dsimp only at hSw); go_simp; try with_reducible rfl)
          try simp only [Act.put, List.setIfInBounds_toArray, List.set_cons_zero, List.set_cons_succ]
          refine wpAnyH_take (i := 7) (oi := ?_) (v := ?_) ?_ (by kernel_rfl) (by kernel_rfl) (by kernel_rfl) ?_ (Or.inl ⟨?_, ?_⟩) hHeld ?_
          rotate_left 2
          · simp only [List.getElem?_toArray, List.getElem?_cons_succ, List.getElem?_cons_zero]; exact rfl
          · exact fun _ _ _ h => h
          · rfl
          · (intro W' hSw; (try dsimp only at hSw); go_simp; try with_reducible rfl)
          try simp only [Act.put, List.setIfInBounds_toArray, List.set_cons_zero, List.set_cons_succ]
          refine wpAnyH_take (i := 8) (oi := ?_) (v := ?_) ?_ (by kernel_rfl) (by kernel_rfl) (by kernel_rfl) ?_ (Or.inl ⟨?_, ?_⟩) hHeld ?_
          rotate_left 2
          · simp only [List.getElem?_toArray, List.getElem?_cons_succ, List.getElem?_cons_zero]; exact rfl
          · exact fun _ _ _ h => h
          · rfl
          · (intro W' hSw; (try dsimp only at hSw); go_simp; try with_reducible rfl)
          try simp only [Act.put, List.setIfInBounds_toArray, List.set_cons_zero, List.set_cons_succ]
          refine wpAnyH_take (i := 9) (oi := ?_) (v := ?_) ?_ (by kernel_rfl) (by kernel_rfl) (by kernel_rfl) ?_ (Or.inl ⟨?_, ?_⟩) hHeld ?_
          rotate_left 2
          · simp only [List.getElem?_toArray, List.getElem?_cons_succ, List.getElem?_cons_zero]; exact rfl
          · exact fun _ _ _ h => h
          · rfl
          · (intro W' hSw; (try dsimp only at hSw); go_simp; try with_reducible rfl)
          try simp only [Act.put, List.setIfInBounds_toArray, List.set_cons_zero, List.set_cons_succ]
          refine wpAnyH_take (i := 10) (oi := ?_) (v := ?_) ?_ (by kernel_rfl) (by kernel_rfl) (by kernel_rfl) ?_ (Or.inl ⟨?_, ?_⟩) hHeld ?_
          rotate_left 2
          · simp only [List.getElem?_toArray, List.getElem?_cons_succ, List.getElem?_cons_zero]; exact rfl
          · exact fun _ _ _ h => h
          · rfl
          · (intro W' hSw; (try dsimp only at hSw); go_simp; try with_reducible rfl)
          try simp only [Act.put, List.setIfInBounds_toArray, List.set_cons_zero, List.set_cons_succ]
          have hbm : wr.heap.size ≠ m := by have := HDS.out.tree.lt m (.inr rfl); omega
          have hbr : wr.heap.size ≠ r := by have := blk_lt HDS.out.ref.cell; omega
          have hbv : v.ownBlock ≠ some wr.heap.size := fun e => by have := HDS.out.ref.row.lt _ e; omega
          refine wpAnyH_ready (rs := [5]) (by kernel_rfl) (by simp) ?_
          refine AllReadyH.cons rfl (fun K hK => ?_) AllReadyH.nil
          · go_simp
            go_at_call 10
            refine Calls.mono (move_any HDW.out.tree HI.out hF (by omega) x.name x.parent hns hps) ?_
            rintro e wa ⟨ka, rfl, hka, hT⟩
            have HKA := Lib.hid hka
            clear hka
            have hz2 : W.drew.heap.size ≤ wa.heap.size := hT.2.size
            have hb1 : wa.heap[wr.heap.size]? = W.heap[wr.heap.size]? := hT.2.block _ hzw hbm
            obtain ⟨n2, D2, hn2, hA⟩ := HDW.out.stepT hT
            have HA := Lib.hid hA
            clear hT hA
            refine hK.out _ _ (cells3 CW.out hb1) (fun hHeld => ?_)
            clear hK K
            try simp only [Act.put, List.setIfInBounds_toArray, List.set_cons_zero, List.set_cons_succ]
            refine wpAnyH_ready (rs := [11]) (by kernel_rfl) (by simp) ?_
            refine AllReadyH.cons rfl (fun K hK => ?_) AllReadyH.nil
            go_simp
            go_at_call 11
            refine Calls.mono (refmove_any HA.out.ref HI.out x.name x.parent hps) ?_
            rintro e wz ⟨kb, rfl, hkb, hR⟩
            have HKB := Lib.hid hkb
            clear hkb
            have hb2 : wz.heap[wr.heap.size]? = W.heap[wr.heap.size]? := (hR.choose_spec.choose_spec.2.2.2.2.block _ (by omega) (fun e => e.elim hbr hbv)).trans hb1
            obtain ⟨v2, N2, hf2, hN2, hB⟩ := HA.out.stepR hR
            rw [moveF_one HKB.out HKA.out] at hf2
            have HI2 := Lib.hid (show Inv (fN N2) from hf2 ▸ (move_keeps HI.out hF HKA.out hns hps).1)
            have HD2 := Lib.hid (show DHid w wz t m r v2 (.slice A5 (strs nm).length c5) n2 N2 nm from ⟨D2, by rw [hf2]; exact hB⟩)
            clear hR hB hf2 hHeld
            refine hK.out _ _ (cells3 CW.out hb2) (fun hHeld => ?_)
            clear hK K hb1 hb2
            try simp only [Act.put, List.setIfInBounds_toArray, List.set_cons_zero, List.set_cons_succ]
            refine wpAnyH_take (i := 12) (oi := ?_) (v := ?_) ?_ (by kernel_rfl) (by kernel_rfl) (by kernel_rfl) ?_ (Or.inl ⟨?_, ?_⟩) hHeld ?_
            rotate_left 2
            · simp only [List.getElem?_toArray, List.getElem?_cons_succ, List.getElem?_cons_zero]; exact rfl
            · exact fun _ _ _ h => h
            · rfl
            · (intro W' hSw; (try dsimp only at hSw); go_simp; try with_reducible rfl)
            try simp only [Act.put, List.setIfInBounds_toArray, List.set_cons_zero, List.set_cons_succ]
            refine wpAnyH_take (i := 13) (oi := ?_) (v := ?_) ?_ (by kernel_rfl) (by kernel_rfl) (by kernel_rfl) ?_ (Or.inl ⟨?_, ?_⟩) hHeld ?_
            rotate_left 2
            · simp only [List.getElem?_toArray, List.getElem?_cons_succ, List.getElem?_cons_zero]; exact rfl
            · exact fun _ _ _ h => h
            · rfl
            · (intro W' hSw; (try dsimp only at hSw); go_simp; try with_reducible rfl)
            try simp only [Act.put, List.setIfInBounds_toArray, List.set_cons_zero, List.set_cons_succ]
            refine wpAnyH_done (by kernel_rfl) ?_ _
            obtain ⟨C0, C1, C2⟩ := hHeld
            rw [moveE_one HKA.out HKB.out]
            have hwb : wr.heap.size < wz.heap.size := cell_lt C1
            clear C0 C2 HWS hzw
            go_wp2_with fail
            go_quiet ((first
              | (go_at_call 14; exact Calls.quiet_of_same ((name_any x.name (by omega) _).mono fun e w' h => ⟨h.1, h.2.symm⟩))
              | (go_at_call 15; exact Calls.quiet_of_same ((refname_any x.name (by omega) _).mono fun e w' h => ⟨h.1, h.2.symm⟩))))
            obtain ⟨D9, hd9⟩ := HD2.out
            have HD9 := Lib.hid (fun q => hd9.on (below_drewN (Below.refl _ wz) q))
            clear hd9
            go_wp2_with (at_builtin; (refine wpList_rowC _ [.string x.name] rfl (.tmp 82) (.tmp 85) 31 rfl istring _ 16 Try.underlying31 histring hzstring h1string h2string rfl (by decide) (by decide) _ _ rfl (HD9.out _).row (by rw [strs_len]; omega) rfl (by intro u hu; simp at hu; subst hu; rfl) _ _ rfl rfl ?_); intro v3 w5 r3 g3 o3; have HD5 := Lib.hid (show DHid w w5 t m r v2 v3 n2 N2 (nm ++ [x.name]) from ⟨D9, (HD9.out _).stepX (by rw [show strs (nm ++ [x.name]) = strs nm ++ [[.string x.name]] by simp [strs]]; exact r3) g3 o3⟩); clear r3 g3 o3)
            go_roundw
            case rel => exact ⟨k + 1, n2, v2, N2, nm ++ [x.name], by omega, by go_num, by omega, by omega, by simp; omega, names_more HNM.out hsz.1, HI2, HD5⟩
            case measure => simp [RowKit.intOf]; omega
        by_cases k3 : x.kind = 3
        · rw [k3] at x0
          go_wp2_with fail
          obtain ⟨W, hW, cW, fW, BW, qW⟩ := boxed wr #[.int .i64 3, .string x.name, .string x.parent] 33
          rw [hW]
          have CW := Lib.hid cW
          have HWS := Lib.hid (show wr.heap.size < W.heap.size from qW)
          have HDW := Lib.hid (HDS.out.on BW.drew)
          have hzw : wr.heap.size < W.drew.heap.size := qW
          clear x0 x1 x2 hW cW fW BW qW
          refine wp_region_held_drew (S := fun W' => W'.cell? ⟨wr.heap.size, 0, none⟩ = some (.int .i64 3) ∧ W'.cell? ⟨wr.heap.size, 1, none⟩ = some (.string x.name) ∧ W'.cell? ⟨wr.heap.size, 2, none⟩ = some (.string x.parent)) (by kernel_rfl) (cells3 CW.out rfl) (fun hHeld => ?_)
          refine wpAnyH_take (i := 0) (oi := ?_) (v := ?_) ?_ (by kernel_rfl) (by kernel_rfl) (by kernel_rfl) ?_ (Or.inl ⟨?_, ?_⟩) hHeld ?_
          rotate_left 2
          · simp only [List.getElem?_toArray, List.getElem?_cons_succ, List.getElem?_cons_zero]; exact rfl
          · exact fun _ _ _ h => h
          · rfl
          · (intro W' hSw; (try dsimp only at hSw); go_simp; try with_reducible rfl)
          try simp only [Act.put, List.setIfInBounds_toArray, List.set_cons_zero, List.set_cons_succ]
          refine wpAnyH_take (i := 1) (oi := ?_) (v := ?_) ?_ (by kernel_rfl) (by kernel_rfl) (by kernel_rfl) ?_ (Or.inl ⟨?_, ?_⟩) hHeld ?_
          rotate_left 2
          · simp only [List.getElem?_toArray, List.getElem?_cons_succ, List.getElem?_cons_zero]; exact rfl
          · exact fun _ _ _ h => h
          · rfl
          · (intro W' hSw; (try dsimp only at hSw); go_simp; try with_reducible rfl)
          try simp only [Act.put, List.setIfInBounds_toArray, List.set_cons_zero, List.set_cons_succ]
          refine wpAnyH_take (i := 2) (oi := ?_) (v := ?_) ?_ (by kernel_rfl) (by kernel_rfl) (by kernel_rfl) ?_ (Or.inl ⟨?_, ?_⟩) hHeld ?_
          rotate_left 2
          · simp only [List.getElem?_toArray, List.getElem?_cons_succ, List.getElem?_cons_zero]; exact rfl
          · exact fun _ _ _ h => h
          · rfl
          · (intro W' hSw; (try dsimp only at hSw); go_simp; try with_reducible rfl)
          try simp only [Act.put, List.setIfInBounds_toArray, List.set_cons_zero, List.set_cons_succ]
          refine wpAnyH_take (i := 4) (oi := ?_) (v := ?_) ?_ (by kernel_rfl) (by kernel_rfl) (by kernel_rfl) ?_ (Or.inl ⟨?_, ?_⟩) hHeld ?_
          rotate_left 2
          · simp only [List.getElem?_toArray, List.getElem?_cons_succ, List.getElem?_cons_zero]; exact rfl
          · exact fun _ _ _ h => h
          · rfl
          · (intro W' hSw; (try dsimp only at hSw); go_simp; try with_reducible rfl)
          try simp only [Act.put, List.setIfInBounds_toArray, List.set_cons_zero, List.set_cons_succ]
          refine wpAnyH_take (i := 5) (oi := ?_) (v := ?_) ?_ (by kernel_rfl) (by kernel_rfl) (by kernel_rfl) ?_ (Or.inl ⟨?_, ?_⟩) hHeld ?_
          rotate_left 2
          · simp only [List.getElem?_toArray, List.getElem?_cons_succ, List.getElem?_cons_zero]; exact rfl
          · exact fun _ _ _ h => h
          · rfl
          · (intro W' hSw; (try dsimp only at hSw); go_simp; try with_reducible rfl)
          try simp only [Act.put, List.setIfInBounds_toArray, List.set_cons_zero, List.set_cons_succ]
          refine wpAnyH_take (i := 6) (oi := ?_) (v := ?_) ?_ (by kernel_rfl) (by kernel_rfl) (by kernel_rfl) ?_ (Or.inl ⟨?_, ?_⟩) hHeld ?_
          rotate_left 2
          · simp only [List.getElem?_toArray, List.getElem?_cons_succ, List.getElem?_cons_zero]; exact rfl
          · exact fun _ _ _ h => h
          · rfl
          · (intro W' hSw; (try dsimp only at hSw); go_simp; try with_reducible rfl)
          try simp only [Act.put, List.setIfInBounds_toArray, List.set_cons_zero, List.set_cons_succ]
          have hbm : wr.heap.size ≠ m := by have := HDS.out.tree.lt m (.inr rfl); omega
          have hbr : wr.heap.size ≠ r := by have := blk_lt HDS.out.ref.cell; omega
          have hbv : v.ownBlock ≠ some wr.heap.size := fun e => by have := HDS.out.ref.row.lt _ e; omega
          refine wpAnyH_ready (rs := [3]) (by kernel_rfl) (by simp) ?_
          refine AllReadyH.cons rfl (fun K hK => ?_) AllReadyH.nil
          · go_simp
            go_at_call 12
            refine Calls.mono (remove_any HDW.out.tree HI.out hF (by omega) x.name hns) ?_
            rintro e wa ⟨ka, rfl, hka, hT⟩
            have HKA := Lib.hid hka
            clear hka
            have hz2 : W.drew.heap.size ≤ wa.heap.size := hT.2.size
            have hb1 : wa.heap[wr.heap.size]? = W.heap[wr.heap.size]? := hT.2.block _ hzw hbm
            obtain ⟨n2, D2, hn2, hA⟩ := HDW.out.stepT hT
            have HA := Lib.hid hA
            clear hT hA
            refine hK.out _ _ (cells3 CW.out hb1) (fun hHeld => ?_)
            clear hK K
            try simp only [Act.put, List.setIfInBounds_toArray, List.set_cons_zero, List.set_cons_succ]
            refine wpAnyH_ready (rs := [7]) (by kernel_rfl) (by simp) ?_
            refine AllReadyH.cons rfl (fun K hK => ?_) AllReadyH.nil
            go_simp
            go_at_call 13
            refine Calls.mono (refremove_any HA.out.ref HI.out x.name) ?_
            rintro e wz ⟨kb, rfl, hkb, hR⟩
            have HKB := Lib.hid hkb
            clear hkb
            have hb2 : wz.heap[wr.heap.size]? = W.heap[wr.heap.size]? := (hR.choose_spec.choose_spec.2.2.2.2.block _ (by omega) (fun e => e.elim hbr hbv)).trans hb1
            obtain ⟨v2, N2, hf2, hN2, hB⟩ := HA.out.stepR hR
            rw [rmF_one HKB.out HKA.out] at hf2
            have HI2 := Lib.hid (show Inv (fN N2) from hf2 ▸ (rm_keeps HI.out hF HKA.out hns).1)
            have HD2 := Lib.hid (show DHid w wz t m r v2 (.slice A5 (strs nm).length c5) n2 N2 nm from ⟨D2, by rw [hf2]; exact hB⟩)
            clear hR hB hf2 hHeld
            refine hK.out _ _ (cells3 CW.out hb2) (fun hHeld => ?_)
            clear hK K hb1 hb2
            try simp only [Act.put, List.setIfInBounds_toArray, List.set_cons_zero, List.set_cons_succ]
            refine wpAnyH_take (i := 8) (oi := ?_) (v := ?_) ?_ (by kernel_rfl) (by kernel_rfl) (by kernel_rfl) ?_ (Or.inl ⟨?_, ?_⟩) hHeld ?_
            rotate_left 2
            · simp only [List.getElem?_toArray, List.getElem?_cons_succ, List.getElem?_cons_zero]; exact rfl
            · exact fun _ _ _ h => h
            · rfl
            · (intro W' hSw; (try dsimp only at hSw); go_simp; try with_reducible rfl)
            try simp only [Act.put, List.setIfInBounds_toArray, List.set_cons_zero, List.set_cons_succ]
            refine wpAnyH_take (i := 9) (oi := ?_) (v := ?_) ?_ (by kernel_rfl) (by kernel_rfl) (by kernel_rfl) ?_ (Or.inl ⟨?_, ?_⟩) hHeld ?_
            rotate_left 2
            · simp only [List.getElem?_toArray, List.getElem?_cons_succ, List.getElem?_cons_zero]; exact rfl
            · exact fun _ _ _ h => h
            · rfl
            · (intro W' hSw; (try dsimp only at hSw); go_simp; try with_reducible rfl)
            try simp only [Act.put, List.setIfInBounds_toArray, List.set_cons_zero, List.set_cons_succ]
            refine wpAnyH_done (by kernel_rfl) ?_ _
            obtain ⟨C0, C1, C2⟩ := hHeld
            rw [rmE_one HKA.out HKB.out]
            have hwb : wr.heap.size < wz.heap.size := cell_lt C1
            clear C0 C2 HWS hzw
            go_wp2_with fail
            go_quiet ((first
              | (go_at_call 14; exact Calls.quiet_of_same ((name_any x.name (by omega) _).mono fun e w' h => ⟨h.1, h.2.symm⟩))
              | (go_at_call 15; exact Calls.quiet_of_same ((refname_any x.name (by omega) _).mono fun e w' h => ⟨h.1, h.2.symm⟩))))
            obtain ⟨D9, hd9⟩ := HD2.out
            have HD9 := Lib.hid (fun q => hd9.on (below_drewN (Below.refl _ wz) q))
            clear hd9
            go_wp2_with (at_builtin; (refine wpList_rowC _ [.string x.name] rfl (.tmp 82) (.tmp 85) 31 rfl istring _ 16 Try.underlying31 histring hzstring h1string h2string rfl (by decide) (by decide) _ _ rfl (HD9.out _).row (by rw [strs_len]; omega) rfl (by intro u hu; simp at hu; subst hu; rfl) _ _ rfl rfl ?_); intro v3 w5 r3 g3 o3; have HD5 := Lib.hid (show DHid w w5 t m r v2 v3 n2 N2 (nm ++ [x.name]) from ⟨D9, (HD9.out _).stepX (by rw [show strs (nm ++ [x.name]) = strs nm ++ [[.string x.name]] by simp [strs]]; exact r3) g3 o3⟩); clear r3 g3 o3)
            go_roundw
            case rel => exact ⟨k + 1, n2, v2, N2, nm ++ [x.name], by omega, by go_num, by omega, by omega, by simp; omega, names_more HNM.out hsz.1, HI2, HD5⟩
            case measure => simp [RowKit.intOf]; omega
        · go_wp2_with fail
          obtain ⟨wz, hW, cW, fW, BW, qW⟩ := boxed wr #[.int .i64 x.kind, .string x.name, .string x.parent] 33
          rw [hW]
          have C1 := cW 1 _ rfl
          have HD2 := Lib.hid (show DHid w wz t m r v (.slice A5 (strs nm).length c5) n N nm from ⟨D, HDS.out.on BW⟩)
          have HI2 := Lib.hid HI.out
          clear x0 x1 x2 hW cW fW BW qW
          have hwb : wr.heap.size < wz.heap.size := cell_lt C1
          go_quiet ((first
            | (go_at_call 14; exact Calls.quiet_of_same ((name_any x.name (by omega) _).mono fun e w' h => ⟨h.1, h.2.symm⟩))
            | (go_at_call 15; exact Calls.quiet_of_same ((refname_any x.name (by omega) _).mono fun e w' h => ⟨h.1, h.2.symm⟩))))
          obtain ⟨D9, hd9⟩ := HD2.out
          have HD9 := Lib.hid (fun q => hd9.on (below_drewN (Below.refl _ wz) q))
          clear hd9
          go_wp2_with (at_builtin; (refine wpList_rowC _ [.string x.name] rfl (.tmp 82) (.tmp 85) 31 rfl istring _ 16 Try.underlying31 histring hzstring h1string h2string rfl (by decide) (by decide) _ _ rfl (HD9.out _).row (by rw [strs_len]; omega) rfl (by intro u hu; simp at hu; subst hu; rfl) _ _ rfl rfl ?_); intro v3 w5 r3 g3 o3; have HD5 := Lib.hid (show DHid w w5 t m r v v3 n N (nm ++ [x.name]) from ⟨D9, (HD9.out _).stepX (by rw [show strs (nm ++ [x.name]) = strs nm ++ [[.string x.name]] by simp [strs]]; exact r3) g3 o3⟩); clear r3 g3 o3)
          go_roundw
          case rel => exact ⟨k + 1, n, v, N, nm ++ [x.name], by omega, by go_num, by omega, by omega, by simp; omega, names_more HNM.out hsz.1, HI2, HD5⟩
          case measure => simp [RowKit.intOf]; omega
      · obtain rfl : k = L.length := by omega
        obtain ⟨D, hds⟩ := HD.out
        obtain ⟨A5, c5, rfl, _⟩ := hds.row.shape
        have hF := hds.ref.smallF
        have HDS := Lib.hid (fun (W : World) (hW : Below wr.heap.size wr W) => hds.on hW)
        have HSL := Lib.hid (strs_sl hds.row (by omega) fun y hy => by have := HNM.out y hy; omega)
        rw [strs_len]
        rw [strs_len] at HSL
        obtain ⟨A6, c6, he6, hl6, hc6, _, hs6⟩ := HSL.out
        simp only [Value.slice.injEq] at he6
        obtain ⟨rfl, _, rfl⟩ := he6
        unfold maxLen at hc6
        have hnl : nm.length ≤ 41 := by omega
        clear hds HSL HD hlt hnm
        go_wp2
        go_loopw [90] (fun i wx => ∃ q : Nat, q ≤ nm.length ∧ i = .int .i64 q ∧ Below wr.heap.size wr wx) (fun i _ => nm.length - (RowKit.intOf i).toNat)
        case atStart => exact ⟨0, by omega, by go_num, by go_grown⟩
        case round =>
          obtain ⟨q, hq, rfl, hbel⟩ := hrel
          have HX0 := Lib.hid hbel
          by_cases hlq : q < nm.length
          · obtain ⟨y, b6, o6, hy, _, hym, rfl, y0⟩ := get_str hs6 hlq (kept_of hbel)
            have hys := HNM.out y hym
            have hys1 : y.size ≤ 1000 := by omega
            clear hy hym hbel
            cases hl : liveB (fN N) y with
            | true =>
              have HL := Lib.hid hl
              clear hl
              have hp := parent_any (HDS.out _ HX0.out).tree y hys1
              rw [HL.out] at hp
              rw [if_pos rfl] at hp
              have HP := Lib.hid hp
              clear hp
              go_wp2_with fail
              refine Calls.mono HP.out ?_
              rintro e w1 ⟨rfl, b1⟩
              have HX1 := Lib.hid (bel_call HX0.out b1)
              clear b1 y0
              go_wp2_with fail
              refine Calls.mono (refat_any (HDS.out _ HX1.out).ref y) ?_
              rintro e w2 ⟨⟨i2, rfl, ha⟩, hw⟩
              obtain rfl := hw.symm
              clear hw
              obtain ⟨j, nn, rfl, hn, hnm, hgn⟩ := ha.on HL.out
              have hjl : (j : Int) < (N.length : Int) := by have := (List.getElem?_eq_some_iff.1 hn).1; omega
              have hj0 : decide ((0 : Int) ≤ (j : Int)) = true := decide_eq_true (by omega)
              have HNN := Lib.hid hn
              have hpe : ((parF (fN N) y).toList == nn.parent.toList) = true := eqS_iff.2 (by rw [← hnm]; exact par_mem (HDS.out _ HX1.out).ref.uniq (List.mem_of_getElem? hn))
              obtain ⟨Av, cv, hv, hcv⟩ := (HDS.out _ HX1.out).ref.shape
              subst hv
              clear ha hn hnm hgn
              have hh := has_any (HDS.out _ HX1.out).tree y hys1
              rw [HL.out] at hh
              have HH := Lib.hid hh
              clear hh
              go_wp2_with fail
              refine Calls.mono HH.out ?_
              rintro e w3 ⟨rfl, b3⟩
              have HX3 := Lib.hid (bel_call HX1.out b3)
              clear b3
              obtain ⟨gn, on, rfl, x0, x1, x2, _⟩ := (HDS.out _ HX3.out).ref.node HNN.out
              have hrc := (blk_cells (HDS.out _ HX3.out).ref.cell).1 0 _ rfl
              go_wp2_with fail
              refine Calls.mono (chain_any (HDS.out _ HX3.out).tree HI.out hF.par y hys1) ?_
              rintro e w4 ⟨⟨u4, rfl, S4⟩, b4⟩
              have HS4 := Lib.hid S4
              have HX4 := Lib.hid (bel_call HX3.out b4)
              clear S4 b4 x0 x1 x2 hrc
              go_wp2_with fail
              refine Calls.mono (refchain_any (HDS.out _ HX4.out).ref HI.out y) ?_
              rintro e w5 ⟨⟨u5, rfl, S5⟩, b5⟩
              have HS5 := Lib.hid S5
              have HS4' := Lib.hid (HS4.out.keep (S' := fun _ => True) rStr_ok (by decide) (kept_of b5))
              have HX5 := Lib.hid (bel_call HX4.out b5)
              clear S5 b5
              go_wp2_with fail
              refine Calls.mono (same_any _ _ _ _ w5 (fun _ => True) (fun _ => True) HS4'.out HS5.out rfl) ?_
              rintro e w6 ⟨rfl, b6⟩
              have HX6 := Lib.hid (bel_call HX5.out b6)
              clear b6 HS4 HS5 HS4'
              go_wp2_with fail
              refine Calls.mono (under_any (HDS.out _ HX6.out).tree HI.out hF (by omega) y) ?_
              rintro e w7 ⟨⟨u7, R7, rfl, S7, I7⟩, b7⟩
              have HS7 := Lib.hid S7
              have HI7 := Lib.hid I7
              have HX7 := Lib.hid (bel_call HX6.out b7)
              clear S7 I7 b7
              go_wp2_with fail
              refine Calls.mono (refunder_any (HDS.out _ HX7.out).ref HI.out y) ?_
              rintro e w8 ⟨⟨u8, R8, rfl, S8, I8⟩, b8⟩
              have HS8 := Lib.hid S8
              have HS7' := Lib.hid (HS7.out.keep (S' := fun _ => True) rStr_ok (by decide) (kept_of b8))
              have HE8 := Lib.hid (HI7.out.ext I8 fun _ => Iff.rfl)
              have HX8 := Lib.hid (bel_call HX7.out b8)
              clear S8 I8 b8
              go_wp2_with fail
              refine Calls.mono (same_any _ _ _ _ w8 (fun _ => True) (fun _ => True) HS7'.out HS8.out HE8.out) ?_
              rintro e w9 ⟨rfl, b9⟩
              have HX9 := Lib.hid (bel_call HX8.out b9)
              clear b9 HS7 HS8 HS7' HI7 HE8
              go_wp2_with fail
              refine Calls.mono (children_any (HDS.out _ HX9.out).tree HI.out hF (by omega) y hys1) ?_
              rintro e wA ⟨⟨uA, RA, rfl, SA, IA⟩, bA⟩
              have HSA := Lib.hid SA
              have HIA := Lib.hid IA
              have HXA := Lib.hid (bel_call HX9.out bA)
              clear SA IA bA
              go_wp2_with fail
              refine Calls.mono (refchildren_any (HDS.out _ HXA.out).ref HI.out y) ?_
              rintro e wB ⟨⟨uB, RB, rfl, SB, IB⟩, bB⟩
              have HSB := Lib.hid SB
              have HSA' := Lib.hid (HSA.out.keep (S' := fun _ => True) rStr_ok (by decide) (kept_of bB))
              have HEB := Lib.hid (HIA.out.ext IB fun _ => Iff.rfl)
              have HXB := Lib.hid (bel_call HXA.out bB)
              clear SB IB bB
              go_wp2_with fail
              refine Calls.mono (same_any _ _ _ _ wB (fun _ => True) (fun _ => True) HSA'.out HSB.out HEB.out) ?_
              rintro e wC ⟨rfl, bC⟩
              have HXC := Lib.hid (bel_call HXB.out bC)
              clear bC HSA HSB HSA' HIA HEB
              go_wp2_with fail
              refine Calls.mono (high_any (HDS.out _ HXC.out).tree HI.out hF (by omega) y hys1) ?_
              rintro e wD ⟨⟨kD, rfl, hD⟩, bD⟩
              have HHD := Lib.hid hD
              have HXD := Lib.hid (bel_call HXC.out bD)
              clear hD bD
              go_wp2_with fail
              refine Calls.mono (refhigh_any HI.out 5 y (HDS.out _ HXD.out).ref (by omega)) ?_
              rintro e wE ⟨⟨kE, rfl, hE⟩, bE⟩
              obtain rfl := hE.one HHD.out
              have HXE := Lib.hid (bel_call HXD.out bE)
              clear hE bE
              go_wp2
              go_roundw
              case rel => exact ⟨q + 1, by omega, by go_num, HXE.out⟩
              case measure => simp [RowKit.intOf]; omega
            | false =>
              have HL := Lib.hid hl
              clear hl
              have hp := parent_any (HDS.out _ HX0.out).tree y hys1
              rw [HL.out] at hp
              rw [if_neg (by decide)] at hp
              have HP := Lib.hid hp
              clear hp
              go_wp2_with fail
              refine Calls.mono HP.out ?_
              rintro e w1 ⟨rfl, b1⟩
              have HX1 := Lib.hid (bel_call HX0.out b1)
              clear b1 y0
              go_wp2_with fail
              refine Calls.mono (refat_any (HDS.out _ HX1.out).ref y) ?_
              rintro e w2 ⟨⟨i2, rfl, ha⟩, hw⟩
              obtain rfl := hw.symm
              clear hw
              obtain rfl := ha.off HL.out
              clear ha
              have hh := has_any (HDS.out _ HX1.out).tree y hys1
              rw [HL.out] at hh
              have HH := Lib.hid hh
              clear hh
              go_wp2_with fail
              refine Calls.mono HH.out ?_
              rintro e w3 ⟨rfl, b3⟩
              have HX3 := Lib.hid (bel_call HX1.out b3)
              clear b3
              go_wp2_with fail
              refine Calls.mono (chain_any (HDS.out _ HX3.out).tree HI.out hF.par y hys1) ?_
              rintro e w4 ⟨⟨u4, rfl, S4⟩, b4⟩
              have HS4 := Lib.hid S4
              have HX4 := Lib.hid (bel_call HX3.out b4)
              clear S4 b4
              go_wp2_with fail
              refine Calls.mono (refchain_any (HDS.out _ HX4.out).ref HI.out y) ?_
              rintro e w5 ⟨⟨u5, rfl, S5⟩, b5⟩
              have HS5 := Lib.hid S5
              have HS4' := Lib.hid (HS4.out.keep (S' := fun _ => True) rStr_ok (by decide) (kept_of b5))
              have HX5 := Lib.hid (bel_call HX4.out b5)
              clear S5 b5
              go_wp2_with fail
              refine Calls.mono (same_any _ _ _ _ w5 (fun _ => True) (fun _ => True) HS4'.out HS5.out rfl) ?_
              rintro e w6 ⟨rfl, b6⟩
              have HX6 := Lib.hid (bel_call HX5.out b6)
              clear b6 HS4 HS5 HS4'
              go_wp2_with fail
              refine Calls.mono (under_any (HDS.out _ HX6.out).tree HI.out hF (by omega) y) ?_
              rintro e w7 ⟨⟨u7, R7, rfl, S7, I7⟩, b7⟩
              have HS7 := Lib.hid S7
              have HI7 := Lib.hid I7
              have HX7 := Lib.hid (bel_call HX6.out b7)
              clear S7 I7 b7
              go_wp2_with fail
              refine Calls.mono (refunder_any (HDS.out _ HX7.out).ref HI.out y) ?_
              rintro e w8 ⟨⟨u8, R8, rfl, S8, I8⟩, b8⟩
              have HS8 := Lib.hid S8
              have HS7' := Lib.hid (HS7.out.keep (S' := fun _ => True) rStr_ok (by decide) (kept_of b8))
              have HE8 := Lib.hid (HI7.out.ext I8 fun _ => Iff.rfl)
              have HX8 := Lib.hid (bel_call HX7.out b8)
              clear S8 I8 b8
              go_wp2_with fail
              refine Calls.mono (same_any _ _ _ _ w8 (fun _ => True) (fun _ => True) HS7'.out HS8.out HE8.out) ?_
              rintro e w9 ⟨rfl, b9⟩
              have HX9 := Lib.hid (bel_call HX8.out b9)
              clear b9 HS7 HS8 HS7' HI7 HE8
              go_wp2_with fail
              refine Calls.mono (children_any (HDS.out _ HX9.out).tree HI.out hF (by omega) y hys1) ?_
              rintro e wA ⟨⟨uA, RA, rfl, SA, IA⟩, bA⟩
              have HSA := Lib.hid SA
              have HIA := Lib.hid IA
              have HXA := Lib.hid (bel_call HX9.out bA)
              clear SA IA bA
              go_wp2_with fail
              refine Calls.mono (refchildren_any (HDS.out _ HXA.out).ref HI.out y) ?_
              rintro e wB ⟨⟨uB, RB, rfl, SB, IB⟩, bB⟩
              have HSB := Lib.hid SB
              have HSA' := Lib.hid (HSA.out.keep (S' := fun _ => True) rStr_ok (by decide) (kept_of bB))
              have HEB := Lib.hid (HIA.out.ext IB fun _ => Iff.rfl)
              have HXB := Lib.hid (bel_call HXA.out bB)
              clear SB IB bB
              go_wp2_with fail
              refine Calls.mono (same_any _ _ _ _ wB (fun _ => True) (fun _ => True) HSA'.out HSB.out HEB.out) ?_
              rintro e wC ⟨rfl, bC⟩
              have HXC := Lib.hid (bel_call HXB.out bC)
              clear bC HSA HSB HSA' HIA HEB
              go_wp2_with fail
              refine Calls.mono (high_any (HDS.out _ HXC.out).tree HI.out hF (by omega) y hys1) ?_
              rintro e wD ⟨⟨kD, rfl, hD⟩, bD⟩
              have HHD := Lib.hid hD
              have HXD := Lib.hid (bel_call HXC.out bD)
              clear hD bD
              go_wp2_with fail
              refine Calls.mono (refhigh_any HI.out 5 y (HDS.out _ HXD.out).ref (by omega)) ?_
              rintro e wE ⟨⟨kE, rfl, hE⟩, bE⟩
              obtain rfl := hE.one HHD.out
              have HXE := Lib.hid (bel_call HXD.out bE)
              clear hE bE
              go_wp2
              go_roundw
              case rel => exact ⟨q + 1, by omega, by go_num, HXE.out⟩
              case measure => simp [RowKit.intOf]; omega
          · obtain rfl : q = nm.length := by omega
            go_wp2
            go_ret
            exact ⟨rfl, (HDS.out _ HX0.out).bel⟩

set_option maxRecDepth 100000 in
theorem lifted_treeDoes (os : Os) (started : os.Started) (H : Type) (enc : TypeId × Value → H) :
    ReturnsInHanded {} Try.checked os 3 .any (Rows.treeDoesSpec.pre6 enc Try.prog Try.f3 Rows.treeDoesRow.domain false) (Rows.treeDoesSpec.post enc Try.prog Try.f3 false true false false) := by
  refine returnsInHanded_of_change_sized (C := Try.checked) law_own started (by kernel_rfl) Try.func3
    (ChangeSpec.witness6 (enc := enc) (C := Try.checked) false ⟨#[], #[.slice none 0 0], []⟩ 8 (by kernel_rfl) (by kernel_rfl) (by kernel_rfl) (by kernel_rfl)) ?_
  intro W base args ds gs before hval0 hW hcnd hsz0 _
  have hval : ∀ (j : Nat) t v, Try.f3.params[j]? = some t → args[j]? = some v → Value.okWide Try.prog W .any base t v := hval0
  have hW' := hW
  obtain ⟨p, q, hA0, hV, rfl, hfz, hnd⟩ := hW
  have hA : DataW.TrodAll enc Try.prog W 0 (fun _ => true) true Try.f3.params.toList args.toList ds p := hA0
  rw [Try.params3] at hA hval
  obtain ⟨v0, vs0, d0, ds0, p0, q0, hargs, rfl, rfl, h0, r0⟩ := trodAll_cons hA
  obtain ⟨rfl, rfl, rfl⟩ := trodAll_nil r0
  obtain rfl : args = #[v0] := by cases args; simp_all
  obtain ⟨rfl, rfl⟩ := trodVars_none hV
  clear hargs
  obtain ⟨fu0, hf0⟩ := h0
  obtain ⟨a0, hx0⟩ := rdv_sl Try.underlying22 (rd_slice Try.underlying22 (by kernel_rfl) (of_decide_eq_true (by kernel_rfl)) (by decide) rdTDo (rTDo_ok).len) (hval 0 22 v0 rfl rfl) hf0 (fun q hq => by simpa using List.all_eq_true.1 hsz0 q (DataW.weights_mem_each (j := 0) rfl rfl q hq))
  refine (walk_treeDoes W a0 _ hx0).mono fun e W' ⟨he, hg⟩ => ?_
  subst he
  exact ⟨_, rfl, law_post hW' rfl rfl rfl Try.underlying4 law_laid (by kernel_rfl) hg⟩

theorem treeDoes_holds : Rows.TreeDoesSaid :=
  OpenClaim.holds_of_wide 3 Try.f3 rfl rfl rfl rfl rfl rfl rfl ⟨rfl, rfl, rfl, rfl, rfl⟩ rfl rfl rfl rfl rfl (by kernel_rfl) Try.func3 (by kernel_rfl)
    (of_decide_eq_true (by kernel_rfl)) (by unfold Func.isWrapper; first | (rw [if_pos (by decide +kernel)]; kernel_rfl) | (rw [if_neg (by decide +kernel)]; exact ⟨rfl, rfl⟩))
    (fun os started H enc _ => lifted_treeDoes os started H enc)
end Go.Proofs.Ythcmlakifdoneaa
