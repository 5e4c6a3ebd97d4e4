/- Layer granted: what leads to what: the graph of a state. Conditions: as each theorem says. -/
import Derived.Test.YtocofkccdfaaaaaGrOnes
namespace Go.Proofs.Ytocofkccdfaaaaa
open Go.RowKit Go.Deep Go.Maps

/-- A graph that was made behind w0; none of its blocks is K's. -/
structure GrW (w0 : World) (K : Nat → Prop) (E : List (GN × GN)) (w : World) (t : Nat) : Prop where
  ex : ∃ m B, Gr E m w t B ∧ m ≤ 3 * E.length ∧ ∀ z, B z → w0.heap.size ≤ z ∧ ¬ K z
  kl : ∀ z, K z → z < w.heap.size
  bel : Below w0.heap.size w0 w
section
variable {w0 w w' : World} {K K' : Nat → Prop} {E : List (GN × GN)} {t : Nat}
theorem GrW.to (h : GrW w0 K E w t) (k : Below w.heap.size w w') : GrW w0 K E w' t := by
  obtain ⟨m, B, h1, h2, h3⟩ := h.ex
  exact ⟨⟨m, B, h1.below k, h2, h3⟩, fun z hz => Nat.lt_of_lt_of_le (h.kl z hz) k.size, bel_call h.bel k⟩
theorem GrW.add (h : GrW w0 K E w t) (k : Below w.heap.size w w') (hK : ∀ z, K' z → K z ∨ (w.heap.size ≤ z ∧ z < w'.heap.size)) : GrW w0 K' E w' t := by
  obtain ⟨m, B, h1, h2, h3⟩ := h.ex
  refine ⟨⟨m, B, h1.below k, h2, fun z hz => ⟨(h3 z hz).1, fun hk => ?_⟩⟩, fun z hz => ?_, bel_call h.bel k⟩
  · rcases hK z hk with q | ⟨q, _⟩
    · exact (h3 z hz).2 q
    · have := h1.lt z hz; omega
  · rcases hK z hz with q | ⟨_, q⟩
    · exact Nat.lt_of_lt_of_le (h.kl z q) k.size
    · exact q
theorem GrW.cast {E' : List (GN × GN)} (h : GrW w0 K E w t) (e : E = E') : GrW w0 K E' w t := e ▸ h
theorem Gr.mono {m m' : Nat} {B : Nat → Prop} (h : Gr E m w t B) (hm : m ≤ m') : Gr E m' w t B := by
  obtain ⟨b, e, vn, vo, vs, ns, adj, D, h, rfl⟩ := h
  exact ⟨b, e, vn, vo, vs, ns, adj, D, ⟨h.gs, h.rep.mono hm, Nat.le_trans h.em hm⟩, rfl⟩
theorem edgeW (h : GrW w0 K E w t) (hl : E.length ≤ 1500) (x y : GN) (hx : OkG x) (hy : OkG y) : Calls Try.prog 47 #[.pointer (some ⟨t, 0, none⟩), vG x, vG y] w fun e' w' => (∃ r, e' = .returned (.int .i64 r)) ∧ GrW w0 K (E ++ [(x, y)]) w' t ∧ (∀ z, K z → w'.heap[z]? = w.heap[z]?) ∧ w.heap.size ≤ w'.heap.size := by
  obtain ⟨m, B, hg, hm, hB⟩ := h.ex
  refine Calls.mono (edge_any hg (by omega) x y hx hy) ?_
  rintro e' w' ⟨hr, ⟨B', hg', hB'⟩, hb⟩
  refine ⟨hr, ⟨⟨m + 3, B', hg', by simp; omega, fun z hz => ?_⟩, fun z hz => Nat.lt_of_lt_of_le (h.kl z hz) hb.size, ButB.below h.bel h.bel.size (fun k hk => (hB k hk).1) hb⟩, fun z hz => hb.block z (h.kl z hz) fun hbz => (hB z hbz).2 hz, hb.size⟩
  rcases hB' z hz with q | q
  · exact hB z q
  · exact ⟨Nat.le_trans h.bel.size q, fun hk => by have := h.kl z hk; omega⟩
end
/-- A state whose names are short, of few edges. -/
structure OkSt (st : State) : Prop where
  dep : ∀ p ∈ st.deposits, p.to.size ≤ 1000 ∧ p.frm.size ≤ 1000
  fol : ∀ f ∈ st.folders, f.name.size ≤ 1000 ∧ (∀ w ∈ f.wraps, w.name.size ≤ 1000) ∧ (∀ x ∈ f.links, x.to.size ≤ 1000) ∧ f.wraps.length ≤ 1000
  few : (edges st).length ≤ 1000
  nf : st.folders.length ≤ 1000
theorem okU {s : Nm} (h : s.size ≤ 1000) : OkG (uN s) := ⟨h, (show I64 0 from ⟨by decide, by decide⟩)⟩
theorem okE {s : Nm} {n : Int} (h : s.size ≤ 1000) (hn : I64 n) : OkG (eN s n) := ⟨h, hn⟩
theorem edgesD_take {l : List Pair} {k : Nat} {x : Pair} (hx : l[k]? = some x) : edgesD (l.take (k + 1)) = edgesD (l.take k) ++ [(uN x.to, uN x.frm)] := by
  rw [List.take_add_one, hx]
  simp [edgesD]
theorem len_take {α : Type} (l : List α) (k : Nat) : (l.take k).length ≤ l.length := by
  rw [List.length_take]; omega
theorem edges_d (st : State) : (edgesD st.deposits).length + ((firsts Folder.name st.folders).flatMap edgesF).length = (edges st).length := by
  unfold edges
  rw [List.length_append]
theorem edgesD_len (l : List Pair) : (edgesD l).length = l.length := by simp [edgesD]
theorem flat_take {α β : Type} (f : α → List β) : ∀ {l : List α} {k : Nat} {x : α}, l[k]? = some x → ((l.take k).flatMap f).length + (f x).length ≤ (l.flatMap f).length
  | [], k, x, h => by simp at h
  | y :: l, 0, x, h => by
    obtain rfl : y = x := by simpa using h
    simp [List.flatMap_cons]
  | y :: l, k + 1, x, h => by
    have := flat_take f (l := l) (k := k) (x := x) (by simpa using h)
    simp only [List.take_succ_cons, List.flatMap_cons, List.length_append]
    omega
theorem edgesE_len (s : Nm) (n : Nat) : (edgesE s n).length = n := by simp [edgesE]
theorem edgesW_len (f : Folder) (l : List Wrap) : (edgesW f l).length = l.length := by simp [edgesW]
theorem edgesL_len (f : Folder) (l : List Link) : (edgesL f l).length = l.length := by simp [edgesL]
theorem edgesF_len (f : Folder) : (edgesF f).length = f.epochs.length - 1 + ((firsts Wrap.name f.wraps).length + f.links.length) := by
  unfold edgesF
  rw [List.length_append, List.length_append, edgesE_len, edgesW_len, edgesL_len]
theorem edgesE_succ (s : Nm) (n : Nat) : edgesE s (n + 1) = edgesE s n ++ [(eN s ((n : Int) + 2), eN s ((n : Int) + 1))] := by
  unfold edgesE
  rw [List.range_succ, List.map_append]
  rfl
theorem edgesW_take (f : Folder) {l : List Wrap} {k : Nat} {x : Wrap} (hx : l[k]? = some x) : edgesW f (l.take (k + 1)) = edgesW f (l.take k) ++ [(uN x.name, eN f.name (wrapE f.epochs x))] := by
  rw [List.take_add_one, hx]
  simp [edgesW]
theorem edgesL_take (f : Folder) {l : List Link} {k : Nat} {x : Link} (hx : l[k]? = some x) : edgesL f (l.take (k + 1)) = edgesL f (l.take k) ++ [(eN x.to x.seq, eN f.name x.epoch)] := by
  rw [List.take_add_one, hx]
  simp [edgesL]
/-- What was handed over is as it was, whatever was made since. -/
theorem stay {w w0 wq W : World} {cs : List Value} {x : Folder} (h : rFolder (fun z => z < w.heap.size) wq cs x) (h0 : w.heap.size ≤ w0.heap.size) (hq : Below w0.heap.size w0 wq) (hW : Below w0.heap.size w0 W) : rFolder (fun z => z < w.heap.size) W cs x :=
  rFolder_keep h fun b hb _ => ⟨hb, (hW.block b (Nat.lt_of_lt_of_le hb h0)).trans (hq.block b (Nat.lt_of_lt_of_le hb h0)).symm⟩
theorem links_at {S : Nat → Prop} {w : World} {x : Folder} {a b c d e f : Value} {A : Option Addr} {n c6 : Nat} (h : rFolder S w [a, b, c, d, e, f, .slice A n c6] x) : SlAt 3 rLink S w A x.links := by
  obtain ⟨v2, v3, v4, v5, v6, e, _, _, _, _, _, _, h7⟩ := h
  simp only [List.cons.injEq] at e
  obtain ⟨_, _, _, _, _, _, rfl, _⟩ := e
  obtain ⟨A', c', e, _, _, _, hs⟩ := h7
  cases e
  exact hs
theorem wrapE_ok {l : List Epoch} {w : Wrap} (hl : l.length ≤ 1001) (h : I64 w.epoch) : I64 (wrapE l w) := by
  unfold wrapE
  split
  · by_cases h2 : 1 ≤ w.epoch ∧ w.epoch ≤ l.length
    · have := lastOf_le h2.1 h2.2
      unfold I64
      omega
    · rw [lastOf_out h2]; exact h
  · exact h
set_option maxHeartbeats 4000000 in
set_option maxRecDepth 100000 in
theorem graph_any (st : State) (cs : List Value) (w : World) (S : Nat → Prop) (h : rState S w cs st) (ok : OkSt st) : Calls Try.prog 35 #[.agg cs.toArray] w fun e w' => (∃ t B, e = .returned (.pointer (some ⟨t, 0, none⟩)) ∧ Gr (edges st) 3000 w' t B ∧ ∀ z, B z → w.heap.size ≤ z) ∧ Below w.heap.size w w' := by
  have hR0 := rState_keep h (show Kept S (fun z => z < w.heap.size) w w from fun b _ hl => ⟨hl, rfl⟩)
  clear h
  obtain ⟨st_A1, st_c1, st_A2, st_c2, st_A3, st_c3, rfl, st_turn_ok, st_users_l, st_users_m, st_users_n, st_users_s, st_deposits_l, st_deposits_m, st_deposits_n, st_deposits_s, st_folders_l, st_folders_m, st_folders_n, st_folders_s⟩ := open_State hR0
  obtain ⟨w0, hw0, cw0, fw0, Bw0, qw0⟩ := boxed w #[.int .i64 st.turn, .slice st_A1 st.users.length st_c1, .slice st_A2 st.deposits.length st_c2, .slice st_A3 st.folders.length st_c3] 26
  have HW0 := Lib.hid hw0
  have HC0 := Lib.hid cw0
  have HB0 := Lib.hid Bw0
  have HOK := Lib.hid ok
  have x2 := cw0 2 _ rfl
  clear ok cw0 fw0 Bw0
  go_enter Try.func35, Try.ntmps35
  go_wp2_with fail
  clear hw0
  refine Calls.mono (new_any _) ?_
  rintro e w1 ⟨⟨t, b, rfl, hg, ht, hb⟩, B1⟩
  have HG1 := Lib.hid (show GrW w0 (fun _ => False) (edgesD (st.deposits.take 0)) w1 t from ⟨⟨0, _, ⟨b, 0, _, _, _, _, _, _, hg, rfl⟩, by simp, fun z hz => ⟨by
    rcases hz with rfl | rfl | h | h | ⟨v, hv, h⟩
    · exact ht
    · exact hb
    · cases h
    · cases h
    · simp at hv, fun h => h⟩⟩, fun z h => h.elim, B1⟩)
  have x2 := (B1.cell (p := ⟨w.heap.size, 2, none⟩) qw0).trans x2
  clear hg ht hb B1
  go_wp2
  clear x2
  go_loopw [18] (fun i wr => ∃ k : Nat, k ≤ st.deposits.length ∧ i = .int .i64 k ∧ Hid (GrW w0 (fun _ => False) (edgesD (st.deposits.take k)) wr t)) (fun i _ => st.deposits.length - (RowKit.intOf i).toNat)
  case atStart => exact ⟨0, by omega, by go_num, HG1⟩
  case round =>
    clear HG1
    obtain ⟨k, hk, rfl, HG⟩ := hrel
    by_cases hlt : k < st.deposits.length
    · obtain ⟨x, hx⟩ : ∃ x, st.deposits[k]? = some x := ⟨_, List.getElem?_eq_getElem hlt⟩
      obtain ⟨b, o, ys, hA, hbl, hR, hcz⟩ := SlAt.elem st_deposits_s hx (by decide) (bel_call HB0.out HG.out.bel)
      obtain ⟨rfl, x_frm_le, x_to_le⟩ := open_Pair hR
      have u0 := hcz 0 _ rfl
      have u1 := hcz 1 _ rfl
      rw [Nat.add_zero] at u0
      subst hA
      have hki : (k : Int) < (st.deposits.length : Int) := by omega
      clear hcz
      have HX := Lib.hid hx
      have hdl := HOK.out.few
      have hdd := edges_d st
      rw [edgesD_len] at hdd
      have HEL := Lib.hid (show (edgesD (st.deposits.take k)).length ≤ 1500 by rw [edgesD_len]; have := len_take st.deposits k; omega)
      have HDP := Lib.hid (HOK.out.dep x (List.mem_of_getElem? hx))
      obtain ⟨w2, hw2, cw2, fw2, Bw2, qw2⟩ := boxed wr #[.string x.frm, .string x.to] 32
      have HGE := Lib.hid (show GrW w0 (fun z => z = wr.heap.size) (edgesD (st.deposits.take k)) w2 t from HG.out.add Bw2 fun z hz => .inr ⟨Nat.le_of_eq hz.symm, hz ▸ qw2⟩)
      have HCW := Lib.hid cw2
      clear hx hdl hdd cw2 fw2 Bw2 HG
      go_wp2
      have HSP : ∀ W : World, (∀ z, (fun z => z = wr.heap.size) z → W.heap[z]? = w2.heap[z]?) → (fun W : World => W.cell? ⟨wr.heap.size, 0, none⟩ = some (.string x.frm) ∧ W.cell? ⟨wr.heap.size, 1, none⟩ = some (.string x.to)) W := fun W hW => ⟨(World.cell?_of_block (hW _ rfl)).trans (HCW.out 0 _ rfl), (World.cell?_of_block (hW _ rfl)).trans (HCW.out 1 _ rfl)⟩
      have HS : ∀ W : World, (∀ z, (fun z => z = wr.heap.size) z → W.heap[z]? = w2.heap[z]?) → (fun W : World => W.cell? ⟨wr.heap.size, 0, none⟩ = some (.string x.frm) ∧ W.cell? ⟨wr.heap.size, 1, none⟩ = some (.string x.to)) W := HSP
      refine wp_region_held_drew (S := fun W : World => W.cell? ⟨wr.heap.size, 0, none⟩ = some (.string x.frm) ∧ W.cell? ⟨wr.heap.size, 1, none⟩ = some (.string x.to)) (by kernel_rfl) (HS _ fun z _ => rfl) (fun hHeld => ?_)
      refine wpAnyH_take (i := 0) (oi := ?_) (v := ?_) ?_ (by kernel_rfl) (by kernel_rfl) (by kernel_rfl) ?_ (Or.inl ⟨?_, ?_⟩) hHeld ?_
      rotate_left 2
      · simp only [List.getElem?_toArray, List.getElem?_cons_zero]; exact rfl
      · exact fun _ _ _ h => h
      · rfl
      · (intro W' hSw; (try dsimp only at hSw); go_simp; try with_reducible rfl)
      try simp only [Act.put, List.setIfInBounds_toArray, List.set_cons_zero, List.set_cons_succ]
      refine wpAnyH_take (i := 1) (oi := ?_) (v := ?_) ?_ (by kernel_rfl) (by kernel_rfl) (by kernel_rfl) ?_ (Or.inl ⟨?_, ?_⟩) hHeld ?_
      rotate_left 2
      · simp only [List.getElem?_toArray, List.getElem?_cons_succ, List.getElem?_cons_zero]; exact rfl
      · exact fun _ _ _ h => h
      · rfl
      · (intro W' hSw; (try dsimp only at hSw); go_simp; try with_reducible rfl)
      try simp only [Act.put, List.setIfInBounds_toArray, List.set_cons_zero, List.set_cons_succ]
      refine wpAnyH_take (i := 2) (oi := ?_) (v := ?_) ?_ (by kernel_rfl) (by kernel_rfl) (by kernel_rfl) ?_ (Or.inl ⟨?_, ?_⟩) hHeld ?_
      rotate_left 2
      · simp only [List.getElem?_toArray, List.getElem?_cons_succ, List.getElem?_cons_zero]; exact rfl
      · exact fun _ _ _ h => h
      · rfl
      · (intro W' hSw; (try dsimp only at hSw); go_simp; try with_reducible rfl)
      try simp only [Act.put, List.setIfInBounds_toArray, List.set_cons_zero, List.set_cons_succ]
      refine wpAnyH_take (i := 4) (oi := ?_) (v := ?_) ?_ (by kernel_rfl) (by kernel_rfl) (by kernel_rfl) ?_ (Or.inl ⟨?_, ?_⟩) hHeld ?_
      rotate_left 2
      · simp only [List.getElem?_toArray, List.getElem?_cons_succ, List.getElem?_cons_zero]; exact rfl
      · exact fun _ _ _ h => h
      · rfl
      · (intro W' hSw; (try dsimp only at hSw); go_simp; try with_reducible rfl)
      try simp only [Act.put, List.setIfInBounds_toArray, List.set_cons_zero, List.set_cons_succ]
      refine wpAnyH_take (i := 5) (oi := ?_) (v := ?_) ?_ (by kernel_rfl) (by kernel_rfl) (by kernel_rfl) ?_ (Or.inl ⟨?_, ?_⟩) hHeld ?_
      rotate_left 2
      · simp only [List.getElem?_toArray, List.getElem?_cons_succ, List.getElem?_cons_zero]; exact rfl
      · exact fun _ _ _ h => h
      · rfl
      · (intro W' hSw; (try dsimp only at hSw); go_simp; try with_reducible rfl)
      try simp only [Act.put, List.setIfInBounds_toArray, List.set_cons_zero, List.set_cons_succ]
      refine wpAnyH_ready (rs := [3]) (by kernel_rfl) (by simp) ?_
      refine AllReadyH.cons rfl (fun K hK => ?_) AllReadyH.nil
      go_simp
      go_at_call 37
      refine Calls.mono (user_any _ _) ?_
      rintro e3 wE3 ⟨rfl, b3⟩
      have B3 : Below w2.heap.size w2 wE3 := bel_call (Below.refl _ _).drew b3
      clear b3 hHeld
      refine hK.out _ _ (HS _ fun z hz => B3.block z (HGE.out.kl z hz)) (fun hHeld => ?_)
      clear hK K
      refine wpAnyH_ready (rs := [6]) (by kernel_rfl) (by simp) ?_
      refine AllReadyH.cons rfl (fun K hK => ?_) AllReadyH.nil
      go_simp
      go_at_call 37
      refine Calls.mono (user_any _ _) ?_
      rintro e4 wE4 ⟨rfl, b4⟩
      have B4 : Below w2.heap.size w2 wE4 := bel_call B3 b4
      clear b4 hHeld
      refine hK.out _ _ (HS _ fun z hz => B4.block z (HGE.out.kl z hz)) (fun hHeld => ?_)
      clear hK K
      refine wpAnyH_ready (rs := [7]) (by kernel_rfl) (by simp) ?_
      refine AllReadyH.cons rfl (fun K hK => ?_) AllReadyH.nil
      go_simp
      go_at_call 47
      refine Calls.mono (edgeW (HGE.out.to B4) HEL.out _ _ (okU HDP.out.1) (okU HDP.out.2)) ?_
      rintro e5 wE5 ⟨⟨r5, rfl⟩, g5, k5, z5⟩
      have K5 := Lib.hid (show ∀ z, (fun z => z = wr.heap.size) z → wE5.heap[z]? = w2.heap[z]? from fun z hz => (k5 z hz).trans (B4.block z (HGE.out.kl z hz)))
      have G5 := Lib.hid g5
      clear k5 g5 hHeld
      refine hK.out _ _ (HS _ K5.out) (fun hHeld => ?_)
      clear hK K
      refine wpAnyH_done (by kernel_rfl) ?_ _
      clear hHeld HS B3 B4 z5
      go_wp2
      go_roundw
      case rel => exact ⟨k + 1, by omega, by go_num, (G5.out.cast (edgesD_take HX.out).symm).add (Below.refl _ _) fun z hz => hz.elim⟩
      case measure => simp [RowKit.intOf]; omega
    · obtain rfl : k = st.deposits.length := by omega
      obtain ⟨wq, rfl⟩ : ∃ wq, wq = wr := ⟨_, rfl⟩
      rw [List.take_length] at HG
      have x3 := (HG.out.bel.cell (p := ⟨w.heap.size, 3, none⟩) qw0).trans (HC0.out 3 _ rfl)
      have HSF := Lib.hid (show Sl 7 rFolder (fun z => z < w.heap.size) w (.slice st_A3 st.folders.length st_c3) st.folders from ⟨_, _, rfl, st_folders_l, st_folders_m, st_folders_n, st_folders_s⟩)
      clear hk hlt
      go_wp2_with fail
      clear x3
      refine Calls.mono (firstsFolder_any st.folders _ wq (fun z => z < w.heap.size) (HSF.out.keep rFolder_ok (by decide) (kept_of (bel_call HB0.out HG.out.bel))) HOK.out.nf) ?_
      rintro e w1 ⟨⟨v', ps, rfl, hrow, hps, hpr, hob⟩, B1⟩
      have HG2 := Lib.hid (show GrW w0 (fun z => v'.ownBlock = some z) (edgesD st.deposits ++ ((ps.map (·.2)).take 0).flatMap edgesF) w1 t from (HG.out.cast (by simp)).add B1 fun z hz => .inr ⟨hob z hz, hrow.lt z hz⟩)
      obtain ⟨Av, cv, rfl, -⟩ := hrow.shape
      rw [List.length_map] at HG2 hrow ⊢
      have hpl : ps.length ≤ 1000 := by
        have h1 : ps.length = (firsts Folder.name st.folders).length := by rw [← hps, List.length_map]
        rw [h1]
        exact Nat.le_trans (firsts_len _ _) HOK.out.nf
      have HROW := Lib.hid hrow
      have HPS := Lib.hid hps
      have HPR := Lib.hid hpr
      have HBQ := Lib.hid HG.out.bel
      clear hrow hps hpr hob B1 HG
      go_wp2
      go_loopw [35] (fun i wr2 => ∃ k : Nat, k ≤ ps.length ∧ i = .int .i64 k ∧ Hid (GrW w0 (fun z => (Value.slice Av ps.length cv).ownBlock = some z) (edgesD st.deposits ++ ((ps.map (·.2)).take k).flatMap edgesF) wr2 t) ∧ Hid (RowC 43 7 wr2 (.slice Av ps.length cv) (ps.map (·.1)))) (fun i _ => ps.length - (RowKit.intOf i).toNat)
      case atStart => exact ⟨0, by omega, by go_num, HG2, HROW⟩
      case round =>
        clear HG2 HROW
        obtain ⟨wr2, rfl⟩ : ∃ x, x = wr := ⟨_, rfl⟩
        obtain ⟨k, hk, rfl, HG, HROW⟩ := hrel
        by_cases hlt : k < ps.length
        · obtain ⟨⟨pc, x⟩, hp⟩ : ∃ p, ps[k]? = some p := ⟨_, List.getElem?_eq_getElem hlt⟩
          have hR := HPR.out _ (List.mem_of_getElem? hp)
          dsimp only at hR
          obtain ⟨g, off, cap, hv, -, hcm, -, hcz, -⟩ := HROW.out.at (i := k) (x := pc) (by rw [List.getElem?_map, hp]; rfl)
          unfold maxLen at hcm
          obtain ⟨rfl, -, rfl⟩ : Av = some ⟨g, off, none⟩ ∧ ps.length = (ps.map (·.1)).length ∧ cv = cap := by simpa using hv
          have HR := Lib.hid hR
          have HP := Lib.hid hp
          obtain ⟨x_A2, x_c2, x_A3, x_c3, x_A4, x_c4, x_A5, x_c5, x_A6, x_c6, rfl, x_name_le, x_turn_ok, x_manifests_l, x_manifests_m, x_manifests_n, x_manifests_s, x_epochs_l, x_epochs_m, x_epochs_n, x_epochs_s, x_items_l, x_items_m, x_items_n, x_items_s, x_wraps_l, x_wraps_m, x_wraps_n, x_wraps_s, x_links_l, x_links_m, x_links_n, x_links_s⟩ := open_Folder hR
          have u0 := hcz 0 _ rfl
          have u1 := hcz 1 _ rfl
          have u2 := hcz 2 _ rfl
          have u3 := hcz 3 _ rfl
          have u4 := hcz 4 _ rfl
          have u5 := hcz 5 _ rfl
          have u6 := hcz 6 _ rfl
          rw [Nat.add_zero] at u0
          have hki : (k : Int) < (ps.length : Int) := by omega
          have HXF := Lib.hid (show x ∈ st.folders from firsts_mem Folder.name _ _ (by rw [← HPS.out]; exact List.mem_map.2 ⟨_, List.mem_of_getElem? HP.out, rfl⟩))
          obtain ⟨E0, hE0⟩ : ∃ E0, E0 = edgesD st.deposits ++ ((ps.map (·.2)).take k).flatMap edgesF := ⟨_, rfl⟩
          rw [← hE0] at HG
          have HE1 := Lib.hid (show edgesD st.deposits ++ ((ps.map (·.2)).take (k + 1)).flatMap edgesF = E0 ++ edgesF x by
            rw [List.take_add_one, List.getElem?_map, HP.out, hE0]
            simp)
          have HTOT := Lib.hid (show E0.length + (x.epochs.length - 1 + ((firsts Wrap.name x.wraps).length + x.links.length)) ≤ 1000 by
            have h1 := flat_take edgesF (show (ps.map (·.2))[k]? = some x by rw [List.getElem?_map, HP.out]; rfl)
            have h2 := edges_d st
            have h3 := HOK.out.few
            rw [HPS.out] at h1
            rw [hE0, List.length_append, HPS.out]
            rw [edgesF_len] at h1
            omega)
          obtain ⟨w3, hw3, cw3, fw3, Bw3, qw3⟩ := boxed wr2 #[.string x.name, .int .i64 x.turn, .slice x_A2 x.manifests.length x_c2, .slice x_A3 x.epochs.length x_c3, .slice x_A4 x.items.length x_c4, .slice x_A5 x.wraps.length x_c5, .slice x_A6 x.links.length x_c6] 43
          obtain ⟨K3, hK3⟩ : ∃ K3 : Nat → Prop, K3 = fun z => (Value.slice (some ⟨g, off, none⟩) ps.length cv).ownBlock = some z ∨ z = wr2.heap.size := ⟨_, rfl⟩
          have HK3 := Lib.hid (show K3 wr2.heap.size by rw [hK3]; exact .inr rfl)
          have HK3' := Lib.hid (show ∀ z, (Value.slice (some ⟨g, off, none⟩) ps.length cv).ownBlock = some z → K3 z from fun z hz => by rw [hK3]; exact .inl hz)
          have HG3 := Lib.hid (show GrW w0 K3 (E0 ++ edgesE x.name 0) w3 t from (HG.out.cast (by simp [edgesE])).add Bw3 fun z hz => by
            rw [hK3] at hz
            rcases hz with hz | rfl
            · exact .inl hz
            · exact .inr ⟨Nat.le_refl _, qw3⟩)
          have HT3 := Lib.hid (show w3.heap[wr2.heap.size]? = some (.cells #[.string x.name, .int .i64 x.turn, .slice x_A2 x.manifests.length x_c2, .slice x_A3 x.epochs.length x_c3, .slice x_A4 x.items.length x_c4, .slice x_A5 x.wraps.length x_c5, .slice x_A6 x.links.length x_c6] 43 (0, 0)) by rw [← hw3]; exact blk_alloc_new _ rfl)
          have HR3 := Lib.hid (HROW.out.below Bw3)
          have hel : x.epochs.length ≤ 1001 := by have := HTOT.out; omega
          clear hcz hp hE0 cw3 fw3 Bw3 hK3 HG HROW x_manifests_s x_epochs_s x_items_s x_wraps_s x_links_s
          go_wp2
          clear hw3 u0 u1 u2 u3 u4 u5 u6
          go_loopw [8] (fun e wr3 => ∃ n : Nat, n ≤ x.epochs.length - 1 ∧ e = .int .i64 ((n : Int) + 2) ∧ Hid (GrW w0 K3 (E0 ++ edgesE x.name n) wr3 t) ∧ Hid (∀ z, K3 z → wr3.heap[z]? = w3.heap[z]?)) (fun e _ => x.epochs.length + 2 - (RowKit.intOf e).toNat)
          case atStart => exact ⟨0, Nat.zero_le _, rfl, HG3, fun z _ => rfl⟩
          case round =>
            clear HG3
            obtain ⟨n, hn, rfl, HG, HSAME⟩ := hrel
            have hT := (HSAME.out _ HK3.out).trans HT3.out
            have b0 := (blk_cells hT).1 0 _ rfl
            have b3 := (blk_cells hT).1 3 _ rfl
            have b5 := (blk_cells hT).1 5 _ rfl
            have hnl : n ≤ 1001 := by omega
            have HTT := HTOT.out
            by_cases hlt : n + 2 ≤ x.epochs.length
            · have hle : (n : Int) + 2 ≤ (x.epochs.length : Int) := by omega
              have hw1 : IntKind.i64.wrap ((n : Int) + 2 - 1) = (n : Int) + 1 := by rw [IntWalk.i64_in _ (by omega)]; omega
              have hw2 : IntKind.i64.wrap ((n : Int) + 2 + 1) = (n : Int) + 1 + 2 := by rw [IntWalk.i64_in _ (by omega)]; omega
              have HEL := Lib.hid (show (E0 ++ edgesE x.name n).length ≤ 1500 by rw [List.length_append, edgesE_len]; omega)
              have HGE := HG
              have HNM := Lib.hid (HOK.out.fol x HXF.out).1
              have HI1 := Lib.hid (show I64 ((n : Int) + 2) ∧ I64 ((n : Int) + 1) by unfold I64; omega)
              have HB0' := Lib.hid hT
              clear hT HG
              go_wp2
              have HSP : ∀ W : World, (∀ z, K3 z → W.heap[z]? = wr.heap[z]?) → (fun W : World => W.cell? ⟨wr2.heap.size, 0, none⟩ = some (.string x.name)) W := fun W hW => (World.cell?_of_block (hW _ HK3.out)).trans b0
              have HS : ∀ W : World, (∀ z, (K3) z → W.heap[z]? = wr.heap[z]?) → (fun W : World => W.cell? ⟨wr2.heap.size, 0, none⟩ = some (.string x.name)) W := HSP
              refine wp_region_held_drew (S := fun W : World => W.cell? ⟨wr2.heap.size, 0, none⟩ = some (.string x.name)) (by kernel_rfl) (HS _ fun z _ => rfl) (fun hHeld => ?_)
              refine wpAnyH_take (i := 0) (oi := ?_) (v := ?_) ?_ (by kernel_rfl) (by kernel_rfl) (by kernel_rfl) ?_ (Or.inl ⟨?_, ?_⟩) hHeld ?_
              rotate_left 2
              · simp only [List.getElem?_toArray, List.getElem?_cons_zero]; exact rfl
              · exact fun _ _ _ h => h
              · rfl
              · (intro W' hSw; (try dsimp only at hSw); go_simp; try with_reducible rfl)
              try simp only [Act.put, List.setIfInBounds_toArray, List.set_cons_zero, List.set_cons_succ]
              refine wpAnyH_take (i := 1) (oi := ?_) (v := ?_) ?_ (by kernel_rfl) (by kernel_rfl) (by kernel_rfl) ?_ (Or.inl ⟨?_, ?_⟩) hHeld ?_
              rotate_left 2
              · simp only [List.getElem?_toArray, List.getElem?_cons_succ, List.getElem?_cons_zero]; exact rfl
              · exact fun _ _ _ h => h
              · rfl
              · (intro W' hSw; (try dsimp only at hSw); go_simp; try with_reducible rfl)
              try simp only [Act.put, List.setIfInBounds_toArray, List.set_cons_zero, List.set_cons_succ]
              refine wpAnyH_take (i := 2) (oi := ?_) (v := ?_) ?_ (by kernel_rfl) (by kernel_rfl) (by kernel_rfl) ?_ (Or.inl ⟨?_, ?_⟩) hHeld ?_
              rotate_left 2
              · simp only [List.getElem?_toArray, List.getElem?_cons_succ, List.getElem?_cons_zero]; exact rfl
              · exact fun _ _ _ h => h
              · rfl
              · (intro W' hSw; (try dsimp only at hSw); go_simp; try with_reducible rfl)
              try simp only [Act.put, List.setIfInBounds_toArray, List.set_cons_zero, List.set_cons_succ]
              refine wpAnyH_take (i := 3) (oi := ?_) (v := ?_) ?_ (by kernel_rfl) (by kernel_rfl) (by kernel_rfl) ?_ (Or.inl ⟨?_, ?_⟩) hHeld ?_
              rotate_left 2
              · simp only [List.getElem?_toArray, List.getElem?_cons_succ, List.getElem?_cons_zero]; exact rfl
              · exact fun _ _ _ h => h
              · rfl
              · (intro W' hSw; (try dsimp only at hSw); go_simp; try with_reducible rfl)
              try simp only [Act.put, List.setIfInBounds_toArray, List.set_cons_zero, List.set_cons_succ]
              refine wpAnyH_take (i := 5) (oi := ?_) (v := ?_) ?_ (by kernel_rfl) (by kernel_rfl) (by kernel_rfl) ?_ (Or.inl ⟨?_, ?_⟩) hHeld ?_
              rotate_left 2
              · simp only [List.getElem?_toArray, List.getElem?_cons_succ, List.getElem?_cons_zero]; exact rfl
              · exact fun _ _ _ h => h
              · rfl
              · (intro W' hSw; (try dsimp only at hSw); go_simp; try with_reducible rfl)
              try simp only [Act.put, List.setIfInBounds_toArray, List.set_cons_zero, List.set_cons_succ]
              refine wpAnyH_take (i := 6) (oi := ?_) (v := ?_) ?_ (by kernel_rfl) (by kernel_rfl) (by kernel_rfl) ?_ (Or.inl ⟨?_, ?_⟩) hHeld ?_
              rotate_left 2
              · simp only [List.getElem?_toArray, List.getElem?_cons_succ, List.getElem?_cons_zero]; exact rfl
              · exact fun _ _ _ h => h
              · rfl
              · (intro W' hSw; (try dsimp only at hSw); go_simp; try with_reducible rfl)
              try simp only [Act.put, List.setIfInBounds_toArray, List.set_cons_zero, List.set_cons_succ]
              refine wpAnyH_take (i := 7) (oi := ?_) (v := ?_) ?_ (by kernel_rfl) (by kernel_rfl) (by kernel_rfl) ?_ (Or.inl ⟨?_, ?_⟩) hHeld ?_
              rotate_left 2
              · simp only [List.getElem?_toArray, List.getElem?_cons_succ, List.getElem?_cons_zero]; exact rfl
              · exact fun _ _ _ h => h
              · rfl
              · (intro W' hSw; (try dsimp only at hSw); go_simp; try with_reducible rfl)
              try simp only [Act.put, List.setIfInBounds_toArray, List.set_cons_zero, List.set_cons_succ]
              refine wpAnyH_take (i := 8) (oi := ?_) (v := ?_) ?_ (by kernel_rfl) (by kernel_rfl) (by kernel_rfl) ?_ (Or.inl ⟨?_, ?_⟩) hHeld ?_
              rotate_left 2
              · simp only [List.getElem?_toArray, List.getElem?_cons_succ, List.getElem?_cons_zero]; exact rfl
              · exact fun _ _ _ h => h
              · rfl
              · (intro W' hSw; (try dsimp only at hSw); go_simp; try with_reducible rfl)
              try simp only [Act.put, List.setIfInBounds_toArray, List.set_cons_zero, List.set_cons_succ]
              refine wpAnyH_ready (rs := [4]) (by kernel_rfl) (by simp) ?_
              refine AllReadyH.cons rfl (fun K hK => ?_) AllReadyH.nil
              go_simp
              go_at_call 50
              refine Calls.mono (at_any _ _ _) ?_
              rintro e3 wE3 ⟨rfl, b3⟩
              have B3 : Below wr.heap.size wr wE3 := bel_call (Below.refl _ _).drew b3
              clear b3 hHeld
              refine hK.out _ _ (HS _ fun z hz => B3.block z (HGE.out.kl z hz)) (fun hHeld => ?_)
              clear hK K
              refine wpAnyH_ready (rs := [9]) (by kernel_rfl) (by simp) ?_
              refine AllReadyH.cons rfl (fun K hK => ?_) AllReadyH.nil
              go_simp
              go_at_call 50
              refine Calls.mono (at_any _ _ _) ?_
              rintro e4 wE4 ⟨rfl, b4⟩
              have B4 : Below wr.heap.size wr wE4 := bel_call B3 b4
              clear b4 hHeld
              refine hK.out _ _ (HS _ fun z hz => B4.block z (HGE.out.kl z hz)) (fun hHeld => ?_)
              clear hK K
              refine wpAnyH_ready (rs := [10]) (by kernel_rfl) (by simp) ?_
              refine AllReadyH.cons rfl (fun K hK => ?_) AllReadyH.nil
              go_simp
              go_at_call 47
              refine Calls.mono (edgeW (HGE.out.to B4) HEL.out _ _ (okE HNM.out HI1.out.1) (okE HNM.out HI1.out.2)) ?_
              rintro e5 wE5 ⟨⟨r5, rfl⟩, g5, k5, z5⟩
              have K5 := Lib.hid (show ∀ z, (K3) z → wE5.heap[z]? = wr.heap[z]? from fun z hz => (k5 z hz).trans (B4.block z (HGE.out.kl z hz)))
              have G5 := Lib.hid g5
              clear k5 g5 hHeld
              refine hK.out _ _ (HS _ K5.out) (fun hHeld => ?_)
              clear hK K
              refine wpAnyH_done (by kernel_rfl) ?_ _
              clear hHeld HS B3 B4 z5
              go_wp2
              go_roundw
              case rel => exact ⟨n + 1, by omega, by go_num, G5.out.cast (by rw [edgesE_succ, List.append_assoc]), fun z hz => (K5.out z hz).trans (HSAME.out z hz)⟩
              case measure => simp [RowKit.intOf]; omega
            · have hle : ¬ (n : Int) + 2 ≤ (x.epochs.length : Int) := by omega
              have hnx : n = x.epochs.length - 1 := by omega
              obtain ⟨w4, rfl⟩ : ∃ q, q = wr := ⟨_, rfl⟩
              have HSW := Lib.hid (show Sl 3 rWrap (fun z => z < w.heap.size) w4 (.slice x_A5 x.wraps.length x_c5) x.wraps from by
                obtain ⟨v2, v3, v4, v5, v6, e, h1, h2, h3, h4, h5, h6, h7⟩ := stay HR.out HB0.out.size HBQ.out HG.out.bel
                simp only [List.cons.injEq] at e
                obtain ⟨_, _, _, _, _, rfl, _⟩ := e
                exact h6)
              subst hnx
              clear hn hT hlt
              go_wp2_with fail
              clear b0 b3 b5
              refine Calls.mono (firstsWrap_any x.wraps _ w4 (fun z => z < w.heap.size) HSW.out (HOK.out.fol x HXF.out).2.2.2) ?_
              rintro e w5 ⟨⟨vw, qs, rfl, qrow, hqs, hqr, hqb⟩, B5⟩
              obtain ⟨E1, hE1⟩ : ∃ E1, E1 = E0 ++ edgesE x.name (x.epochs.length - 1) := ⟨_, rfl⟩
              have HE1L := Lib.hid (show E1.length = E0.length + (x.epochs.length - 1) by rw [hE1, List.length_append, edgesE_len])
              have HEE := Lib.hid hE1
              obtain ⟨K4, hK4⟩ : ∃ K4 : Nat → Prop, K4 = fun z => K3 z ∨ vw.ownBlock = some z := ⟨_, rfl⟩
              have HK4 := Lib.hid (show ∀ z, K3 z → K4 z from fun z hz => by rw [hK4]; exact .inl hz)
              have HK4' := Lib.hid (show ∀ z, vw.ownBlock = some z → K4 z from fun z hz => by rw [hK4]; exact .inr hz)
              have HG4 := Lib.hid (show GrW w0 K4 (E1 ++ edgesW x ((qs.map (·.2)).take 0)) w5 t from (HG.out.cast (by simp [edgesW, hE1])).add B5 fun z hz => by
                rw [hK4] at hz
                rcases hz with hz | hz
                · exact .inl hz
                · exact .inr ⟨hqb z hz, qrow.lt z hz⟩)
              have HS4 := Lib.hid (show ∀ z, K3 z → w5.heap[z]? = w3.heap[z]? from fun z hz => (B5.block z (HG.out.kl z hz)).trans (HSAME.out z hz))
              obtain ⟨Aw, cw, rfl, -⟩ := qrow.shape
              rw [List.length_map] at qrow HK4' ⊢
              have hql : qs.length = (firsts Wrap.name x.wraps).length := by rw [← hqs, List.length_map]
              have HBW := Lib.hid HG.out.bel
              have HQR := Lib.hid hqr
              have HQS := Lib.hid hqs
              have HQW := Lib.hid qrow
              have hql2 : qs.length ≤ 1000 := by rw [hql]; omega
              have HQL := Lib.hid hql
              have HT5 := Lib.hid ((HS4.out _ HK3.out).trans HT3.out)
              clear hK4 hE1 HG HSAME qrow hqs hqr hqb B5 hql
              go_wp2
              go_loopw [61] (fun i wr4 => ∃ j : Nat, j ≤ qs.length ∧ i = .int .i64 j ∧ Hid (GrW w0 K4 (E1 ++ edgesW x ((qs.map (·.2)).take j)) wr4 t) ∧ Hid (∀ z, K4 z → wr4.heap[z]? = w5.heap[z]?)) (fun i _ => qs.length - (RowKit.intOf i).toNat)
              case atStart => exact ⟨0, by omega, by go_num, HG4, fun z _ => rfl⟩
              case round =>
                clear HG4
                obtain ⟨wr4, rfl⟩ : ∃ q, q = wr := ⟨_, rfl⟩
                obtain ⟨j, hj, rfl, HG, HSAME⟩ := hrel
                by_cases hlt : j < qs.length
                · obtain ⟨⟨qc, y⟩, hq⟩ : ∃ p, qs[j]? = some p := ⟨_, List.getElem?_eq_getElem hlt⟩
                  have hR2 := HQR.out _ (List.mem_of_getElem? hq)
                  dsimp only at hR2
                  obtain ⟨g2, off2, cap2, hv2, -, hcm2, -, hcz2, -⟩ := (HQW.out.keep (w' := wr4) fun b hb => HSAME.out b (HK4'.out b hb)).at (i := j) (x := qc) (by rw [List.getElem?_map, hq]; rfl)
                  unfold maxLen at hcm2
                  obtain ⟨rfl, -, rfl⟩ : Aw = some ⟨g2, off2, none⟩ ∧ qs.length = (qs.map (·.1)).length ∧ cw = cap2 := by simpa using hv2
                  have HQ := Lib.hid hq
                  obtain ⟨rfl, y_name_le, y_epoch_ok⟩ := open_Wrap hR2
                  have u0 := hcz2 0 _ rfl
                  have u1 := hcz2 1 _ rfl
                  have u2 := hcz2 2 _ rfl
                  obtain ⟨sd, hsd⟩ : ∃ sd, y.seed = sd := ⟨_, rfl⟩
                  rw [hsd] at u2
                  have HSD := Lib.hid hsd
                  clear hsd
                  rw [Nat.add_zero] at u0
                  have hji : (j : Int) < (qs.length : Int) := by omega
                  have HYM := Lib.hid (show y ∈ x.wraps from firsts_mem Wrap.name _ _ (by rw [← HQS.out]; exact List.mem_map.2 ⟨_, List.mem_of_getElem? HQ.out, rfl⟩))
                  obtain ⟨w6, hw6, cw6, fw6, Bw6, qw6⟩ := boxed wr4 #[.string y.name, .int .i64 y.epoch, .bool sd] 28
                  obtain ⟨K6, hK6⟩ : ∃ K6 : Nat → Prop, K6 = fun z => K4 z ∨ z = wr4.heap.size := ⟨_, rfl⟩
                  have HK6 := Lib.hid (show K6 wr4.heap.size by rw [hK6]; exact .inr rfl)
                  have HK64 := Lib.hid (show ∀ z, K4 z → K6 z from fun z hz => by rw [hK6]; exact .inl hz)
                  have HG6 := Lib.hid (show GrW w0 K6 (E1 ++ edgesW x ((qs.map (·.2)).take j)) w6 t from HG.out.add Bw6 fun z hz => by
                    rw [hK6] at hz
                    rcases hz with hz | rfl
                    · exact .inl hz
                    · exact .inr ⟨Nat.le_refl _, qw6⟩)
                  have HS6 := Lib.hid (show ∀ z, K4 z → w6.heap[z]? = w5.heap[z]? from fun z hz => (Bw6.block z (HG.out.kl z hz)).trans (HSAME.out z hz))
                  have hT := (HS6.out _ (HK4.out _ HK3.out)).trans HT5.out
                  have HT6 := Lib.hid hT
                  have b0 := (blk_cells hT).1 0 _ rfl
                  have b1 := (blk_cells hT).1 1 _ rfl
                  have b2 := (blk_cells hT).1 2 _ rfl
                  have b3 := (blk_cells hT).1 3 _ rfl
                  have b4 := (blk_cells hT).1 4 _ rfl
                  have b5 := (blk_cells hT).1 5 _ rfl
                  have b6 := (blk_cells hT).1 6 _ rfl
                  have d1 := cw6 1 _ rfl
                  have d2 := cw6 2 _ rfl
                  have HD := Lib.hid (show w6.heap[wr4.heap.size]? = some (.cells #[.string y.name, .int .i64 y.epoch, .bool sd] 28 (0, 0)) by rw [← hw6]; exact blk_alloc_new _ rfl)
                  have HEL := Lib.hid (show (E1 ++ edgesW x ((qs.map (·.2)).take j)).length ≤ 1500 by
                    rw [List.length_append, edgesW_len, List.length_take, List.length_map, HE1L.out]
                    have := HTOT.out
                    have := HQL.out
                    omega)
                  have HNM := Lib.hid (HOK.out.fol x HXF.out).1
                  have HYN := Lib.hid ((HOK.out.fol x HXF.out).2.1 y HYM.out)
                  have HYI := Lib.hid y_epoch_ok
                  have HXR := Lib.hid (stay HR.out HB0.out.size HBQ.out HG6.out.bel)
                  have HLA := Lib.hid (last_any x y.epoch HYI.out _ w6 _ HXR.out)
                  have HWE := Lib.hid (show I64 (wrapE x.epochs y) from wrapE_ok hel HYI.out)
                  have HNXT := Lib.hid (edgesW_take x (show (qs.map (·.2))[j]? = some y by rw [List.getElem?_map, HQ.out]; rfl))
                  clear hcz2 hq cw6 fw6 Bw6 hK6 HG hT y_epoch_ok
                  go_wp2_with fail
                  · obtain rfl : sd = true := by assumption
                    have HWV := Lib.hid (show wrapE x.epochs y = lastOf x.epochs y.epoch by unfold wrapE; rw [HSD.out]; rfl)
                    rw [HWV.out] at HWE HNXT
                    refine Calls.mono HLA.out ?_
                    rintro e w7 ⟨rfl, B7⟩
                    have HGE := Lib.hid (HG6.out.to B7)
                    have HSP : ∀ W : World, (∀ z, K6 z → W.heap[z]? = w7.heap[z]?) → (fun W : World => W.cell? ⟨wr4.heap.size, 0, none⟩ = some (.string y.name) ∧ W.cell? ⟨wr2.heap.size, 0, none⟩ = some (.string x.name)) W := fun W hW => ⟨(blk_cells ((hW _ HK6.out).trans ((B7.block _ (HG6.out.kl _ HK6.out)).trans HD.out))).1 0 _ rfl, (blk_cells ((hW _ (HK64.out _ (HK4.out _ HK3.out))).trans ((B7.block _ (HG6.out.kl _ (HK64.out _ (HK4.out _ HK3.out)))).trans HT6.out))).1 0 _ rfl⟩
                    have HSQ := Lib.hid HSP
                    have HS7 := Lib.hid (show ∀ z, K4 z → w7.heap[z]? = w5.heap[z]? from fun z hz => (B7.block z (HG6.out.kl z (HK64.out z hz))).trans (HS6.out z hz))
                    clear HSP HG6 B7 d1 d2 b0 b1 b2 b3 b4 b5 b6 hw6
                    go_wp2
                    have HSP := HSQ.out
                    have HS : ∀ W : World, (∀ z, (K6) z → W.heap[z]? = w7.heap[z]?) → (fun W : World => W.cell? ⟨wr4.heap.size, 0, none⟩ = some (.string y.name) ∧ W.cell? ⟨wr2.heap.size, 0, none⟩ = some (.string x.name)) W := HSP
                    refine wp_region_held_drew (S := fun W : World => W.cell? ⟨wr4.heap.size, 0, none⟩ = some (.string y.name) ∧ W.cell? ⟨wr2.heap.size, 0, none⟩ = some (.string x.name)) (by kernel_rfl) (HS _ fun z _ => rfl) (fun hHeld => ?_)
                    refine wpAnyH_take (i := 0) (oi := ?_) (v := ?_) ?_ (by kernel_rfl) (by kernel_rfl) (by kernel_rfl) ?_ (Or.inl ⟨?_, ?_⟩) hHeld ?_
                    rotate_left 2
                    · simp only [List.getElem?_toArray, List.getElem?_cons_zero]; exact rfl
                    · exact fun _ _ _ h => h
                    · rfl
                    · (intro W' hSw; (try dsimp only at hSw); go_simp; try with_reducible rfl)
                    try simp only [Act.put, List.setIfInBounds_toArray, List.set_cons_zero, List.set_cons_succ]
                    refine wpAnyH_take (i := 1) (oi := ?_) (v := ?_) ?_ (by kernel_rfl) (by kernel_rfl) (by kernel_rfl) ?_ (Or.inl ⟨?_, ?_⟩) hHeld ?_
                    rotate_left 2
                    · simp only [List.getElem?_toArray, List.getElem?_cons_succ, List.getElem?_cons_zero]; exact rfl
                    · exact fun _ _ _ h => h
                    · rfl
                    · (intro W' hSw; (try dsimp only at hSw); go_simp; try with_reducible rfl)
                    try simp only [Act.put, List.setIfInBounds_toArray, List.set_cons_zero, List.set_cons_succ]
                    refine wpAnyH_take (i := 2) (oi := ?_) (v := ?_) ?_ (by kernel_rfl) (by kernel_rfl) (by kernel_rfl) ?_ (Or.inl ⟨?_, ?_⟩) hHeld ?_
                    rotate_left 2
                    · simp only [List.getElem?_toArray, List.getElem?_cons_succ, List.getElem?_cons_zero]; exact rfl
                    · exact fun _ _ _ h => h
                    · rfl
                    · (intro W' hSw; (try dsimp only at hSw); go_simp; try with_reducible rfl)
                    try simp only [Act.put, List.setIfInBounds_toArray, List.set_cons_zero, List.set_cons_succ]
                    refine wpAnyH_take (i := 4) (oi := ?_) (v := ?_) ?_ (by kernel_rfl) (by kernel_rfl) (by kernel_rfl) ?_ (Or.inl ⟨?_, ?_⟩) hHeld ?_
                    rotate_left 2
                    · simp only [List.getElem?_toArray, List.getElem?_cons_succ, List.getElem?_cons_zero]; exact rfl
                    · exact fun _ _ _ h => h
                    · rfl
                    · (intro W' hSw; (try dsimp only at hSw); go_simp; try with_reducible rfl)
                    try simp only [Act.put, List.setIfInBounds_toArray, List.set_cons_zero, List.set_cons_succ]
                    refine wpAnyH_take (i := 5) (oi := ?_) (v := ?_) ?_ (by kernel_rfl) (by kernel_rfl) (by kernel_rfl) ?_ (Or.inl ⟨?_, ?_⟩) hHeld ?_
                    rotate_left 2
                    · simp only [List.getElem?_toArray, List.getElem?_cons_succ, List.getElem?_cons_zero]; exact rfl
                    · exact fun _ _ _ h => h
                    · rfl
                    · (intro W' hSw; (try dsimp only at hSw); go_simp; try with_reducible rfl)
                    try simp only [Act.put, List.setIfInBounds_toArray, List.set_cons_zero, List.set_cons_succ]
                    refine wpAnyH_take (i := 6) (oi := ?_) (v := ?_) ?_ (by kernel_rfl) (by kernel_rfl) (by kernel_rfl) ?_ (Or.inl ⟨?_, ?_⟩) hHeld ?_
                    rotate_left 2
                    · simp only [List.getElem?_toArray, List.getElem?_cons_succ, List.getElem?_cons_zero]; exact rfl
                    · exact fun _ _ _ h => h
                    · rfl
                    · (intro W' hSw; (try dsimp only at hSw); go_simp; try with_reducible rfl)
                    try simp only [Act.put, List.setIfInBounds_toArray, List.set_cons_zero, List.set_cons_succ]
                    refine wpAnyH_ready (rs := [3]) (by kernel_rfl) (by simp) ?_
                    refine AllReadyH.cons rfl (fun K hK => ?_) AllReadyH.nil
                    go_simp
                    go_at_call 37
                    refine Calls.mono (user_any _ _) ?_
                    rintro e3 wE3 ⟨rfl, b3⟩
                    have B3 : Below w7.heap.size w7 wE3 := bel_call (Below.refl _ _).drew b3
                    clear b3 hHeld
                    refine hK.out _ _ (HS _ fun z hz => B3.block z (HGE.out.kl z hz)) (fun hHeld => ?_)
                    clear hK K
                    refine wpAnyH_ready (rs := [7]) (by kernel_rfl) (by simp) ?_
                    refine AllReadyH.cons rfl (fun K hK => ?_) AllReadyH.nil
                    go_simp
                    go_at_call 50
                    refine Calls.mono (at_any _ _ _) ?_
                    rintro e4 wE4 ⟨rfl, b4⟩
                    have B4 : Below w7.heap.size w7 wE4 := bel_call B3 b4
                    clear b4 hHeld
                    refine hK.out _ _ (HS _ fun z hz => B4.block z (HGE.out.kl z hz)) (fun hHeld => ?_)
                    clear hK K
                    refine wpAnyH_ready (rs := [8]) (by kernel_rfl) (by simp) ?_
                    refine AllReadyH.cons rfl (fun K hK => ?_) AllReadyH.nil
                    go_simp
                    go_at_call 47
                    refine Calls.mono (edgeW (HGE.out.to B4) HEL.out _ _ (okU HYN.out) (okE HNM.out HWE.out)) ?_
                    rintro e5 wE5 ⟨⟨r5, rfl⟩, g5, k5, z5⟩
                    have K5 := Lib.hid (show ∀ z, (K6) z → wE5.heap[z]? = w7.heap[z]? from fun z hz => (k5 z hz).trans (B4.block z (HGE.out.kl z hz)))
                    have G5 := Lib.hid g5
                    clear k5 g5 hHeld
                    refine hK.out _ _ (HS _ K5.out) (fun hHeld => ?_)
                    clear hK K
                    refine wpAnyH_done (by kernel_rfl) ?_ _
                    clear hHeld HS B3 B4 z5
                    go_wp2
                    go_roundw
                    case rel =>
                      have HF : ∃ j' : Nat, j' ≤ qs.length ∧ Value.int .i64 ((j : Int) + 1) = .int .i64 j' ∧ Hid (GrW w0 K4 (E1 ++ edgesW x ((qs.map (·.2)).take j')) wE5 t) ∧ Hid (∀ z, K4 z → wE5.heap[z]? = w5.heap[z]?) := ⟨j + 1, by omega, by go_num, (G5.out.cast (by rw [HNXT.out, List.append_assoc])).add (Below.refl _ _) fun z hz => .inl (HK64.out z hz), fun z hz => (K5.out z (HK64.out z hz)).trans (HS7.out z hz)⟩
                      first | exact HF | ((repeat apply Exists.intro); refine ⟨HF, ?_⟩; first | rfl | ((repeat' apply And.intro) <;> rfl) | (simp; (repeat' apply And.intro) <;> rfl))
                    case measure => simp [RowKit.intOf]; omega
                  · obtain rfl : sd = false := by assumption
                    have HWV := Lib.hid (show wrapE x.epochs y = y.epoch by unfold wrapE; rw [HSD.out]; rfl)
                    rw [HWV.out] at HWE HNXT
                    have HGE := HG6
                    have HSP : ∀ W : World, (∀ z, K6 z → W.heap[z]? = w6.heap[z]?) → (fun W : World => W.cell? ⟨wr4.heap.size, 0, none⟩ = some (.string y.name) ∧ W.cell? ⟨wr2.heap.size, 0, none⟩ = some (.string x.name)) W := fun W hW => ⟨(blk_cells ((hW _ HK6.out).trans HD.out)).1 0 _ rfl, (blk_cells ((hW _ (HK64.out _ (HK4.out _ HK3.out))).trans HT6.out)).1 0 _ rfl⟩
                    clear HG6
                    have HS : ∀ W : World, (∀ z, (K6) z → W.heap[z]? = w6.heap[z]?) → (fun W : World => W.cell? ⟨wr4.heap.size, 0, none⟩ = some (.string y.name) ∧ W.cell? ⟨wr2.heap.size, 0, none⟩ = some (.string x.name)) W := HSP
                    refine wp_region_held_drew (S := fun W : World => W.cell? ⟨wr4.heap.size, 0, none⟩ = some (.string y.name) ∧ W.cell? ⟨wr2.heap.size, 0, none⟩ = some (.string x.name)) (by kernel_rfl) (HS _ fun z _ => rfl) (fun hHeld => ?_)
                    refine wpAnyH_take (i := 0) (oi := ?_) (v := ?_) ?_ (by kernel_rfl) (by kernel_rfl) (by kernel_rfl) ?_ (Or.inl ⟨?_, ?_⟩) hHeld ?_
                    rotate_left 2
                    · simp only [List.getElem?_toArray, List.getElem?_cons_zero]; exact rfl
                    · exact fun _ _ _ h => h
                    · rfl
                    · (intro W' hSw; (try dsimp only at hSw); go_simp; try with_reducible rfl)
                    try simp only [Act.put, List.setIfInBounds_toArray, List.set_cons_zero, List.set_cons_succ]
                    refine wpAnyH_take (i := 1) (oi := ?_) (v := ?_) ?_ (by kernel_rfl) (by kernel_rfl) (by kernel_rfl) ?_ (Or.inl ⟨?_, ?_⟩) hHeld ?_
                    rotate_left 2
                    · simp only [List.getElem?_toArray, List.getElem?_cons_succ, List.getElem?_cons_zero]; exact rfl
                    · exact fun _ _ _ h => h
                    · rfl
                    · (intro W' hSw; (try dsimp only at hSw); go_simp; try with_reducible rfl)
                    try simp only [Act.put, List.setIfInBounds_toArray, List.set_cons_zero, List.set_cons_succ]
                    refine wpAnyH_take (i := 2) (oi := ?_) (v := ?_) ?_ (by kernel_rfl) (by kernel_rfl) (by kernel_rfl) ?_ (Or.inl ⟨?_, ?_⟩) hHeld ?_
                    rotate_left 2
                    · simp only [List.getElem?_toArray, List.getElem?_cons_succ, List.getElem?_cons_zero]; exact rfl
                    · exact fun _ _ _ h => h
                    · rfl
                    · (intro W' hSw; (try dsimp only at hSw); go_simp; try with_reducible rfl)
                    try simp only [Act.put, List.setIfInBounds_toArray, List.set_cons_zero, List.set_cons_succ]
                    refine wpAnyH_take (i := 4) (oi := ?_) (v := ?_) ?_ (by kernel_rfl) (by kernel_rfl) (by kernel_rfl) ?_ (Or.inl ⟨?_, ?_⟩) hHeld ?_
                    rotate_left 2
                    · simp only [List.getElem?_toArray, List.getElem?_cons_succ, List.getElem?_cons_zero]; exact rfl
                    · exact fun _ _ _ h => h
                    · rfl
                    · (intro W' hSw; (try dsimp only at hSw); go_simp; try with_reducible rfl)
                    try simp only [Act.put, List.setIfInBounds_toArray, List.set_cons_zero, List.set_cons_succ]
                    refine wpAnyH_take (i := 5) (oi := ?_) (v := ?_) ?_ (by kernel_rfl) (by kernel_rfl) (by kernel_rfl) ?_ (Or.inl ⟨?_, ?_⟩) hHeld ?_
                    rotate_left 2
                    · simp only [List.getElem?_toArray, List.getElem?_cons_succ, List.getElem?_cons_zero]; exact rfl
                    · exact fun _ _ _ h => h
                    · rfl
                    · (intro W' hSw; (try dsimp only at hSw); go_simp; try with_reducible rfl)
                    try simp only [Act.put, List.setIfInBounds_toArray, List.set_cons_zero, List.set_cons_succ]
                    refine wpAnyH_take (i := 6) (oi := ?_) (v := ?_) ?_ (by kernel_rfl) (by kernel_rfl) (by kernel_rfl) ?_ (Or.inl ⟨?_, ?_⟩) hHeld ?_
                    rotate_left 2
                    · simp only [List.getElem?_toArray, List.getElem?_cons_succ, List.getElem?_cons_zero]; exact rfl
                    · exact fun _ _ _ h => h
                    · rfl
                    · (intro W' hSw; (try dsimp only at hSw); go_simp; try with_reducible rfl)
                    try simp only [Act.put, List.setIfInBounds_toArray, List.set_cons_zero, List.set_cons_succ]
                    refine wpAnyH_ready (rs := [3]) (by kernel_rfl) (by simp) ?_
                    refine AllReadyH.cons rfl (fun K hK => ?_) AllReadyH.nil
                    go_simp
                    go_at_call 37
                    refine Calls.mono (user_any _ _) ?_
                    rintro e3 wE3 ⟨rfl, b3⟩
                    have B3 : Below w6.heap.size w6 wE3 := bel_call (Below.refl _ _).drew b3
                    clear b3 hHeld
                    refine hK.out _ _ (HS _ fun z hz => B3.block z (HGE.out.kl z hz)) (fun hHeld => ?_)
                    clear hK K
                    refine wpAnyH_ready (rs := [7]) (by kernel_rfl) (by simp) ?_
                    refine AllReadyH.cons rfl (fun K hK => ?_) AllReadyH.nil
                    go_simp
                    go_at_call 50
                    refine Calls.mono (at_any _ _ _) ?_
                    rintro e4 wE4 ⟨rfl, b4⟩
                    have B4 : Below w6.heap.size w6 wE4 := bel_call B3 b4
                    clear b4 hHeld
                    refine hK.out _ _ (HS _ fun z hz => B4.block z (HGE.out.kl z hz)) (fun hHeld => ?_)
                    clear hK K
                    refine wpAnyH_ready (rs := [8]) (by kernel_rfl) (by simp) ?_
                    refine AllReadyH.cons rfl (fun K hK => ?_) AllReadyH.nil
                    go_simp
                    go_at_call 47
                    refine Calls.mono (edgeW (HGE.out.to B4) HEL.out _ _ (okU HYN.out) (okE HNM.out HWE.out)) ?_
                    rintro e5 wE5 ⟨⟨r5, rfl⟩, g5, k5, z5⟩
                    have K5 := Lib.hid (show ∀ z, (K6) z → wE5.heap[z]? = w6.heap[z]? from fun z hz => (k5 z hz).trans (B4.block z (HGE.out.kl z hz)))
                    have G5 := Lib.hid g5
                    clear k5 g5 hHeld
                    refine hK.out _ _ (HS _ K5.out) (fun hHeld => ?_)
                    clear hK K
                    refine wpAnyH_done (by kernel_rfl) ?_ _
                    clear hHeld HS B3 B4 z5
                    go_wp2
                    go_roundw
                    case rel =>
                      have HF : ∃ j' : Nat, j' ≤ qs.length ∧ Value.int .i64 ((j : Int) + 1) = .int .i64 j' ∧ Hid (GrW w0 K4 (E1 ++ edgesW x ((qs.map (·.2)).take j')) wE5 t) ∧ Hid (∀ z, K4 z → wE5.heap[z]? = w5.heap[z]?) := ⟨j + 1, by omega, by go_num, (G5.out.cast (by rw [HNXT.out, List.append_assoc])).add (Below.refl _ _) fun z hz => .inl (HK64.out z hz), fun z hz => (K5.out z (HK64.out z hz)).trans (HS6.out z hz)⟩
                      first | exact HF | ((repeat apply Exists.intro); refine ⟨HF, ?_⟩; first | rfl | ((repeat' apply And.intro) <;> rfl) | (simp; (repeat' apply And.intro) <;> rfl))
                    case measure => simp [RowKit.intOf]; omega
                · obtain rfl : j = qs.length := by omega
                  have HGL := Lib.hid (show GrW w0 K3 (E1 ++ edgesW x (firsts Wrap.name x.wraps) ++ edgesL x (x.links.take 0)) wr4 t from (HG.out.cast (by rw [← HQS.out, List.take_of_length_le (Nat.le_of_eq (List.length_map _))]; simp [edgesL])).add (Below.refl _ _) fun z hz => .inl (HK4.out z hz))
                  have HSL := Lib.hid (show ∀ z, K3 z → wr4.heap[z]? = w3.heap[z]? from fun z hz => (HSAME.out z (HK4.out z hz)).trans (HS4.out z hz))
                  have b6 := (blk_cells ((HSL.out _ HK3.out).trans HT3.out)).1 6 _ rfl
                  clear HG HSAME hj hlt
                  go_wp2
                  clear b6
                  go_loopw [85] (fun i wr5 => ∃ q : Nat, q ≤ x.links.length ∧ i = .int .i64 q ∧ Hid (GrW w0 K3 (E1 ++ edgesW x (firsts Wrap.name x.wraps) ++ edgesL x (x.links.take q)) wr5 t) ∧ Hid (∀ z, K3 z → wr5.heap[z]? = w3.heap[z]?)) (fun i _ => x.links.length - (RowKit.intOf i).toNat)
                  case atStart => exact ⟨0, by omega, by go_num, HGL, HSL⟩
                  case round =>
                    clear HGL HSL
                    obtain ⟨wr5, rfl⟩ : ∃ q, q = wr := ⟨_, rfl⟩
                    obtain ⟨q, hq, rfl, HG, HSAME⟩ := hrel
                    by_cases hlt : q < x.links.length
                    · obtain ⟨y, hy⟩ : ∃ y, x.links[q]? = some y := ⟨_, List.getElem?_eq_getElem hlt⟩
                      obtain ⟨b, o, ys, hA, hbl, hRL, hcz⟩ := SlAt.elem (wr := wr5) (links_at (stay HR.out HB0.out.size HBQ.out HG.out.bel)) hy (by decide) (Below.refl _ _)
                      subst hA
                      obtain ⟨rfl, y_epoch_ok, y_to_le, y_seq_ok⟩ := open_Link hRL
                      have u0 := hcz 0 _ rfl
                      have u1 := hcz 1 _ rfl
                      have u2 := hcz 2 _ rfl
                      rw [Nat.add_zero] at u0
                      have hqi : (q : Int) < (x.links.length : Int) := by omega
                      have HYM := Lib.hid (List.mem_of_getElem? hy)
                      have HNXT := Lib.hid (edgesL_take x hy)
                      obtain ⟨w6, hw6, cw6, fw6, Bw6, qw6⟩ := boxed wr5 #[.int .i64 y.epoch, .string y.to, .int .i64 y.seq] 30
                      obtain ⟨K6, hK6⟩ : ∃ K6 : Nat → Prop, K6 = fun z => K3 z ∨ z = wr5.heap.size := ⟨_, rfl⟩
                      have HK6 := Lib.hid (show K6 wr5.heap.size by rw [hK6]; exact .inr rfl)
                      have HK63 := Lib.hid (show ∀ z, K3 z → K6 z from fun z hz => by rw [hK6]; exact .inl hz)
                      have HGE := Lib.hid (show GrW w0 K6 (E1 ++ edgesW x (firsts Wrap.name x.wraps) ++ edgesL x (x.links.take q)) w6 t from HG.out.add Bw6 fun z hz => by
                        rw [hK6] at hz
                        rcases hz with hz | rfl
                        · exact .inl hz
                        · exact .inr ⟨Nat.le_refl _, qw6⟩)
                      have HS6 := Lib.hid (show ∀ z, K3 z → w6.heap[z]? = w3.heap[z]? from fun z hz => (Bw6.block z (HG.out.kl z hz)).trans (HSAME.out z hz))
                      have HT6 := Lib.hid ((HS6.out _ HK3.out).trans HT3.out)
                      have HD := Lib.hid (show w6.heap[wr5.heap.size]? = some (.cells #[.int .i64 y.epoch, .string y.to, .int .i64 y.seq] 30 (0, 0)) by rw [← hw6]; exact blk_alloc_new _ rfl)
                      have HEL := Lib.hid (show (E1 ++ edgesW x (firsts Wrap.name x.wraps) ++ edgesL x (x.links.take q)).length ≤ 1500 by
                        rw [List.length_append, List.length_append, edgesW_len, edgesL_len, HE1L.out]
                        have := HTOT.out
                        have := len_take x.links q
                        omega)
                      have HNM := Lib.hid (HOK.out.fol x HXF.out).1
                      have HYN := Lib.hid ((HOK.out.fol x HXF.out).2.2.1 y HYM.out)
                      have HYI := Lib.hid (show I64 y.epoch ∧ I64 y.seq from ⟨y_epoch_ok, y_seq_ok⟩)
                      have HSQ := Lib.hid (show ∀ W : World, (∀ z, K6 z → W.heap[z]? = w6.heap[z]?) → (fun W : World => W.cell? ⟨wr5.heap.size, 0, none⟩ = some (.int .i64 y.epoch) ∧ W.cell? ⟨wr5.heap.size, 1, none⟩ = some (.string y.to) ∧ W.cell? ⟨wr5.heap.size, 2, none⟩ = some (.int .i64 y.seq) ∧ W.cell? ⟨wr2.heap.size, 0, none⟩ = some (.string x.name)) W from fun W hW => ⟨(blk_cells ((hW _ HK6.out).trans HD.out)).1 0 _ rfl, (blk_cells ((hW _ HK6.out).trans HD.out)).1 1 _ rfl, (blk_cells ((hW _ HK6.out).trans HD.out)).1 2 _ rfl, (blk_cells ((hW _ (HK63.out _ HK3.out)).trans HT6.out)).1 0 _ rfl⟩)
                      clear hcz hy cw6 fw6 Bw6 hK6 HG y_epoch_ok y_seq_ok
                      go_wp2
                      have HSP := HSQ.out
                      have HS : ∀ W : World, (∀ z, (K6) z → W.heap[z]? = w6.heap[z]?) → (fun W : World => W.cell? ⟨wr5.heap.size, 0, none⟩ = some (.int .i64 y.epoch) ∧ W.cell? ⟨wr5.heap.size, 1, none⟩ = some (.string y.to) ∧ W.cell? ⟨wr5.heap.size, 2, none⟩ = some (.int .i64 y.seq) ∧ W.cell? ⟨wr2.heap.size, 0, none⟩ = some (.string x.name)) W := HSP
                      refine wp_region_held_drew (S := fun W : World => W.cell? ⟨wr5.heap.size, 0, none⟩ = some (.int .i64 y.epoch) ∧ W.cell? ⟨wr5.heap.size, 1, none⟩ = some (.string y.to) ∧ W.cell? ⟨wr5.heap.size, 2, none⟩ = some (.int .i64 y.seq) ∧ W.cell? ⟨wr2.heap.size, 0, none⟩ = some (.string x.name)) (by kernel_rfl) (HS _ fun z _ => rfl) (fun hHeld => ?_)
                      refine wpAnyH_take (i := 0) (oi := ?_) (v := ?_) ?_ (by kernel_rfl) (by kernel_rfl) (by kernel_rfl) ?_ (Or.inl ⟨?_, ?_⟩) hHeld ?_
                      rotate_left 2
                      · simp only [List.getElem?_toArray, List.getElem?_cons_zero]; exact rfl
                      · exact fun _ _ _ h => h
                      · rfl
                      · (intro W' hSw; (try dsimp only at hSw); go_simp; try with_reducible rfl)
                      try simp only [Act.put, List.setIfInBounds_toArray, List.set_cons_zero, List.set_cons_succ]
                      refine wpAnyH_take (i := 1) (oi := ?_) (v := ?_) ?_ (by kernel_rfl) (by kernel_rfl) (by kernel_rfl) ?_ (Or.inl ⟨?_, ?_⟩) hHeld ?_
                      rotate_left 2
                      · simp only [List.getElem?_toArray, List.getElem?_cons_succ, List.getElem?_cons_zero]; exact rfl
                      · exact fun _ _ _ h => h
                      · rfl
                      · (intro W' hSw; (try dsimp only at hSw); go_simp; try with_reducible rfl)
                      try simp only [Act.put, List.setIfInBounds_toArray, List.set_cons_zero, List.set_cons_succ]
                      refine wpAnyH_take (i := 2) (oi := ?_) (v := ?_) ?_ (by kernel_rfl) (by kernel_rfl) (by kernel_rfl) ?_ (Or.inl ⟨?_, ?_⟩) hHeld ?_
                      rotate_left 2
                      · simp only [List.getElem?_toArray, List.getElem?_cons_succ, List.getElem?_cons_zero]; exact rfl
                      · exact fun _ _ _ h => h
                      · rfl
                      · (intro W' hSw; (try dsimp only at hSw); go_simp; try with_reducible rfl)
                      try simp only [Act.put, List.setIfInBounds_toArray, List.set_cons_zero, List.set_cons_succ]
                      refine wpAnyH_take (i := 3) (oi := ?_) (v := ?_) ?_ (by kernel_rfl) (by kernel_rfl) (by kernel_rfl) ?_ (Or.inl ⟨?_, ?_⟩) hHeld ?_
                      rotate_left 2
                      · simp only [List.getElem?_toArray, List.getElem?_cons_succ, List.getElem?_cons_zero]; exact rfl
                      · exact fun _ _ _ h => h
                      · rfl
                      · (intro W' hSw; (try dsimp only at hSw); go_simp; try with_reducible rfl)
                      try simp only [Act.put, List.setIfInBounds_toArray, List.set_cons_zero, List.set_cons_succ]
                      refine wpAnyH_take (i := 4) (oi := ?_) (v := ?_) ?_ (by kernel_rfl) (by kernel_rfl) (by kernel_rfl) ?_ (Or.inl ⟨?_, ?_⟩) hHeld ?_
                      rotate_left 2
                      · simp only [List.getElem?_toArray, List.getElem?_cons_succ, List.getElem?_cons_zero]; exact rfl
                      · exact fun _ _ _ h => h
                      · rfl
                      · (intro W' hSw; (try dsimp only at hSw); go_simp; try with_reducible rfl)
                      try simp only [Act.put, List.setIfInBounds_toArray, List.set_cons_zero, List.set_cons_succ]
                      refine wpAnyH_take (i := 6) (oi := ?_) (v := ?_) ?_ (by kernel_rfl) (by kernel_rfl) (by kernel_rfl) ?_ (Or.inl ⟨?_, ?_⟩) hHeld ?_
                      rotate_left 2
                      · simp only [List.getElem?_toArray, List.getElem?_cons_succ, List.getElem?_cons_zero]; exact rfl
                      · exact fun _ _ _ h => h
                      · rfl
                      · (intro W' hSw; (try dsimp only at hSw); go_simp; try with_reducible rfl)
                      try simp only [Act.put, List.setIfInBounds_toArray, List.set_cons_zero, List.set_cons_succ]
                      refine wpAnyH_take (i := 7) (oi := ?_) (v := ?_) ?_ (by kernel_rfl) (by kernel_rfl) (by kernel_rfl) ?_ (Or.inl ⟨?_, ?_⟩) hHeld ?_
                      rotate_left 2
                      · simp only [List.getElem?_toArray, List.getElem?_cons_succ, List.getElem?_cons_zero]; exact rfl
                      · exact fun _ _ _ h => h
                      · rfl
                      · (intro W' hSw; (try dsimp only at hSw); go_simp; try with_reducible rfl)
                      try simp only [Act.put, List.setIfInBounds_toArray, List.set_cons_zero, List.set_cons_succ]
                      refine wpAnyH_take (i := 8) (oi := ?_) (v := ?_) ?_ (by kernel_rfl) (by kernel_rfl) (by kernel_rfl) ?_ (Or.inl ⟨?_, ?_⟩) hHeld ?_
                      rotate_left 2
                      · simp only [List.getElem?_toArray, List.getElem?_cons_succ, List.getElem?_cons_zero]; exact rfl
                      · exact fun _ _ _ h => h
                      · rfl
                      · (intro W' hSw; (try dsimp only at hSw); go_simp; try with_reducible rfl)
                      try simp only [Act.put, List.setIfInBounds_toArray, List.set_cons_zero, List.set_cons_succ]
                      refine wpAnyH_take (i := 9) (oi := ?_) (v := ?_) ?_ (by kernel_rfl) (by kernel_rfl) (by kernel_rfl) ?_ (Or.inl ⟨?_, ?_⟩) hHeld ?_
                      rotate_left 2
                      · simp only [List.getElem?_toArray, List.getElem?_cons_succ, List.getElem?_cons_zero]; exact rfl
                      · exact fun _ _ _ h => h
                      · rfl
                      · (intro W' hSw; (try dsimp only at hSw); go_simp; try with_reducible rfl)
                      try simp only [Act.put, List.setIfInBounds_toArray, List.set_cons_zero, List.set_cons_succ]
                      refine wpAnyH_ready (rs := [5]) (by kernel_rfl) (by simp) ?_
                      refine AllReadyH.cons rfl (fun K hK => ?_) AllReadyH.nil
                      go_simp
                      go_at_call 50
                      refine Calls.mono (at_any _ _ _) ?_
                      rintro e3 wE3 ⟨rfl, b3⟩
                      have B3 : Below w6.heap.size w6 wE3 := bel_call (Below.refl _ _).drew b3
                      clear b3 hHeld
                      refine hK.out _ _ (HS _ fun z hz => B3.block z (HGE.out.kl z hz)) (fun hHeld => ?_)
                      clear hK K
                      refine wpAnyH_ready (rs := [10]) (by kernel_rfl) (by simp) ?_
                      refine AllReadyH.cons rfl (fun K hK => ?_) AllReadyH.nil
                      go_simp
                      go_at_call 50
                      refine Calls.mono (at_any _ _ _) ?_
                      rintro e4 wE4 ⟨rfl, b4⟩
                      have B4 : Below w6.heap.size w6 wE4 := bel_call B3 b4
                      clear b4 hHeld
                      refine hK.out _ _ (HS _ fun z hz => B4.block z (HGE.out.kl z hz)) (fun hHeld => ?_)
                      clear hK K
                      refine wpAnyH_ready (rs := [11]) (by kernel_rfl) (by simp) ?_
                      refine AllReadyH.cons rfl (fun K hK => ?_) AllReadyH.nil
                      go_simp
                      go_at_call 47
                      refine Calls.mono (edgeW (HGE.out.to B4) HEL.out _ _ (okE HYN.out HYI.out.2) (okE HNM.out HYI.out.1)) ?_
                      rintro e5 wE5 ⟨⟨r5, rfl⟩, g5, k5, z5⟩
                      have K5 := Lib.hid (show ∀ z, (K6) z → wE5.heap[z]? = w6.heap[z]? from fun z hz => (k5 z hz).trans (B4.block z (HGE.out.kl z hz)))
                      have G5 := Lib.hid g5
                      clear k5 g5 hHeld
                      refine hK.out _ _ (HS _ K5.out) (fun hHeld => ?_)
                      clear hK K
                      refine wpAnyH_done (by kernel_rfl) ?_ _
                      clear hHeld HS B3 B4 z5
                      go_wp2
                      go_roundw
                      case rel =>
                        have HF : ∃ j' : Nat, j' ≤ x.links.length ∧ Value.int .i64 ((q : Int) + 1) = .int .i64 j' ∧ Hid (GrW w0 K3 (E1 ++ edgesW x (firsts Wrap.name x.wraps) ++ edgesL x (x.links.take j')) wE5 t) ∧ Hid (∀ z, K3 z → wE5.heap[z]? = w3.heap[z]?) := ⟨q + 1, by omega, by go_num, (G5.out.cast (by rw [HNXT.out, List.append_assoc])).add (Below.refl _ _) fun z hz => .inl (HK63.out z hz), fun z hz => (K5.out z (HK63.out z hz)).trans (HS6.out z hz)⟩
                        first | exact HF | ((repeat apply Exists.intro); refine ⟨HF, ?_⟩; first | rfl | ((repeat' apply And.intro) <;> rfl) | (simp; (repeat' apply And.intro) <;> rfl))
                      case measure => simp [RowKit.intOf]; omega
                    · obtain rfl : q = x.links.length := by omega
                      have HEND := Lib.hid (show GrW w0 (fun z => (Value.slice (some ⟨g, off, none⟩) ps.length cv).ownBlock = some z) (edgesD st.deposits ++ ((ps.map (·.2)).take (k + 1)).flatMap edgesF) wr5 t from (HG.out.cast (by rw [HE1.out, HEE.out, List.take_length]; simp [edgesF])).add (Below.refl _ _) fun z hz => .inl (HK3'.out z hz))
                      have HRE := Lib.hid (HR3.out.keep (w' := wr5) fun b hb => HSAME.out b (HK3'.out b hb))
                      clear HG HSAME
                      go_wp2
                      go_roundw
                      case rel =>
                        have HF : ∃ j' : Nat, j' ≤ ps.length ∧ Value.int .i64 ((k : Int) + 1) = .int .i64 j' ∧ Hid (GrW w0 (fun z => (Value.slice (some ⟨g, off, none⟩) ps.length cv).ownBlock = some z) (edgesD st.deposits ++ ((ps.map (·.2)).take j').flatMap edgesF) wr5 t) ∧ Hid (RowC 43 7 wr5 (.slice (some ⟨g, off, none⟩) ps.length cv) (ps.map (·.1))) := ⟨k + 1, by omega, by go_num, HEND, HRE⟩
                        first | exact HF | ((repeat apply Exists.intro); refine ⟨HF, ?_⟩; first | rfl | ((repeat' apply And.intro) <;> rfl) | (simp; (repeat' apply And.intro) <;> rfl))
                      case measure => simp [RowKit.intOf]; omega
        · obtain rfl : k = ps.length := by omega
          obtain ⟨m, B, h1, h2, h3⟩ := HG.out.ex
          have HE : edgesD st.deposits ++ ((ps.map (·.2)).take ps.length).flatMap edgesF = edges st := by
            rw [List.take_of_length_le (Nat.le_of_eq (List.length_map _)), HPS.out]
            rfl
          rw [HE] at h1 h2
          have HFIN := Lib.hid (show Gr (edges st) 3000 wr2 t B ∧ (∀ z, B z → w.heap.size ≤ z) ∧ Below w.heap.size w wr2 from ⟨h1.mono (by have := HOK.out.few; omega), fun z hz => Nat.le_trans HB0.out.size (h3 z hz).1, bel_call HB0.out HG.out.bel⟩)
          clear h1 h2 h3 HE HG HROW
          go_wp2
          go_ret
          exact ⟨⟨t, B, rfl, HFIN.out.1, HFIN.out.2.1⟩, HFIN.out.2.2⟩
end Go.Proofs.Ytocofkccdfaaaaa
