/- Layer role: slices.Delete of one element of a call's own list of members. Condition: the list is at most a million long. -/
import Derived.Test.YtanhholjfkofoaaRoleE
import Derived.Deep.RegionLaw
import Derived.Laws.IdiomCopy
import Derived.Lib.SliceRun
namespace Go.Proofs.Ytanhholjfkofoaa
open Go.RowKit Go.Deep

theorem run_clearM (w : World) (g o c : Nat) (ty : TypeId) (hc : ∀ j, j < 2 → (w.cell? ⟨g, o + j, none⟩).isSome = true) (hf : ∀ j, w.frozen? ⟨g, j, none⟩ = false) :
    (Builtin.clear_ #[22] ty #[.slice (some ⟨g, o, none⟩) 1 c]).run Try.prog w = .ok (.tuple #[]) (w.setCells g o [.string ⟨#[]⟩, .int .i64 0]) := by
  have hzc : (Builtin.zeroCells (Value.agg #[.string ⟨#[]⟩, .int .i64 0]).cells 1).toList = [.string ⟨#[]⟩, .int .i64 0] := by kernel_rfl
  have hst := run_storeCells_cells (P := Try.prog) g o [.string ⟨#[]⟩, .int .i64 0] 0 w (by simpa using hc) (fun j _ => hf _) (by intro v hv; simp at hv; rcases hv with rfl | rfl <;> rfl)
  simp only [Nat.add_zero] at hst
  have hz := Try.zeroValue44
  simp [Builtin.clear_, run_underlying Try.underlying22, hz, hzc, hst]

def cellsM (l : List Member) : List Value := l.flatMap encM
theorem cellsM_len : ∀ l : List Member, (cellsM l).length = l.length * 2
  | [] => rfl
  | m :: r => by
    have := cellsM_len r
    unfold cellsM at this ⊢
    rw [List.flatMap_cons, List.length_append, this, List.length_cons]
    simp [encM]
    omega
theorem cellsM_at : ∀ (l : List Member) (k j : Nat) (x : Member), l[k]? = some x → j < 2 → (cellsM l)[k * 2 + j]? = (encM x)[j]?
  | [], k, j, x, h, _ => by simp at h
  | m :: r, 0, j, x, h, hj => by
    simp at h
    subst h
    unfold cellsM
    rw [List.flatMap_cons, List.getElem?_append_left (by simp [encM]; omega)]
    simp
  | m :: r, k + 1, j, x, h, hj => by
    have := cellsM_at r k j x (by simpa using h) hj
    unfold cellsM at this ⊢
    rw [List.flatMap_cons, List.getElem?_append_right (by simp [encM]; omega), ← this]
    congr 1
    simp [encM]
    omega
theorem cellsM_one (l : List Member) : ∀ u ∈ cellsM l, u.oneCell' = true := by
  intro u hu
  obtain ⟨x, _, hx⟩ := List.mem_flatMap.1 hu
  simp [encM] at hx
  rcases hx with rfl | rfl <;> rfl
theorem cellsM_get {l : List Member} {q : Nat} {u : Value} (h : (cellsM l)[q]? = some u) : ∃ k j x, k < l.length ∧ j < 2 ∧ q = k * 2 + j ∧ l[k]? = some x ∧ (encM x)[j]? = some u := by
  have hq : q < l.length * 2 := by rw [← cellsM_len]; exact (List.getElem?_eq_some_iff.1 h).1
  obtain ⟨x, hx⟩ : ∃ x, l[q / 2]? = some x := ⟨_, List.getElem?_eq_getElem (show q / 2 < l.length by omega)⟩
  have := cellsM_at l (q / 2) (q % 2) x hx (by omega)
  rw [show q / 2 * 2 + q % 2 = q by omega] at this
  exact ⟨q / 2, q % 2, x, by omega, by omega, by omega, hx, by rw [← this]; exact h⟩

set_option maxHeartbeats 4000000 in
theorem delete_any (l : List Member) (i : Nat) (hi : i < l.length) (hl0 : l.length ≤ 1000000) (v : Value) (w : World) (B : Nat → Prop) (base : Nat) (h : Grow 44 2 rMember B w base v l) :
    Calls Try.prog 34 #[v, .int .i64 i, .int .i64 ((i : Int) + 1)] w fun e w' => (∃ v', e = .returned v' ∧ Sl 2 rMember (fun _ => True) w' v' (l.eraseIdx i)) ∧ Below base w w' := by
  obtain ⟨h1, h2, xs, ⟨h3, h4⟩, h5⟩ := h
  rcases h4 with ⟨rfl, h0⟩ | ⟨g, cap, cur, rfl, hbg, hg, hnc, hcm, hcs, htk⟩
  · omega
  unfold maxLen at hcm
  -- the row's cells
  have hcell : ∀ k x, l[k]? = some x → (∀ j y, (encM x)[j]? = some y → w.cell? ⟨g, k * 2 + j, none⟩ = some y) ∧ x.name.size ≤ 140737488355328 ∧ I64 x.role := by
    intro k x hx
    obtain ⟨ys, y1, y2, y3⟩ := h5 k x hx
    obtain ⟨rfl, y4⟩ := open_Member y3
    refine ⟨fun j y hj => ?_, y4⟩
    have hx' := y2 j y hj
    rw [cell_of_row w g _ cur _ (0, 0) hg]
    rw [← htk, List.getElem?_take] at hx'
    split at hx'
    · simpa using hx'
    · cases hx'
  have hfz : ∀ j, w.frozen? ⟨g, j, none⟩ = false := (blk_cells hg).2
  have hlt := blk_lt hg
  have hsome : ∀ q, q < cap * 2 → (w.cell? ⟨g, q, none⟩).isSome = true := by
    intro q hq
    rw [cell_of_row w g _ cur _ (0, 0) hg, Array.getElem?_eq_getElem (by omega)]
    rfl
  obtain ⟨news, hnews⟩ : ∃ news, news = cellsM (l.drop (i + 1)) := ⟨_, rfl⟩
  have hlen : news.length = (l.length - (i + 1)) * 2 := by rw [hnews, cellsM_len, List.length_drop]
  obtain ⟨A, hA, hsrc⟩ : ∃ A : Addr, (if cap = i + 1 then some (⟨g, 0, none⟩ : Addr) else some ⟨g, (i + 1) * 2, none⟩) = some A ∧ Hid (∀ t u, news[t]? = some u → w.drew.cell? (A.add t) = some u) := by
    by_cases hc : cap = i + 1
    · refine ⟨⟨g, 0, none⟩, by simp [hc], fun t u hu => ?_⟩
      have : news = [] := List.eq_nil_of_length_eq_zero (by omega)
      rw [this] at hu
      simp at hu
    · refine ⟨⟨g, (i + 1) * 2, none⟩, by simp [hc], fun t u hu => ?_⟩
      rw [hnews] at hu
      obtain ⟨k, j, x, hk, hj, rfl, hx, hu⟩ := cellsM_get hu
      rw [List.getElem?_drop] at hx
      have := (hcell _ x hx).1 j u hu
      rw [Addr.add_lit, show (i + 1) * 2 + (k * 2 + j) = (i + 1 + k) * 2 + j by omega]
      exact this
  have s1 : Hid (news.length = (l.length - (i + 1)) * 2) := hlen
  have s2 : Hid (∀ u ∈ news, u.oneCell' = true) := by rw [hnews]; exact cellsM_one _
  have s3 : Hid (∀ t, t < news.length → (w.drew.cell? ⟨g, 0 + i * 2 + t, none⟩).isSome = true ∧ w.drew.frozen? ⟨g, 0 + i * 2 + t, none⟩ = false) := by
    intro t ht
    exact ⟨hsome _ (by omega), hfz _⟩
  obtain ⟨W1, hW1⟩ : ∃ W1, W1 = w.drew.setCells g (0 + i * 2) news := ⟨_, rfl⟩
  have hW : Hid (W1 = w.drew.setCells g (0 + i * 2) news) := hW1
  have hf1 : ∀ j, W1.frozen? ⟨g, j, none⟩ = false := fun j => by rw [hW1, World.frozen?_setCells]; exact hfz j
  have hs1 : ∀ q, q < cap * 2 → (W1.cell? ⟨g, q, none⟩).isSome = true := fun q hq => by rw [hW1]; exact World.isSome_setCells g news _ _ _ (hsome q hq)
  have hcl : ∀ ty, (Builtin.clear_ #[22] ty #[.slice (some ⟨g, (i + (l.length - (i + 1))) * 2, none⟩) (l.length - (i + (l.length - (i + 1)))) (cap - (i + (l.length - (i + 1))))]).run Try.prog W1 = .ok (.tuple #[]) (W1.setCells g ((i + (l.length - (i + 1))) * 2) [.string ⟨#[]⟩, .int .i64 0]) :=
    fun ty => by rw [show l.length - (i + (l.length - (i + 1))) = 1 by omega]; exact run_clearM W1 g _ _ ty (fun j hj => hs1 _ (by omega)) hf1
  -- what lies in the row at the end
  have hend : Hid (∀ k x, (l.eraseIdx i)[k]? = some x → (∀ j y, (encM x)[j]? = some y → (W1.setCells g ((i + (l.length - (i + 1))) * 2) [.string ⟨#[]⟩, .int .i64 0]).cell? ⟨g, k * 2 + j, none⟩ = some y) ∧ x.name.size ≤ 140737488355328 ∧ I64 x.role) := by
    intro k x hx
    have hkl : k < l.length - 1 := by
      have := (List.getElem?_eq_some_iff.1 hx).1
      rwa [List.length_eraseIdx_of_lt hi] at this
    rw [List.getElem?_eraseIdx] at hx
    by_cases hki : k < i
    · rw [if_pos hki] at hx
      obtain ⟨c1, c2⟩ := hcell k x hx
      refine ⟨fun j y hj => ?_, c2⟩
      have hj2 : j < 2 := (List.getElem?_eq_some_iff.1 hj).1
      rw [World.cell?_setCells_out _ _ _ _ _ (fun _ _ => .inl (by show k * 2 + j < _; omega)), hW1, World.cell?_setCells_out _ _ _ _ _ (fun _ _ => .inl (by show k * 2 + j < _; omega))]
      exact c1 j y hj
    · rw [if_neg hki] at hx
      obtain ⟨c1, c2⟩ := hcell (k + 1) x hx
      refine ⟨fun j y hj => ?_, c2⟩
      have hj2 : j < 2 := (List.getElem?_eq_some_iff.1 hj).1
      rw [World.cell?_setCells_out _ _ _ _ _ (fun _ _ => .inl (by show k * 2 + j < _; omega)), hW1]
      have hq : (k - i) * 2 + j < news.length := by omega
      have h9 := World.cell?_setCells_in g news (0 + i * 2) w.drew (fun j hj => (s3.out j hj).1) ((k - i) * 2 + j) hq
      rw [show 0 + i * 2 + ((k - i) * 2 + j) = k * 2 + j by omega] at h9
      rw [h9]
      have h8 : (l.drop (i + 1))[k - i]? = some x := by rw [List.getElem?_drop, show i + 1 + (k - i) = k + 1 by omega]; exact hx
      have h7 := cellsM_at _ _ j x h8 hj2
      rw [← hnews, List.getElem?_eq_getElem hq] at h7
      rw [h7, hj]
  have hbel : Hid (Below base w (W1.setCells g ((i + (l.length - (i + 1))) * 2) [.string ⟨#[]⟩, .int .i64 0])) := by
    have hsz : ∀ (vs : List Value) (o : Nat) (w : World), (w.setCells g o vs).heap.size = w.heap.size := by
      intro vs
      induction vs with
      | nil => intro o w; rfl
      | cons v r ih => intro o w; rw [World.setCells, ih]; simp
    have hbk : ∀ (vs : List Value) (o : Nat) (w : World) (b : Nat), b ≠ g → (w.setCells g o vs).heap[b]? = w.heap[b]? := by
      intro vs
      induction vs with
      | nil => intro o w b _; rfl
      | cons v r ih => intro o w b hb; rw [World.setCells, ih _ _ _ hb, Below.heap_setCell _ _ _ _ hb]
    have hos : ∀ (vs : List Value) (o : Nat) (w : World), (w.setCells g o vs).os = w.os ∧ (w.setCells g o vs).tape = w.tape ∧ (w.setCells g o vs).output = w.output := by
      intro vs
      induction vs with
      | nil => intro o w; exact ⟨rfl, rfl, rfl⟩
      | cons v r ih => intro o w; rw [World.setCells]; obtain ⟨a, b, c⟩ := ih (o + 1) (w.setCell ⟨g, o, none⟩ v); exact ⟨a.trans rfl, b.trans rfl, c.trans rfl⟩
    obtain ⟨a1, a2, a3⟩ := hos [.string ⟨#[]⟩, .int .i64 0] ((i + (l.length - (i + 1))) * 2) W1
    obtain ⟨b1, b2, b3⟩ := hos news (0 + i * 2) w.drew
    rw [← hW1] at b1 b2 b3
    refine ⟨a1.trans b1, a2.trans b2, a3.trans b3, ?_, fun b hb => ?_⟩
    · rw [hsz, hW1, hsz]; exact Nat.le_refl _
    · rw [hbk _ _ _ _ (by omega), hW1, hbk _ _ _ _ (by omega)]; rfl
  have hic : i ≤ cap := by omega
  have hjc : i + 1 ≤ cap := by omega
  have hb1 : (0 : Int) ≤ (i : Int) + 1 := by omega
  have hb2 : (i : Int) + 1 ≤ (l.length : Int) := by omega
  clear hW1 hs1 hf1 hsome hfz hcell hnews hlen h5 h2 htk hcs hg
  obtain ⟨iMember, hiMember, hzMember, h1Member, h2Member⟩ := info_parts (show (Try.prog.info? 44).map (fun i => (i.zero, i.size, i.bytes)) = some (some (.agg #[.string ⟨#[]⟩, .int .i64 0]), 2, 24) from by kernel_rfl)
  go_enter Try.func34, Try.ntmps34
  go_wp2_with fail
  go_region_law (refine step_append_room rfl (.tmp 22) (.tmp 25) 22 rfl 44 iMember 2 Try.underlying22 hiMember h1Member g 0 i cap (by simp [Act.eval, Act.put]) A (l.length - (i + 1)) (cap - (i + 1)) news (by simp [Act.eval, Act.put]; try omega) s1.out hsrc.out s2.out (by omega) s3.out ?_; rw [← hW.out])
  go_wp2
  go_ret
  refine ⟨⟨.slice (some ⟨g, 0, none⟩) (i + (l.length - (i + 1))) cap, rfl, ⟨some ⟨g, 0, none⟩, cap, by rw [List.length_eraseIdx_of_lt hi, show l.length - 1 = i + (l.length - (i + 1)) by omega], by rw [List.length_eraseIdx_of_lt hi]; omega, by unfold maxLen; omega, by rw [List.length_eraseIdx_of_lt hi]; omega, fun k x hx => ?_⟩⟩, hbel.out⟩
  obtain ⟨e1, e2⟩ := hend.out k x hx
  exact ⟨g, 0, encM x, rfl, trivial, rfl, fun j y hj => by rw [Nat.zero_add]; exact e1 j y hj, rfl, e2⟩
end Go.Proofs.Ytanhholjfkofoaa
