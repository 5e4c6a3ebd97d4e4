/- Layer tree: both trees side by side. No condition but those that each lemma names. -/
import Derived.Test.YthcmlakifdoneaaTrLawA
namespace Go.Proofs.Ythcmlakifdoneaa
open Go.RowKit Go.Deep

/-- The program's tree, the document's, and the names that were met. -/
structure DS (w wr : World) (t m r : Nat) (v x : Value) (n : Nat) (D : DataW Unit) (F : Fs) (N : List Node) (nm : List Nm) : Prop where
  tree : TreeS wr t m n D F
  ref : RTreeS wr r v N
  row : RowC 9 1 wr x (strs nm)
  tr : t ≠ r
  mr : m ≠ r
  tv : v.ownBlock ≠ some t
  mv : v.ownBlock ≠ some m
  xt : x.ownBlock ≠ some t
  xm : x.ownBlock ≠ some m
  xr : x.ownBlock ≠ some r
  xv : ∀ b, x.ownBlock = some b → v.ownBlock ≠ some b
  ft : w.heap.size ≤ t
  fm : w.heap.size ≤ m
  fr : w.heap.size ≤ r
  fv : ∀ b, v.ownBlock = some b → w.heap.size ≤ b
  fx : ∀ b, x.ownBlock = some b → w.heap.size ≤ b
  bel : Below w.heap.size w wr
section
variable {w wr w' : World} {t m r : Nat} {v x : Value} {n : Nat} {D : DataW Unit} {F : Fs} {N : List Node} {nm : List Nm}
theorem DS.on (h : DS w wr t m r v x n D F N nm) (k : Below wr.heap.size wr w') : DS w w' t m r v x n D F N nm :=
  ⟨h.tree.below k, h.ref.below k, h.row.keep fun b hb => k.block b (h.row.lt b hb), h.tr, h.mr, h.tv, h.mv, h.xt, h.xm, h.xr, h.xv, h.ft, h.fm, h.fr, h.fv, h.fx, bel_call h.bel k⟩
theorem DS.stepT (h : DS w wr t m r v x n D F N nm) {F' : Fs} (k : TreeTo wr w' t m n F') : ∃ n' D', n' ≤ n + 1 ∧ DS w w' t m r v x n' D' F' N nm := by
  obtain ⟨⟨n', D', hn, hs⟩, hb⟩ := k
  have hk : ∀ b, b < wr.heap.size → b ≠ m → w'.heap[b]? = wr.heap[b]? := fun b h1 h2 => hb.block b h1 h2
  refine ⟨n', D', hn, hs, h.ref.of fun b hb' => ?_, h.row.keep fun b hb' => hk b (h.row.lt b hb') (fun e => h.xm (e ▸ hb')), h.tr, h.mr, h.tv, h.mv, h.xt, h.xm, h.xr, h.xv, h.ft, h.fm, h.fr, h.fv, h.fx, ButB.below h.bel h.bel.size (by rintro y rfl; exact h.fm) hb⟩
  rcases hb' with rfl | hb'
  · exact hk _ (blk_lt h.ref.cell) (Ne.symm h.mr)
  · exact hk _ (h.ref.row.lt b hb') (fun e => h.mv (e ▸ hb'))
theorem DS.stepR (h : DS w wr t m r v x n D F N nm) {F' : Fs} (k : RTo wr w' r v N F') : ∃ v' N', fN N' = F' ∧ N'.length ≤ N.length + 1 ∧ DS w w' t m r v' x n D F N' nm := by
  obtain ⟨v', N', hr, hf, hl, ho, hb⟩ := k
  have hk : ∀ b, b < wr.heap.size → b ≠ r → v.ownBlock ≠ some b → w'.heap[b]? = wr.heap[b]? := fun b h1 h2 h3 => hb.block b h1 (fun e => e.elim h2 h3)
  have hlt := h.tree.lt t (.inl rfl)
  have hlm := h.tree.lt m (.inr rfl)
  have hv' : ∀ b, b < wr.heap.size → v.ownBlock ≠ some b → v'.ownBlock ≠ some b := fun b h1 h2 e => by
    rcases ho with ho | ⟨q, hq, hq2⟩
    · exact h2 (ho ▸ e)
    · rw [hq] at e; cases e; omega
  refine ⟨v', N', hf, hl, h.tree.of fun b hb' => ?_, hr, h.row.keep fun b hb' => hk b (h.row.lt b hb') (fun e => h.xr (e ▸ hb')) (h.xv b hb'), h.tr, h.mr, hv' t hlt h.tv, hv' m hlm h.mv, h.xt, h.xm, h.xr, fun b hb' => hv' b (h.row.lt b hb') (h.xv b hb'), h.ft, h.fm, h.fr, fun b hb' => ?_, h.fx, ButB.below h.bel h.bel.size (by rintro y (rfl | hy) <;> first | exact h.fr | exact h.fv _ hy) hb⟩
  · rcases hb' with rfl | rfl
    · exact hk _ hlt h.tr h.tv
    · exact hk _ hlm h.mr h.mv
  · rcases ho with ho | ⟨q, hq, hq2⟩
    · exact h.fv b (ho ▸ hb')
    · rw [hq] at hb'; cases hb'; exact Nat.le_trans h.bel.size hq2
/-- One name more. -/
theorem DS.stepX (h : DS w wr t m r v x n D F N nm) {x' : Value} {s : Nm} (hr : RowC 9 1 w' x' (strs (nm ++ [s]))) (hg : wr.grownBy w' x.ownBlock) (ho : x'.ownBlock = x.ownBlock ∨ ∃ k, x'.ownBlock = some k ∧ wr.heap.size ≤ k) : DS w w' t m r v x' n D F N (nm ++ [s]) := by
  have hlt := h.tree.lt t (.inl rfl)
  have hlm := h.tree.lt m (.inr rfl)
  have hlr := blk_lt h.ref.cell
  have hx' : ∀ b, b < wr.heap.size → x.ownBlock ≠ some b → x'.ownBlock ≠ some b := fun b h1 h2 e => by
    rcases ho with ho | ⟨q, hq, hq2⟩
    · exact h2 (ho ▸ e)
    · rw [hq] at e; cases e; omega
  refine ⟨h.tree.of fun b hb' => ?_, h.ref.of fun b hb' => ?_, hr, h.tr, h.mr, h.tv, h.mv, hx' t hlt h.xt, hx' m hlm h.xm, hx' r hlr h.xr, fun b hb' e => ?_, h.ft, h.fm, h.fr, h.fv, fun b hb' => ?_, Below.grown h.bel hg h.bel.size h.fx⟩
  · rcases hb' with rfl | rfl
    · exact hg.block _ hlt (fun e => h.xt e.symm)
    · exact hg.block _ hlm (fun e => h.xm e.symm)
  · rcases hb' with rfl | hb'
    · exact hg.block _ hlr (fun e => h.xr e.symm)
    · exact hg.block _ (h.ref.row.lt b hb') (fun e => h.xv b e.symm hb')
  · exact hx' b (h.ref.row.lt b e) (fun e2 => h.xv b e2 e) hb'
  · rcases ho with ho | ⟨q, hq, hq2⟩
    · exact h.fx b (ho ▸ hb')
    · rw [hq] at hb'; cases hb'; exact Nat.le_trans h.bel.size hq2
end
/-! What the operations keep. -/
theorem name_ne {s : Nm} (h : nameOk s = true) : s ≠ Top := fun e => by rw [e] at h; revert h; decide
theorem may_iff {F : Fs} {p : Nm} : mayB F p = true ↔ p = Top ∨ liveB F p = true := by unfold mayB; simp
theorem add_keeps {F : Fs} (hI : Inv F) (hS : Small F) {s p : Nm} (hs : s.size ≤ 1000) (hp : p.size ≤ 1000) : Inv (addF F s p) ∧ Small (addF F s p) := by
  unfold addF
  by_cases h0 : addE F s p = 0
  · rw [if_pos h0]
    unfold addE at h0
    cases hk : nameOk s with
    | false => rw [if_pos hk] at h0; cases h0
    | true =>
      rw [hk, if_neg (by decide)] at h0
      cases hf : F s with
      | some q => rw [hf] at h0; simp at h0
      | none =>
        rw [hf, if_neg (by simp)] at h0
        cases hm : mayB F p with
        | false => rw [if_pos hm] at h0; cases h0
        | true =>
          rw [hm, if_neg (by decide)] at h0
          have hc : ¬ 4 ≤ (ch F p).length := fun h => by rw [if_pos h] at h0; cases h0
          exact ⟨hI.add (by unfold liveB; rw [hf]) (name_ne hk) (may_iff.1 hm) (by omega), hS.upd false hs hp⟩
  · rw [if_neg h0]
    exact ⟨hI, hS⟩
theorem move_keeps {F : Fs} (hI : Inv F) (hS : Small F) {s p : Nm} {k : Nat} (hk : HighIf F s p k) (hs : s.size ≤ 1000) (hp : p.size ≤ 1000) : Inv (moveF F s p k) ∧ Small (moveF F s p k) := by
  unfold moveF
  by_cases h0 : moveE F s p k = 0
  · rw [if_pos h0]
    unfold moveE at h0
    cases hl : liveB F s with
    | false => rw [if_pos hl] at h0; cases h0
    | true =>
      rw [hl, if_neg (by decide)] at h0
      cases hm : mayB F p with
      | false => rw [if_pos hm] at h0; cases h0
      | true =>
        rw [hm, if_neg (by decide)] at h0
        cases hc : memB (ch F p) s with
        | true => rw [if_pos hc] at h0; cases h0
        | false =>
          rw [hc, if_neg (by decide)] at h0
          have h4 : ¬ 4 < (ch F p).length + k := fun h => by rw [if_pos h] at h0; cases h0
          exact ⟨hI.move hl (may_iff.1 hm) (fun h => by rw [memB_iff.2 h] at hc; cases hc) (hk hl hm hc) (by omega), hS.upd false hs hp⟩
  · rw [if_neg h0]
    exact ⟨hI, hS⟩
theorem rm_keeps {F : Fs} (hI : Inv F) (hS : Small F) {s : Nm} {R : List Nm} (hk : KidsIf F s R) (hs : s.size ≤ 1000) : Inv (rmF F s R) ∧ Small (rmF F s R) := by
  unfold rmF
  by_cases h0 : rmE F s R = 0
  · rw [if_pos h0]
    unfold rmE at h0
    cases hl : liveB F s with
    | false => rw [if_pos hl] at h0; cases h0
    | true =>
      rw [hl, if_neg (by decide)] at h0
      have hR : ¬ 0 < R.length := fun h => by rw [if_pos h] at h0; cases h0
      have hR0 : R = [] := List.eq_nil_of_length_eq_zero (by omega)
      refine ⟨hI.gone hl fun x hx hp => ?_, hS.upd true hs (hS.par s)⟩
      have := ((hk hl).2 x).2 ⟨hx, hp⟩
      rw [hR0] at this
      simp at this
  · rw [if_neg h0]
    exact ⟨hI, hS⟩
end Go.Proofs.Ythcmlakifdoneaa
