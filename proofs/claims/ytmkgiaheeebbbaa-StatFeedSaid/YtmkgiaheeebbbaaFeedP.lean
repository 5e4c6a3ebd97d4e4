/- Layer stat: what the loop of StatFeed keeps. No condition. -/
import Derived.Test.YtmkgiaheeebbbaaFeedC
import Derived.Test.YtmkgiaheeebbbaaStAwk
import Derived.Test.YtmkgiaheeebbbaaStEqA
import Derived.Test.YtmkgiaheeebbbaaStRefB
import Derived.Test.YtmkgiaheeebbbaaRowC
import Derived.Test.YtmkgiaheeebbbaaArgs
import Derived.Test.YtmkgiaheeebbbaaLaw
namespace Go.Proofs.Ytmkgiaheeebbbaa
open Go.ChangeShapes Go.WideShapes Go.ChangeAt Go.RowKit Go.Deep Go.Maps Go.Conc

theorem sl_take {α : Type} {sz : Nat} {R : Rp α} {S : Nat → Prop} {w : World} {A : Option Addr} {c : Nat} {l : List α} (h : Sl sz R S w (.slice A l.length c) l) {p : Nat} (hp : p ≤ l.length) : Sl sz R S w (.slice A p c) (l.take p) := by
  obtain ⟨A', c', hv, h1, h2, h3, h4⟩ := h
  obtain ⟨rfl, rfl⟩ : A = A' ∧ c = c' := by simpa using hv
  have hl : (l.take p).length = p := by rw [List.length_take]; omega
  refine ⟨A, c, by rw [hl], by omega, h2, by omega, fun i x hx => h4 i x ?_⟩
  rw [List.getElem?_take] at hx
  split at hx
  · exact hx
  · cases hx
def errs (L : List Answer) : List Int := L.map Answer.err
theorem errs_len (L : List Answer) : (errs L).length = L.length := List.length_map _
theorem ans_errs {S : Nat → Prop} {w : World} {v : Value} {L : List Answer} (h : Sl 7 rAnswer S w v L) : Sl 7 rAns S w v (errs L) := by
  obtain ⟨A, c, hv, h1, h2, h3, h4⟩ := h
  refine ⟨A, c, by rw [errs_len]; exact hv, by rw [errs_len]; exact h1, h2, by rw [errs_len]; exact h3, fun i e he => ?_⟩
  unfold errs at he
  rw [List.getElem?_map] at he
  cases hx : L[i]? with
  | none => rw [hx] at he; cases he
  | some x =>
    rw [hx] at he
    obtain rfl : x.err = e := by simpa using he
    obtain ⟨b, o, ys, hA, hS, hl, hc, hR⟩ := h4 i x hx
    refine ⟨b, o, ys, hA, hS, hl, hc, ?_⟩
    obtain ⟨A3, c3, A4, c4, A5, c5, A6, c6, rfl, h64, _⟩ := open_Answer hR
    exact ⟨_, _, _, _, _, _, _, _, _, _, _, _, _, _, rfl, h64⟩
theorem errs_take {L : List Answer} {p : Nat} {x : Answer} (h : L[p]? = some x) : (errs L).take (p + 1) = (errs L).take p ++ [x.err] := by
  rw [List.take_add_one]
  congr 1
  unfold errs
  rw [List.getElem?_map, h]
  rfl
def aggs (Q : List (List Value)) : List Value := Q.map fun cs => .agg cs.toArray
theorem aggs_len (Q : List (List Value)) : (aggs Q).length = Q.length := List.length_map _

/-- The law's loop: the feed, what waits, how many have been put and lost. -/
structure FL (w wr : World) (L : List Answer) (g b c m room : Nat) (v : Value) (p : Nat) (lost : Int) (Q : List (List Value)) : Prop where
  st : ∃ n D, FeedS wr g b c m room lost (aggs Q) n D ∧ n ≤ p ∧ MapIs D (cntOf ((errs L).take p)) (· ∈ (errs L).take p)
  row : RowC 39 7 wr v Q
  own : ∀ k, v.ownBlock = some k → w.heap.size ≤ k ∧ k ≠ g ∧ k ≠ b ∧ k ≠ c ∧ k ≠ m
  good : ∀ cs ∈ Q, ∃ x, rAnswer (fun _ => True) w cs x
  bel : Below w.heap.size w wr
  ql : Q.length ≤ p ∧ Q.length ≤ room
  lo : 0 ≤ lost ∧ lost ≤ p
  fb : w.heap.size ≤ g ∧ w.heap.size ≤ b ∧ w.heap.size ≤ c ∧ w.heap.size ≤ m
section
variable {w wr w2 w3 : World} {L : List Answer} {g b c m room : Nat} {v v' : Value} {p : Nat} {lost : Int} {Q : List (List Value)}
theorem FL.on (h : FL w wr L g b c m room v p lost Q) (k : Below wr.heap.size wr w2) : FL w w2 L g b c m room v p lost Q := by
  obtain ⟨⟨n, D, h1, h2, h3⟩, h4, h5, h6, h7, h8, h9, h10⟩ := h
  exact ⟨⟨n, D, h1.below k, h2, h3⟩, h4.keep fun x hx => k.block x (h4.lt x hx), h5, h6, bel_call h7 k, h8, h9, h10⟩
/-- One was taken out of the feed and of what waits. -/
theorem FL.took {cs : List Value} (h : FL w wr L g b c m room v p lost (cs :: Q)) (hb : But c wr w2) (hx : BoxA w2 b c room (aggs Q)) (k : Below w2.heap.size w2 w3) (hr : RowC 39 7 wr v' Q) (hv : v'.ownBlock = v.ownBlock) : FL w w3 L g b c m room v' p lost Q := by
  obtain ⟨⟨n, D, h1, h2, h3⟩, h4, h5, h6, h7, h8, h9, h10⟩ := h
  have hs : FeedS w2 g b c m room lost (aggs Q) n D := ⟨(hb.block g (h1.lt g (.inl rfl)) h1.gc).trans h1.feed, hx, own_of h1.own (hb.block m (h1.lt m (.inr (.inr (.inr rfl)))) (Ne.symm h1.cm)), h1.gb, h1.gc, h1.gm, h1.bm, h1.cm⟩
  have hr2 : RowC 39 7 w2 v' Q := hr.keep fun x hx => hb.block x (hr.lt x hx) (h5 x (hv ▸ hx)).2.2.2.1
  have hbel : Below w.heap.size w w2 := ⟨hb.os.trans h7.os, hb.tape.trans h7.tape, hb.output.trans h7.output, Nat.le_trans h7.size hb.size, fun x hx => (hb.block x (Nat.lt_of_lt_of_le hx h7.size) (by omega)).trans (h7.block x hx)⟩
  simp only [List.length_cons] at h8
  exact ⟨⟨n, D, hs.below k, h2, h3⟩, hr2.keep fun x hx => k.block x (hr2.lt x hx), fun x hx => h5 x (hv ▸ hx), fun y hy => h6 y (List.mem_cons_of_mem _ hy), bel_call hbel k, ⟨by omega, by omega⟩, h9, h10⟩
/-- None was there. -/
theorem FL.none (h : FL w wr L g b c m room v p lost []) (hb : But c wr w2) (hx : BoxA w2 b c room []) (k : Below w2.heap.size w2 w3) : FL w w3 L g b c m room v p lost [] := by
  obtain ⟨⟨n, D, h1, h2, h3⟩, h4, h5, h6, h7, h8, h9, h10⟩ := h
  have hs : FeedS w2 g b c m room lost (aggs []) n D := ⟨(hb.block g (h1.lt g (.inl rfl)) h1.gc).trans h1.feed, hx, own_of h1.own (hb.block m (h1.lt m (.inr (.inr (.inr rfl)))) (Ne.symm h1.cm)), h1.gb, h1.gc, h1.gm, h1.bm, h1.cm⟩
  have hr2 : RowC 39 7 w2 v [] := h4.keep fun x hx => hb.block x (h4.lt x hx) (h5 x hx).2.2.2.1
  have hbel : Below w.heap.size w w2 := ⟨hb.os.trans h7.os, hb.tape.trans h7.tape, hb.output.trans h7.output, Nat.le_trans h7.size hb.size, fun x hx => (hb.block x (Nat.lt_of_lt_of_le hx h7.size) (by omega)).trans (h7.block x hx)⟩
  exact ⟨⟨n, D, hs.below k, h2, h3⟩, hr2.keep fun x hx => k.block x (hr2.lt x hx), h5, h6, bel_call hbel k, h8, h9, h10⟩
/-- One that had no room. -/
theorem FL.full {x : Answer} {n : Nat} {D : DataW Unit} (h : FL w wr L g b c m room v p lost Q) (hx : L[p]? = some x) (hs : FeedS w2 g b c m room (lost + 1) (aggs Q) (n + 1) (D.put (.int .i64 x.err) (.lit (.int .i64 (cntOf ((errs L).take p) x.err + 1))))) (hn : n ≤ p) (hm : MapIs D (cntOf ((errs L).take p)) (· ∈ (errs L).take p)) (hb : ButB (Fb g c m) wr w2) : FL w w2 L g b c m room v (p + 1) (lost + 1) Q := by
  obtain ⟨_, h4, h5, h6, h7, h8, h9, h10⟩ := h
  refine ⟨⟨n + 1, _, hs, by omega, by rw [errs_take hx]; exact cnt_step _ _ hm⟩, h4.keep fun y hy => hb.block y (h4.lt y hy) ?_, h5, h6, ButB.below h7 h7.size ?_ hb, ⟨by omega, h8.2⟩, by omega, h10⟩
  · obtain ⟨q1, q2, q3, q4, q5⟩ := h5 y hy
    rintro (h | h | h)
    · exact q2 h
    · exact q4 h
    · exact q5 h
  · rintro k (rfl | rfl | rfl)
    · exact h10.1
    · exact h10.2.2.1
    · exact h10.2.2.2
/-- One that had room. -/
theorem FL.put {x : Answer} {cs : List Value} {n : Nat} {D : DataW Unit} (h : FL w wr L g b c m room v p lost Q) (hx : L[p]? = some x) (hcs : rAnswer (fun _ => True) w cs x) (hroom : Q.length < room) (hs : FeedS w2 g b c m room lost (aggs Q ++ [.agg cs.toArray]) (n + 1) (D.put (.int .i64 x.err) (.lit (.int .i64 (cntOf ((errs L).take p) x.err + 1))))) (hn : n ≤ p) (hm : MapIs D (cntOf ((errs L).take p)) (· ∈ (errs L).take p)) (hb : ButB (Fb g c m) wr w2)
    (hr : RowC 39 7 w3 v' (Q ++ [cs])) (hg : w2.grownBy w3 v.ownBlock) (hv : v'.ownBlock = v.ownBlock ∨ ∃ k, v'.ownBlock = some k ∧ w2.heap.size ≤ k) : FL w w3 L g b c m room v' (p + 1) lost (Q ++ [cs]) := by
  obtain ⟨_, h4, h5, h6, h7, h8, h9, h10⟩ := h
  have hbel : Below w.heap.size w w2 := ButB.below h7 h7.size (by
    rintro k (rfl | rfl | rfl)
    · exact h10.1
    · exact h10.2.2.1
    · exact h10.2.2.2) hb
  have hne : ∀ y, y = g ∨ y = b ∨ y = c ∨ y = m → v.ownBlock ≠ some y := by
    rintro y hy e
    obtain ⟨q1, q2, q3, q4, q5⟩ := h5 y e
    rcases hy with h | h | h | h
    · exact q2 h
    · exact q3 h
    · exact q4 h
    · exact q5 h
  have hs3 : FeedS w3 g b c m room lost (aggs (Q ++ [cs])) (n + 1) (D.put (.int .i64 x.err) (.lit (.int .i64 (cntOf ((errs L).take p) x.err + 1)))) := by
    have : aggs (Q ++ [cs]) = aggs Q ++ [.agg cs.toArray] := by simp [aggs]
    rw [this]
    exact hs.of fun y hy => hg.block y (hs.lt y hy) (fun e => hne y hy e.symm)
  refine ⟨⟨n + 1, _, hs3, by omega, by rw [errs_take hx]; exact cnt_step _ _ hm⟩, hr, fun k hk => ?_, fun y hy => ?_, Below.grown hbel hg hbel.size fun k hk => (h5 k hk).1, by rw [List.length_append, List.length_singleton]; omega, by omega, h10⟩
  · rcases hv with hv | ⟨k', hv, hk'⟩
    · exact h5 k (hv ▸ hk)
    · rw [hv] at hk
      obtain rfl : k' = k := Option.some.inj hk
      have l1 := hs.lt g (.inl rfl)
      have l2 := hs.lt b (.inr (.inl rfl))
      have l3 := hs.lt c (.inr (.inr (.inl rfl)))
      have l4 := hs.lt m (.inr (.inr (.inr rfl)))
      have := hbel.size
      refine ⟨by omega, by omega, by omega, by omega, by omega⟩
  · rcases List.mem_append.1 hy with hy | hy
    · exact h6 y hy
    · obtain rfl : y = cs := by simpa using hy
      exact ⟨x, hcs⟩
end
end Go.Proofs.Ytmkgiaheeebbbaa
