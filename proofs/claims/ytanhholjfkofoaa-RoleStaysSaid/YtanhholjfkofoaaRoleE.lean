/- Layer role: Max, high, Clone. Conditions: none but that lists and texts are within a row's reach. -/
import Derived.Test.YtanhholjfkofoaaRoleD
import Derived.Test.YtanhholjfkofoaaSortM
import Derived.Laws.Cover3
namespace Go.Proofs.Ytanhholjfkofoaa
open Go.RowKit Go.Deep

def maxL : Int → List Int → Int
  | m, [] => m
  | m, x :: r => maxL (max m x) r
theorem get_Int {S : Nat → Prop} {w : World} {A : Option Addr} {l : List Int} {k : Nat} (s : SlAt 1 rInt S w A l) (hk : k < l.length) :
    ∃ x b o, l.drop k = x :: l.drop (k + 1) ∧ A = some ⟨b, o, none⟩ ∧ w.cell? ⟨b, o + k, none⟩ = some (.int .i64 x) ∧ I64 x ∧ l[k]? = some x := by
  obtain ⟨x, hx, hd, hm⟩ := at_k hk
  obtain ⟨b, o, ys, hA, hS, _, hc, hR⟩ := s k _ hx
  obtain ⟨rfl, h64⟩ := hR
  have := hc 0 _ rfl
  rw [show k * 1 + 0 = k by omega] at this
  exact ⟨x, b, o, hd, hA, this, h64, hx⟩
theorem max_any (a : Int) (r : List Int) (v : Value) (w : World) (S : Nat → Prop) (h : Sl 1 rInt S w v (a :: r)) :
    Calls Try.prog 38 #[v] w fun e w' => e = .returned (.int .i64 (maxL a r)) ∧ w = w' := by
  obtain ⟨A, c, rfl, hl, hc, hn, hs⟩ := h
  unfold maxLen at hc
  have hlen : (a :: r).length = r.length + 1 := rfl
  obtain ⟨x0, b, o, d0, rfl, c0, i0, g0⟩ := get_Int hs (k := 0) (by simp)
  simp only [List.getElem?_cons_zero, Option.some.injEq] at g0
  subst g0
  rw [Nat.add_zero] at c0
  rw [hlen] at hl hn ⊢
  clear d0
  go_enter Try.func38, Try.ntmps38
  go_wp2
  go_loop [3, 4] (fun m i => ∃ (k : Nat) (q : Int), k ≤ r.length ∧ i = .int .i64 ((k + 1 : Nat) : Int) ∧ m = .int .i64 q ∧ maxL q (r.drop k) = maxL a r) (fun _ i => r.length + 1 - (intOf i).toNat)
  case atStart => exact ⟨0, a, by omega, by go_num, rfl, by simp⟩
  case round =>
    obtain ⟨k, q, hk, rfl, rfl, E⟩ := hrel
    by_cases hlt : k < r.length
    · obtain ⟨x, b', o', xd, xe, xc, xi, xg⟩ := get_Int hs (k := k + 1) (by simp; omega)
      simp only [Option.some.injEq, Addr.mk.injEq, and_true] at xe
      obtain ⟨rfl, rfl⟩ := xe
      have hlt' : decide (((k + 1 : Nat) : Int) < ((r.length + 1 : Nat) : Int)) = true := decide_eq_true (by omega)
      rw [show r.drop k = x :: r.drop (k + 1) by simpa using xd, maxL] at E
      have EH := Lib.hid E
      clear E xd xg
      go_wp2
      go_round
      case rel => exact ⟨k + 1, _, by omega, by go_num, rfl, EH.out⟩
      case measure => simp [intOf]; omega
    · obtain rfl : k = r.length := by omega
      rw [List.drop_length] at E
      have EH := Lib.hid E
      clear E
      go_wp2
      go_ret
      exact ⟨by rw [← EH.out]; rfl, rfl⟩

theorem high_any (l : List Member) (by_ : ByteArray) (a : Int) (r : List Int) (v u : Value) (w : World) (S S' : Nat → Prop) (h : Sl 2 rMember S w v l) (k : Sl 1 rInt S' w u (a :: r)) :
    Calls Try.prog 28 #[v, .string by_, u] w fun e w' => e = .returned (.bool (decide (3 ≤ maxL a r) && decide (ofOf l by_ < 4))) ∧ Below w.heap.size w w' := by
  have cm := max_any a r u w S' k
  have co := of_any by_ l v w S h
  generalize maxL a r = m at cm ⊢
  generalize ofOf l by_ = q at co ⊢
  clear h k
  go_enter Try.func28, Try.ntmps28
  go_wp2_with (first | (go_at_call 38; refine Calls.mono cm ?_; rintro e w1 ⟨rfl, rfl⟩) | (go_at_call 13; refine Calls.mono co ?_; rintro e w2 ⟨rfl, hb2⟩))
  all_goals
    go_ret
    exact ⟨ret_bool (by first | (simp_all; done) | (simp_all; omega)), by go_grown⟩

theorem run_nil_slice (w : World) (a : Option Addr) (n c : Nat) : (binOp .eql 22 (.slice a n c) (.slice none 0 0)).run Try.prog w = .ok (.bool a.isNone) w := by
  simp only [binOp]
  simp [run_equal_slice_nil w _ _ a n c Try.underlying22]
theorem clone_any (l : List Member) (v : Value) (w : World) (S : Nat → Prop) (h : Sl 2 rMember S w v l) (hne : 0 < l.length) (hl0 : l.length ≤ 1000000) :
    Calls Try.prog 29 #[v] w fun e w' => (∃ v', e = .returned v' ∧ Grow 44 2 rMember (fun _ => False) w' w.heap.size v' l) ∧ Below w.heap.size w w' := by
  obtain ⟨iMember, hiMember, hzMember, h1Member, h2Member⟩ := info_parts (show (Try.prog.info? 44).map (fun i => (i.zero, i.size, i.bytes)) = some (some (.agg #[.string ⟨#[]⟩, .int .i64 0]), 2, 24) from by kernel_rfl)
  obtain ⟨A, c, rfl, hl, hc, hn, hs⟩ := h
  unfold maxLen at hc
  obtain ⟨x0, b, o, x0k, x0d, x0m, rfl, x0l, x0S, x00, x01, x0R, x0ok1, x0ok2⟩ := get_Member hs hne (Kept.refl w fun _ h => h)
  clear x0k x0d x0m x00 x01 x0R x0ok1 x0ok2
  have hsl : SlAt 2 rMember (Free (fun _ => False) (w.alloc (.cells #[] 44)) (.slice (some ⟨w.heap.size, 0, none⟩) 0 0)) (w.alloc (.cells #[] 44)) (some ⟨b, o, none⟩) l :=
    hs.keep rMember_ok (by decide) (fun b hb hl => ⟨⟨by simp; omega, fun h => h, fun hb' => by simp only [Value.ownBlock, Option.some.injEq] at hb'; omega⟩, heap_alloc_old _ _ hl⟩)
  clear hs
  have q22 := run_nil_slice
  go_enter Try.func29, Try.ntmps29
  go_wp2_with (at_builtin; go_loud (refine wpList_grow (R := rMember) _ rfl (.tmp 5) (.tmp 6) 22 rfl 44 iMember _ 2 24 Try.underlying22 hiMember hzMember h1Member h2Member rfl (by decide) rMember_ok w.heap.size (by go_size) _ _ rfl (Grow.empty (heap_alloc_new _ _) (Nat.le_refl _)) _ _ _ rfl _ rfl hsl (by simp; omega) (by decide) ?_); intro v1 w1 g1 gg1 go1; rw [List.nil_append] at g1; obtain ⟨A1, n1, c1, rfl, hn1⟩ := g1.shape'; clear hn1)
  go_ret
  exact ⟨⟨_, rfl, g1⟩, Below.grown (Below.alloc (Below.refl _ _) (Nat.le_refl _) _) gg1 (by simp) fun b hb => by have := Option.some.inj (show some w.heap.size = some b from hb); omega⟩
end Go.Proofs.Ytanhholjfkofoaa
