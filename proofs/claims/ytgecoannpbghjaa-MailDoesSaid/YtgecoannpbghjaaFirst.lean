/- Layer mail: First of four boxes; Ints. Condition: the state. -/
import Derived.Test.YtgecoannpbghjaaOpsB
import Derived.Deep.QuietTactic
namespace Go.Proofs.Ytgecoannpbghjaa
open Go.RowKit Go.Deep Go.Conc

/-- What First gives of boxes a, none, b, c: which one (0: a, 1: b, 2: c, 3: none). -/
def pickOf (la lb lc : List Int) : Nat := if la ≠ [] then 0 else if lb ≠ [] then 1 else if lc ≠ [] then 2 else 3
def fstI (p : Nat) : Int := if p = 0 then 0 else if p = 1 then 2 else if p = 2 then 3 else 0

/-- What First gives, and where. -/
def FirstPost (lx ly lz : List Int) (sx sy sz s0 : World → Prop) (e : Ending) (w' : World) : Prop :=
  (lx ≠ [] → e = .returned (.tuple #[.int .i64 0, .int .i64 (lx.headD 0), .bool true]) ∧ sx w') ∧
  (lx = [] → ly ≠ [] → e = .returned (.tuple #[.int .i64 2, .int .i64 (ly.headD 0), .bool true]) ∧ sy w') ∧
  (lx = [] → ly = [] → lz ≠ [] → e = .returned (.tuple #[.int .i64 3, .int .i64 (lz.headD 0), .bool true]) ∧ sz w') ∧
  (lx = [] → ly = [] → lz = [] → e = .returned (.tuple #[.int .i64 0, .int .i64 0, .bool false]) ∧ s0 w')
section
variable {w0 w : World} {pb pw : Nat} {D : Option (Nat × Obj)} {ab : List Ab} {a b c : Nat} {x y z : Ab}
set_option maxHeartbeats 4000000 in
theorem st_first (h : St w0 pb pw D w ab) (hx : ab[a]? = some x) (hy : ab[b]? = some y) (hz : ab[c]? = some z) (p : Nat)
    (c0 : w.cell? ⟨p, 0, none⟩ = some (.pointer (some ⟨x.b, 0, none⟩))) (c1 : w.cell? ⟨p, 1, none⟩ = some (.pointer none)) (c2 : w.cell? ⟨p, 2, none⟩ = some (.pointer (some ⟨y.b, 0, none⟩))) (c3 : w.cell? ⟨p, 3, none⟩ = some (.pointer (some ⟨z.b, 0, none⟩))) :
    Calls Try.prog 27 #[.slice (some ⟨p, 0, none⟩) 4 4] w fun e w' => FirstPost x.lm y.lm z.lm (fun W => St w0 pb pw D W (ab.set a { x with lm := x.lm.tail })) (fun W => St w0 pb pw D W (ab.set b { y with lm := y.lm.tail })) (fun W => St w0 pb pw D W (ab.set c { z with lm := z.lm.tail })) (fun W => St w0 pb pw D W ab) e w' := by
  have none_of : ∀ {i : Nat} {u : Ab}, ab[i]? = some u → u.lm = [] → Calls Try.prog 24 #[.pointer (some ⟨u.b, 0, none⟩)] w fun e w' => e = .returned (.tuple #[.int .i64 0, .bool false]) ∧ w' = w := by
    intro i u hu he
    obtain ⟨cc, hb, _⟩ := h.box hu
    rw [he] at hb
    exact takeI_none hb
  have tx := st_take h hx
  have ty := st_take h hy
  have tz := st_take h hz
  have nx := none_of hx
  have ny := none_of hy
  have nz := none_of hz
  have H := Lib.hid h
  clear h none_of hx hy hz
  generalize hbx : x.b = bx at *
  generalize hby : y.b = byy at *
  generalize hbz : z.b = bz at *
  clear hbx hby hbz
  have d0 : (x.lm = [] ∧ (!x.lm.isEmpty) = false) ∨ (x.lm ≠ [] ∧ (!x.lm.isEmpty) = true) := by cases x.lm <;> simp
  have d1 : (y.lm = [] ∧ (!y.lm.isEmpty) = false) ∨ (y.lm ≠ [] ∧ (!y.lm.isEmpty) = true) := by cases y.lm <;> simp
  have d2 : (z.lm = [] ∧ (!z.lm.isEmpty) = false) ∨ (z.lm ≠ [] ∧ (!z.lm.isEmpty) = true) := by cases z.lm <;> simp
  generalize hX : x.lm = lx at *
  generalize hY : y.lm = ly at *
  generalize hZ : z.lm = lz at *
  clear hX hY hZ
  obtain ⟨ox, HX⟩ : ∃ q, Hid (q = lx.headD 0) := ⟨_, rfl⟩
  obtain ⟨oy, HY⟩ : ∃ q, Hid (q = ly.headD 0) := ⟨_, rfl⟩
  obtain ⟨oz, HZ⟩ : ∃ q, Hid (q = lz.headD 0) := ⟨_, rfl⟩
  go_enter Try.func27, Try.ntmps27
  go_wp2
  go_loopw [12] (fun i wr => ∃ (k : Nat), k ≤ 4 ∧ i = .int .i64 k ∧ Hid (1 ≤ k → lx = []) ∧ Hid (3 ≤ k → ly = []) ∧ Hid (4 ≤ k → lz = []) ∧ wr = w) (fun i _ => 4 - (intOf i).toNat)
  case atStart => exact ⟨0, by omega, by go_num, fun h => absurd h (by omega), fun h => absurd h (by omega), fun h => absurd h (by omega), rfl⟩
  case round =>
    obtain ⟨k, hk, rfl, e0, e1, e2, rfl⟩ := hrel
    rcases (show k = 0 ∨ k = 1 ∨ k = 2 ∨ k = 3 ∨ k = 4 by omega) with rfl | rfl | rfl | rfl | rfl
    · rcases d0 with ⟨rfl, q⟩ | ⟨hne, q⟩
      · have cc := nx rfl
        go_wp2_with (go_at_call 24; refine Calls.mono cc ?_; rintro e w1 ⟨rfl, rfl⟩)
        go_roundw
        case rel => exact ⟨1, by omega, by first | rfl | trivial, fun h => (by first | rfl | trivial | exact e0.out (by omega) | (exfalso; omega)), fun h => (by first | rfl | trivial | exact e1.out (by omega) | (exfalso; omega)), fun h => (by first | rfl | trivial | exact e2.out (by omega) | (exfalso; omega)), by first | rfl | trivial⟩
        case measure => simp [intOf]
      · rw [q, ← HX.out] at tx
        go_wp2_with (go_at_call 24; refine Calls.mono tx ?_; rintro e w1 ⟨rfl, X1⟩; have XX := Lib.hid X1; clear X1)
        go_ret3
        exact ⟨fun _ => ⟨by rw [← HX.out]; rfl, XX.out⟩, fun h => absurd h hne, fun h => absurd h hne, fun h => absurd h hne⟩
    · go_wp2_with (go_at_call 24; refine Calls.mono (takeI_nil _) ?_; rintro e w1 ⟨rfl, rfl⟩)
      go_roundw
      case rel => exact ⟨2, by omega, by first | rfl | trivial, fun h => (by first | rfl | trivial | exact e0.out (by omega) | (exfalso; omega)), fun h => (by first | rfl | trivial | exact e1.out (by omega) | (exfalso; omega)), fun h => (by first | rfl | trivial | exact e2.out (by omega) | (exfalso; omega)), by first | rfl | trivial⟩
      case measure => simp [intOf]
    · obtain rfl := e0.out (by omega)
      rcases d1 with ⟨rfl, q⟩ | ⟨hne, q⟩
      · have cc := ny rfl
        go_wp2_with (go_at_call 24; refine Calls.mono cc ?_; rintro e w1 ⟨rfl, rfl⟩)
        go_roundw
        case rel => exact ⟨3, by omega, by first | rfl | trivial, fun h => (by first | rfl | trivial | exact e0.out (by omega) | (exfalso; omega)), fun h => (by first | rfl | trivial | exact e1.out (by omega) | (exfalso; omega)), fun h => (by first | rfl | trivial | exact e2.out (by omega) | (exfalso; omega)), by first | rfl | trivial⟩
        case measure => simp [intOf]
      · rw [q, ← HY.out] at ty
        go_wp2_with (go_at_call 24; refine Calls.mono ty ?_; rintro e w1 ⟨rfl, X1⟩; have XX := Lib.hid X1; clear X1)
        go_ret3
        exact ⟨fun h => absurd rfl h, fun _ _ => ⟨by rw [← HY.out]; rfl, XX.out⟩, fun _ h => absurd h hne, fun _ h => absurd h hne⟩
    · obtain rfl := e0.out (by omega)
      obtain rfl := e1.out (by omega)
      rcases d2 with ⟨rfl, q⟩ | ⟨hne, q⟩
      · have cc := nz rfl
        go_wp2_with (go_at_call 24; refine Calls.mono cc ?_; rintro e w1 ⟨rfl, rfl⟩)
        go_roundw
        case rel => exact ⟨4, by omega, by first | rfl | trivial, fun h => (by first | rfl | trivial | exact e0.out (by omega) | (exfalso; omega)), fun h => (by first | rfl | trivial | exact e1.out (by omega) | (exfalso; omega)), fun h => (by first | rfl | trivial | exact e2.out (by omega) | (exfalso; omega)), by first | rfl | trivial⟩
        case measure => simp [intOf]
      · rw [q, ← HZ.out] at tz
        go_wp2_with (go_at_call 24; refine Calls.mono tz ?_; rintro e w1 ⟨rfl, X1⟩; have XX := Lib.hid X1; clear X1)
        go_ret3
        exact ⟨fun h => absurd rfl h, fun _ h => absurd rfl h, fun _ _ _ => ⟨by rw [← HZ.out]; rfl, XX.out⟩, fun _ _ h => absurd h hne⟩
    · obtain rfl := e0.out (by omega)
      obtain rfl := e1.out (by omega)
      obtain rfl := e2.out (by omega)
      go_wp2
      go_ret3
      exact ⟨fun h => absurd rfl h, fun _ h => absurd rfl h, fun _ _ h => absurd rfl h, fun _ _ _ => ⟨rfl, H.out⟩⟩
end
theorem ints_any (l r : List Int) (v u : Value) (w : World) (S S' : Nat → Prop) (h : Sl 1 rInt S w v l) (k : Sl 1 rInt S' w u r) (e : l = r) :
    Calls Try.prog 17 #[v, u] w fun e w' => e = .returned (.bool true) ∧ Below w.heap.size w w' := by
  subst e
  obtain ⟨A, c, rfl, hl, hc, hn, hs⟩ := h
  obtain ⟨A', c', rfl, hl', hc', hn', hs'⟩ := k
  unfold maxLen at hc hc'
  go_enter Try.func17, Try.ntmps17
  go_wp2
  go_loopw [5] (fun i wr => ∃ k : Nat, k ≤ l.length ∧ i = .int .i64 k ∧ Below w.heap.size w wr) (fun i _ => l.length - (intOf i).toNat)
  case atStart => exact ⟨0, by omega, by go_num, by go_grown⟩
  case round =>
    obtain ⟨k, hk, rfl, hbel⟩ := hrel
    by_cases hlt : k < l.length
    · obtain ⟨x, hx⟩ : ∃ x, l[k]? = some x := ⟨_, List.getElem?_eq_getElem hlt⟩
      obtain ⟨b, o, ys, rfl, hS, _, hcc, rfl, _⟩ := hs k x hx
      obtain ⟨b', o', ys', rfl, hS', _, hcc', rfl, _⟩ := hs' k x hx
      have q1 := hcc 0 _ rfl
      have q2 := hcc' 0 _ rfl
      rw [show k * 1 + 0 = k by omega] at q1 q2
      have x1 : wr.cell? ⟨b, o + k, none⟩ = some (.int .i64 x) := (hbel.cell (p := ⟨b, o + k, none⟩) (cell_lt q1)).trans q1
      have x2 : wr.cell? ⟨b', o' + k, none⟩ = some (.int .i64 x) := (hbel.cell (p := ⟨b', o' + k, none⟩) (cell_lt q2)).trans q2
      clear hx q1 q2 hcc hcc'
      go_wp2_with fail
      go_quiet (fail)
      go_wp2
      go_roundw
      case rel => exact ⟨k + 1, by omega, by go_num, below_drewN2 hbel _⟩
      case measure => simp [intOf]; omega
    · obtain rfl : k = l.length := by omega
      go_wp2
      go_ret
      exact ⟨rfl, hbel⟩
end Go.Proofs.Ytgecoannpbghjaa
