/- Layer show: rows of texts; few, Same, Role and the document's Role, Blanks, wide. Conditions: as each theorem says. -/
import Derived.Test.YtkapaafbnbnpjaaGreatDoorApi
import Derived.Deep.QuietTactic
namespace Go.Proofs.YtkapaafbnbnpjaaGreatDoor
open Go.RowKit Go.Deep

abbrev rRow : Rp (List ByteArray) := rSl 1 rStr
theorem rRow_ok : RpOk 1 rRow := rSl_ok rStr_ok (by decide)
def fewRow (r : List ByteArray) : Bool := decide (r.length ≤ 12) && r.all (fun s => decide (s.size ≤ 40))
def fewT (rows : List (List ByteArray)) : Bool := rows.all fewRow && decide (rows.length ≤ 20)

section
variable {S : Nat → Prop} {w : World} {A : Option Addr}
theorem row_at {rows : List (List ByteArray)} (hs : SlAt 1 rRow S w A rows) {k : Nat} {r : List ByteArray} (hk : rows[k]? = some r) :
    ∃ b o A' c', A = some ⟨b, o, none⟩ ∧ w.cell? ⟨b, o + k, none⟩ = some (.slice A' r.length c') ∧ r.length ≤ c' ∧ c' ≤ 9223372036854775807 ∧ r.length ≤ 140737488355328 ∧ SlAt 1 rStr S w A' r := by
  obtain ⟨b, o, ys, rfl, _, _, hc, v, rfl, A', c', rfl, h1, h2, h3, h4⟩ := hs k r hk
  have h := hc 0 _ rfl
  rw [show k * 1 + 0 = k by omega] at h
  exact ⟨b, o, A', c', rfl, h, h1, by unfold maxLen at h2; omega, h3, h4⟩
theorem str_at {r : List ByteArray} (hs : SlAt 1 rStr S w A r) {k : Nat} {s : ByteArray} (hk : r[k]? = some s) :
    ∃ b o, A = some ⟨b, o, none⟩ ∧ w.cell? ⟨b, o + k, none⟩ = some (.string s) ∧ s.size ≤ 140737488355328 := by
  obtain ⟨b, o, ys, rfl, _, _, hc, rfl, hz⟩ := hs k s hk
  have h := hc 0 _ rfl
  rw [show k * 1 + 0 = k by omega] at h
  exact ⟨b, o, rfl, h, hz⟩
end
theorem ne_toList {x y : ByteArray} (h : ¬ x = y) : (x.toList == y.toList) = false := by
  rw [ByteArray.toList_eq, ByteArray.toList_eq]
  exact beq_eq_false_iff_ne.2 fun e => h (Go.WideShapes.bytes_inj e)
theorem below_drewN2 {n : Nat} {w w' : World} (h : Below n w w') : ∀ q, Below n w (w'.drewN q)
  | 0 => h
  | q + 1 => (below_drewN2 h q).drew
theorem get_at {α : Type} {l : List α} {k : Nat} (h : k < l.length) : ∃ x, l[k]? = some x ∧ l.drop k = x :: l.drop (k + 1) ∧ x ∈ l := at_k h

theorem same_any (l r : List ByteArray) (v u : Value) (w : World) (S S' : Nat → Prop) (h : Sl 1 rStr S w v l) (k : Sl 1 rStr S' w u r) :
    Calls Tryz.prog 14 #[v, u] w fun e w' => e = .returned (.bool (decide (l = r))) ∧ Below w.heap.size w w' := by
  obtain ⟨A, c, rfl, hl, hc, hn, hs⟩ := h
  obtain ⟨A', c', rfl, hl', hc', hn', hs'⟩ := k
  unfold maxLen at hc hc'
  by_cases hlen : l.length = r.length
  · obtain ⟨n, hln⟩ : ∃ n, l.length = n := ⟨_, rfl⟩
    have hrn : r.length = n := by omega
    rw [hln] at hl hn ⊢
    rw [hrn] at hl' hn' ⊢
    have HL := Lib.hid hln
    have HR := Lib.hid hrn
    clear hlen hln hrn
    go_enter Tryz.func14, Tryz.ntmps14
    go_wp2
    go_loopw [13] (fun i wr => ∃ k : Nat, k ≤ n ∧ i = .int .i64 k ∧ Hid (l.take k = r.take k) ∧ Below w.heap.size w wr) (fun i _ => n - (intOf i).toNat)
    case atStart => exact ⟨0, by omega, by go_num, by simp [Hid], by go_grown⟩
    case round =>
      obtain ⟨k, hk, rfl, E, hbel⟩ := hrel
      by_cases hlt : k < n
      · obtain ⟨x, hx, _, _⟩ := get_at (l := l) (k := k) (by have := HL.out; omega)
        obtain ⟨y, hy, _, _⟩ := get_at (l := r) (k := k) (by have := HR.out; omega)
        obtain ⟨b, o, rfl, q1, hz⟩ := str_at hs hx
        obtain ⟨b', o', rfl, q2, hz'⟩ := str_at hs' hy
        have x1 : wr.cell? ⟨b, o + k, none⟩ = some (.string x) := (hbel.cell (p := ⟨b, o + k, none⟩) (cell_lt q1)).trans q1
        have x2 : wr.cell? ⟨b', o' + k, none⟩ = some (.string y) := (hbel.cell (p := ⟨b', o' + k, none⟩) (cell_lt q2)).trans q2
        clear q1 q2
        by_cases hxy : x = y
        · subst hxy
          have E1 : Hid (l.take (k + 1) = r.take (k + 1)) := by
            show _ = _
            rw [List.take_add_one, List.take_add_one, hx, hy, E.out]
          clear hx hy
          go_wp2_with fail
          go_quiet (fail)
          go_wp2
          go_roundw
          case rel => exact ⟨k + 1, by omega, by go_num, E1, below_drewN2 hbel _⟩
          case measure => simp [intOf]; omega
        · have E1 : Hid (¬ l = r) := fun e => by
            rw [e, hy] at hx
            exact hxy (Option.some.inj hx).symm
          have hne := ne_toList hxy
          clear hx hy
          go_wp2_with fail
          go_quiet (fail)
          go_wp2
          go_ret
          exact ⟨ret_bool (decide_eq_false E1.out).symm, below_drewN2 hbel _⟩
      · obtain rfl : k = n := by omega
        have E1 : Hid (l = r) := by
          have := E.out
          rw [List.take_of_length_le (Nat.le_of_eq HL.out), List.take_of_length_le (Nat.le_of_eq HR.out)] at this
          exact this
        go_wp2
        go_ret
        exact ⟨ret_bool (decide_eq_true E1.out).symm, hbel⟩
  · have E1 : Hid (¬ l = r) := fun e => hlen (by rw [e])
    go_enter Tryz.func14, Tryz.ntmps14
    go_wp2
    go_ret
    exact ⟨ret_bool (decide_eq_false E1.out).symm, Below.refl _ _⟩

def roleOf (n : Int) : ByteArray := if n = 1 then ⟨#[114, 101, 97, 100, 101, 114]⟩ else if n = 2 then ⟨#[119, 114, 105, 116, 101, 114]⟩ else if n = 3 then ⟨#[97, 100, 109, 105, 110]⟩ else if n = 4 then ⟨#[111, 119, 110, 101, 114]⟩ else ⟨#[]⟩
theorem ret_str {a b : ByteArray} (h : a = b) : Ending.returned (.string a) = .returned (.string b) := by rw [h]
theorem role_any (n : Int) (w : World) : Calls Tryz.prog 16 #[.int .i64 n] w fun e w' => e = .returned (.string (roleOf n)) ∧ w = w' := by
  by_cases h : 1 ≤ n ∧ n ≤ 4
  · obtain ⟨h1, h4⟩ := h
    rcases (show n = 1 ∨ n = 2 ∨ n = 3 ∨ n = 4 by omega) with rfl | rfl | rfl | rfl
    all_goals
      go_enter Tryz.func16, Tryz.ntmps16
      go_wp2
      go_ret
      exact ⟨rfl, rfl⟩
  · have F : Hid (roleOf n = ⟨#[]⟩) := by
      show _ = _
      rw [roleOf, if_neg (by omega), if_neg (by omega), if_neg (by omega), if_neg (by omega)]
    have n1 : ¬ n = 1 := by omega
    have n2 : ¬ n = 2 := by omega
    have n3 : ¬ n = 3 := by omega
    have n4 : ¬ n = 4 := by omega
    clear h
    go_enter Tryz.func16, Tryz.ntmps16
    go_wp2
    go_ret
    exact ⟨ret_str F.out.symm, rfl⟩
end Go.Proofs.YtkapaafbnbnpjaaGreatDoor
