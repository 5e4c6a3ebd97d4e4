/- Layer stat: Of: how often an error was answered. No condition. -/
import Derived.Test.YtalhilelbebfbaaDoorStW
namespace Go.Proofs.YtalhilelbebfbaaDoor
open Go.RowKit Go.Deep Go.Maps

/-- Where something stands. -/
def AtI {α : Type} (p : α → Bool) (l : List α) (i : Int) : Prop := (∃ (k : Nat) (x : α), i = k ∧ l[k]? = some x ∧ l.find? p = some x) ∨ (i = -1 ∧ l.find? p = none)
theorem find_here {α : Type} {p : α → Bool} {l : List α} {k : Nat} {x : α} (h : ∀ y ∈ l.take k, p y = false) (hx : l[k]? = some x) (hp : p x = true) : l.find? p = some x := by
  have hk := List.getElem?_eq_some_iff.1 hx
  refine List.find?_eq_some_iff_append.2 ⟨hp, l.take k, l.drop (k + 1), ?_, fun y hy => by simp [h y hy]⟩
  rw [← hk.2, ← List.drop_eq_getElem_cons hk.1, List.take_append_drop]
theorem find_no {α : Type} {p : α → Bool} {l : List α} (h : ∀ y ∈ l, p y = false) : l.find? p = none := List.find?_eq_none.2 fun y hy => by simp [h y hy]
theorem none_step {α : Type} {p : α → Bool} {l : List α} {k : Nat} {x : α} (h : ∀ y ∈ l.take k, p y = false) (hx : l[k]? = some x) (hp : p x = false) : ∀ y ∈ l.take (k + 1), p y = false := by
  rw [List.take_add_one, hx]
  intro y hy
  rcases List.mem_append.1 hy with hy | hy
  · exact h y hy
  · obtain rfl : y = x := by simpa using hy
    exact hp
def isE (e : Int) (c : Count) : Bool := decide (c.err = e)
theorem eqE_is {a b : Int} : (a == b) = decide (a = b) := by
  by_cases h : a = b
  · subst h
    simp
  · rw [decide_eq_false h]
    exact beq_eq_false_iff_ne.2 h
theorem closO_any (e : Int) (B : Nat) (x : Count) (w : World) (hB : w.cell? ⟨B, 0, none⟩ = some (.int .i64 e)) :
    Calls Tryd.prog 18 #[.agg #[.int .i64 x.err, .int .i64 x.n], .pointer (some ⟨B, 0, none⟩)] w fun r w' => r = .returned (.bool (isE e x)) ∧ Below w.heap.size w w' := by
  have hBl := cell_lt hB
  have E := Lib.hid (eqE_is (a := x.err) (b := e))
  go_enter Tryd.func18, Tryd.ntmps18
  go_wp2
  go_ret
  exact ⟨ret_bool E.out, by go_grown⟩
theorem indexO_any (e : Int) (B : Nat) (l : List Count) (v : Value) (w : World) (S : Nat → Prop) (h : Sl 2 rCount S w v l) (hB : w.cell? ⟨B, 0, none⟩ = some (.int .i64 e)) :
    Calls Tryd.prog 17 #[v, .func (.func 18) #[] #[.pointer (some ⟨B, 0, none⟩)]] w fun r w' => (∃ i : Int, r = .returned (.int .i64 i) ∧ AtI (isE e) l i) ∧ Below w.heap.size w w' := by
  have HB := Lib.hid hB
  clear hB
  obtain ⟨A, c, rfl, hl, hc, hn, hs⟩ := h
  unfold maxLen at hc
  go_enter Tryd.func17, Tryd.ntmps17
  go_wp2
  go_loopw [8] (fun i wr => ∃ (k : Nat), k ≤ l.length ∧ i = .int .i64 k ∧ Hid (∀ y ∈ l.take k, isE e y = false) ∧ Below w.heap.size w wr) (fun i _ => l.length - (RowKit.intOf i).toNat)
  case atStart => exact ⟨0, by omega, by go_num, (fun y hy => by simp at hy), by go_grown⟩
  case round =>
    obtain ⟨k, hk, rfl, HN, hbel⟩ := hrel
    have hz := hbel.size
    by_cases hlt : k < l.length
    · obtain ⟨x, b, o, hx, _, hm, rfl, hb, _, x0, x1, _, _, _⟩ := get_Count hs hlt (kept_of hbel)
      have HX := Lib.hid hx
      have HC := Lib.hid (closO_any e B x wr ((hbel.cell (p := ⟨B, 0, none⟩) (cell_lt HB.out)).trans HB.out))
      clear hx hm
      go_wp2_with fail
      refine Calls.mono HC.out ?_
      rintro r w1 ⟨rfl, hb1⟩
      cases hpx : isE e x
      · have EH := Lib.hid (none_step HN.out HX.out hpx)
        go_wp2
        go_roundw
        case rel => exact ⟨k + 1, by omega, by go_num, EH, bel_call hbel hb1⟩
        case measure => simp [RowKit.intOf]; omega
      · have EH := Lib.hid (find_here HN.out HX.out hpx)
        go_wp2
        go_ret
        exact ⟨⟨_, rfl, .inl ⟨k, x, rfl, HX.out, EH.out⟩⟩, bel_call hbel hb1⟩
    · obtain rfl : k = l.length := by omega
      have EH := Lib.hid (find_no (p := isE e) (l := l) (by have := HN.out; rwa [List.take_length] at this))
      go_wp2
      go_ret
      exact ⟨⟨_, rfl, .inr ⟨rfl, EH.out⟩⟩, hbel⟩
theorem of_any (R : List Count) (e : Int) (v : Value) (w : World) (S : Nat → Prop) (h : Sl 2 rCount S w v R) :
    Calls Tryd.prog 7 #[v, .int .i64 e] w fun r w' => r = .returned (.int .i64 (ofB R e)) ∧ Below w.heap.size w w' := by
  have hSl := h
  obtain ⟨A, c, rfl, hl, hc, hn, hs⟩ := h
  unfold maxLen at hc
  obtain ⟨w0, hw0, cw0, fw0, Bw0, qw0⟩ := boxed w #[.int .i64 e] 28
  have HI := Lib.hid (indexO_any e w.heap.size R _ w0 S (hSl.keep rCount_ok (by decide) (kept_of Bw0)) (cw0 0 _ rfl))
  have HB0 := Lib.hid Bw0
  clear cw0 fw0 Bw0 hSl
  go_enter Tryd.func7, Tryd.ntmps7
  go_wp2_with fail
  refine Calls.mono HI.out ?_
  rintro r w1 ⟨⟨i, rfl, hat⟩, B1⟩
  have BB := bel_call HB0.out B1
  rcases hat with ⟨k, x, rfl, hx, hf⟩ | ⟨rfl, hf⟩
  · have hlt : k < R.length := (List.getElem?_eq_some_iff.1 hx).1
    obtain ⟨y, b, o, hy, _, hm, rfl, hb, _, x0, x1, _, _, _⟩ := get_Count hs hlt (kept_of BB)
    obtain rfl : x = y := Option.some.inj (hx.symm.trans hy)
    have HF := Lib.hid (show ofB R e = x.n by unfold ofB; rw [show (fun c : Count => decide (c.err = e)) = isE e from rfl, hf])
    have HBB := Lib.hid BB
    clear hx hy hf hm BB B1
    go_wp2
    go_ret
    exact ⟨by rw [HF.out]; rfl, HBB.out⟩
  · have HF := Lib.hid (show ofB R e = 0 by unfold ofB; rw [show (fun c : Count => decide (c.err = e)) = isE e from rfl, hf])
    have HBB := Lib.hid BB
    clear hf BB B1
    go_wp2
    go_ret
    exact ⟨by rw [HF.out]; rfl, HBB.out⟩
end Go.Proofs.YtalhilelbebfbaaDoor
