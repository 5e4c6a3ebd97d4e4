/- Layer role: the roles of a list of members. Conditions: none but that lists and texts are within a row's reach. -/
import Derived.Test.YtanhholjfkofoaaName
import Derived.Test.YtanhholjfkofoaaOwn
import Derived.Deep.DeepMust
namespace Go.Proofs.Ytanhholjfkofoaa
open Go.RowKit Go.Deep

/-- Two texts, as the run compares them. -/
def eqS (a b : ByteArray) : Bool := a.toList == b.toList
def idxOf {α : Type} (p : α → Bool) : List α → Nat → Int
  | [], _ => -1
  | x :: l, k => if p x then k else idxOf p l (k + 1)
def NoBlock : Nat → Prop := fun _ => False

theorem closure_any (name : ByteArray) (B : Nat) (x : Member) (cs : List Value) (w : World) (S : Nat → Prop) (h : rMember S w cs x) (hB : w.cell? ⟨B, 0, none⟩ = some (.string name)) :
    Calls Try.prog 37 #[.agg cs.toArray, .pointer (some ⟨B, 0, none⟩)] w fun e w' => e = .returned (.bool (eqS x.name name)) ∧ Below w.heap.size w w' := by
  obtain ⟨rfl, x_name_le, x_role_ok⟩ := open_Member h
  have hBl := cell_lt hB
  go_enter Try.func37, Try.ntmps37
  go_wp2
  go_ret
  exact ⟨rfl, by go_grown⟩

theorem index_any (name : ByteArray) (B : Nat) (l : List Member) (v : Value) (w : World) (S : Nat → Prop) (h : Sl 2 rMember S w v l) (hB : w.cell? ⟨B, 0, none⟩ = some (.string name)) :
    Calls Try.prog 36 #[v, .func (.func 37) #[] #[.pointer (some ⟨B, 0, none⟩)]] w fun e w' => e = .returned (.int .i64 (idxOf (fun m => eqS m.name name) l 0)) ∧ Below w.heap.size w w' := by
  have HB := Lib.hid hB
  clear hB
  obtain ⟨A, c, rfl, hl, hc, hn, hs⟩ := h
  unfold maxLen at hc
  go_enter Try.func36, Try.ntmps36
  go_wp2
  go_loopw [8] (fun i wr => ∃ (k : Nat), k ≤ l.length ∧ i = .int .i64 k ∧ idxOf (fun m => eqS m.name name) (l.drop k) k = idxOf (fun m => eqS m.name name) l 0 ∧ Below w.heap.size w wr) (fun i _ => l.length - (intOf i).toNat)
  case atStart => exact ⟨0, by omega, by go_num, by simp, by go_grown⟩
  case round =>
    obtain ⟨k, hk, rfl, E, hbel⟩ := hrel
    have hz := hbel.size
    by_cases hlt : k < l.length
    · obtain ⟨x, x_b, x_o, x_k, x_d, x_m, rfl, x_l, x_S, x_0, x_1, x_R, x_name_le, x_role_ok⟩ := get_Member hs hlt (kept_of hbel)
      rw [x_d, idxOf] at E
      have E2 := Lib.hid E
      clear x_k x_d E
      go_wp2_with fail
      refine Calls.mono (closure_any name B x _ _ S x_R ((hbel.cell (p := ⟨B, 0, none⟩) (cell_lt HB.out)).trans HB.out)) ?_
      rintro e w1 ⟨rfl, hb1⟩
      cases hpx : eqS x.name name
      · have EH := Lib.hid (show idxOf (fun m => eqS m.name name) (l.drop (k + 1)) (k + 1) = idxOf (fun m => eqS m.name name) l 0 by rw [← E2.out, hpx]; rfl)
        clear E2
        go_wp2
        go_roundw
        case rel => exact ⟨k + 1, by omega, by go_num, EH.out, bel_call hbel hb1⟩
        case measure => simp [intOf]; omega
      · have EH := Lib.hid (show (k : Int) = idxOf (fun m => eqS m.name name) l 0 by rw [← E2.out, hpx]; rfl)
        clear E2
        go_wp2
        go_ret
        exact ⟨by rw [← EH.out]; rfl, bel_call hbel hb1⟩
    · obtain rfl : k = l.length := by omega
      rw [List.drop_length] at E
      have EH := Lib.hid E
      clear E
      go_wp2
      go_ret
      exact ⟨by rw [← EH.out]; rfl, hbel⟩

def atOf (l : List Member) (name : ByteArray) : Int := idxOf (fun m => eqS m.name name) l 0
theorem makeFunc_run : ∀ (fn : Fn) (first cap : Array Value) (w : World), (Instr.makeFunc fn first cap).run Try.prog w = .ok (.func fn first cap) w := fun _ _ _ _ => rfl
theorem at_any (name : ByteArray) (l : List Member) (v : Value) (w : World) (S : Nat → Prop) (h : Sl 2 rMember S w v l) :
    Calls Try.prog 27 #[v, .string name] w fun e w' => e = .returned (.int .i64 (atOf l name)) ∧ Below w.heap.size w w' := by
  have hmf := makeFunc_run
  obtain ⟨w0, hw0, cw0, fz0, Bw0, qw0⟩ := boxed w #[.string name] 9
  have w0_0 := cw0 0 _ rfl
  have H := Lib.hid h
  clear h cw0
  go_enter Try.func27, Try.ntmps27
  go_wp2_with fail
  refine Calls.mono (index_any name w.heap.size l v _ S (H.out.keep rMember_ok (by decide) (kept_of Bw0)) w0_0) ?_
  rintro e w1 ⟨rfl, hb1⟩
  go_wp2
  go_ret
  exact ⟨rfl, bel_call Bw0 hb1⟩

/-- The role of a name: 0 if there is none. -/
def ofOf : List Member → ByteArray → Int
  | [], _ => 0
  | m :: l, name => if eqS m.name name then m.role else ofOf l name
theorem atOf_cases (name : ByteArray) : ∀ (l : List Member) (k : Nat), (idxOf (fun m => eqS m.name name) l k = -1 ∧ ofOf l name = 0) ∨ ∃ (i : Nat) (m : Member), idxOf (fun m => eqS m.name name) l k = ((k + i : Nat) : Int) ∧ l[i]? = some m ∧ ofOf l name = m.role ∧ eqS m.name name = true
  | [], k => .inl ⟨rfl, rfl⟩
  | m :: l, k => by
    rw [idxOf, ofOf]
    cases hm : eqS m.name name
    · rcases atOf_cases name l (k + 1) with ⟨h1, h2⟩ | ⟨i, m', h1, h2, h3, h4⟩
      · exact .inl ⟨by simpa [hm] using h1, by simpa [hm] using h2⟩
      · exact .inr ⟨i + 1, m', by simp only [Bool.false_eq_true, if_false]; rw [h1]; congr 1; omega, by simpa using h2, by simpa [hm] using h3, h4⟩
    · exact .inr ⟨0, m, by simp, by simp, by simp, hm⟩

theorem of_any (name : ByteArray) (l : List Member) (v : Value) (w : World) (S : Nat → Prop) (h : Sl 2 rMember S w v l) :
    Calls Try.prog 13 #[v, .string name] w fun e w' => e = .returned (.int .i64 (ofOf l name)) ∧ Below w.heap.size w w' := by
  have H := Lib.hid h
  rcases atOf_cases name l 0 with ⟨h1, h2⟩ | ⟨i, m, h1, h2, h3, _⟩
  · have K1 := Lib.hid (show atOf l name = -1 from h1)
    have K2 := Lib.hid h2
    clear h h1 h2
    go_enter Try.func13, Try.ntmps13
    go_wp2_with fail
    refine Calls.mono (at_any name l v _ S H.out) ?_
    rintro e w1 ⟨rfl, hb1⟩
    rw [K1.out]
    go_wp2
    go_ret
    exact ⟨by rw [K2.out]; rfl, hb1⟩
  · obtain ⟨A, c, rfl, hl, hc, hn, hs⟩ := h
    unfold maxLen at hc
    have hil : i < l.length := (List.getElem?_eq_some_iff.1 h2).1
    have K1 := Lib.hid (show atOf l name = (i : Int) by rw [atOf, h1]; simp)
    have K2 := Lib.hid h3
    have K3 := Lib.hid h2
    clear h1 h2 h3
    go_enter Try.func13, Try.ntmps13
    go_wp2_with fail
    refine Calls.mono (at_any name l _ _ S H.out) ?_
    rintro e w1 ⟨rfl, hb1⟩
    rw [K1.out]
    obtain ⟨x, x_b, x_o, x_k, x_d, x_m, rfl, x_l, x_S, x_0, x_1, x_R, x_name_le, x_role_ok⟩ := get_Member hs hil (kept_of hb1)
    have ex : x = m := Option.some.inj (x_k.symm.trans K3.out)
    subst ex
    clear x_k x_d
    go_wp2
    go_ret
    exact ⟨by rw [K2.out]; rfl, hb1⟩
end Go.Proofs.Ytanhholjfkofoaa
