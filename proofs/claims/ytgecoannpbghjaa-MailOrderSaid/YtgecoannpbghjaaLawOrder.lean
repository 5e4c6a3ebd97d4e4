/- MailOrder: for every input the law returns true and leaves its arguments as they were. No condition. -/
import Derived.Test.YtgecoannpbghjaaBoxI
import Derived.Test.YtgecoannpbghjaaArgs
import Derived.Test.YtgecoannpbghjaaLaw
namespace Go.Proofs.Ytgecoannpbghjaa
open Go.ChangeShapes Go.WideShapes Go.ChangeAt Go.RowKit Go.Deep

theorem awake_any (w : World) : Calls Try.prog 5 #[] w fun e w' => e = .returned (.bool true) ∧ Below w.heap.size w w' := by
  have hnew := newI_ok 1 (by decide) (by decide) w
  go_enter Try.func5, Try.ntmps5
  go_wp2_with fail
  refine Calls.mono hnew ?_
  rintro e w1 ⟨rfl, x1, b1⟩
  have c2 := putI_room x1 (by decide) 7
  go_wp2_with fail
  refine Calls.mono c2 ?_
  rintro e w2 ⟨rfl, x2, o2⟩
  have c3 := putI_full x2 (by decide) 8
  go_wp2_with fail
  refine Calls.mono c3 ?_
  rintro e w3 ⟨rfl, rfl⟩
  have c4 := lenI_any x2
  go_wp2_with fail
  refine Calls.mono c4 ?_
  rintro e w4 ⟨rfl, rfl⟩
  go_wp2
  go_ret
  exact ⟨rfl, below_only b1 o2 (Nat.le_refl _)⟩
theorem get_Str {S S' : Nat → Prop} {w wr : World} {A : Option Addr} {l : List ByteArray} {k : Nat} (s : SlAt 1 rStr S w A l) (hk : k < l.length) (hb : Kept S S' w wr) :
    ∃ x b o, A = some ⟨b, o, none⟩ ∧ wr.cell? ⟨b, o + k, none⟩ = some (.string x) ∧ x.size ≤ 140737488355328 ∧ l[k]? = some x ∧ b < w.heap.size := by
  obtain ⟨x, hx, hd, hm⟩ := at_k hk
  obtain ⟨b, o, ys, hA, hS, _, hc, hR⟩ := s k _ hx
  obtain ⟨rfl, h64⟩ := hR
  have := hc 0 _ rfl
  rw [show k * 1 + 0 = k by omega] at this
  exact ⟨x, b, o, hA, cell_kept (p := ⟨b, o + k, none⟩) hb hS this, h64, hx, cell_lt this⟩
theorem below_drewN {n : Nat} {w w' : World} (h : Below n w w') : ∀ q, Below n w (w'.drewN q)
  | 0 => h
  | q + 1 => (below_drewN h q).drew
theorem take_snoc {l : List ByteArray} {k : Nat} {x : ByteArray} (h : l[k]? = some x) : l.take (k + 1) = l.take k ++ [x] := by
  rw [List.take_add_one, h]; rfl
theorem take_drop_cons {l : List ByteArray} {n k : Nat} {x : ByteArray} (h : l[k]? = some x) (hk : k < n) : (l.take n).drop k = x :: (l.take n).drop (k + 1) := by
  have h' : (l.take n)[k]? = some x := by rw [List.getElem?_take, if_pos hk, h]
  obtain ⟨hl, he⟩ := List.getElem?_eq_some_iff.1 h'
  rw [List.drop_eq_getElem_cons hl, he]

set_option maxRecDepth 100000 in
set_option maxHeartbeats 4000000 in
theorem walk_mailOrder (w : World) (room : Int) (wn : (Lit.int .i64 room).wf = true) (l : List ByteArray) (v : Value) (h : Sl 1 rStr (fun _ => True) w v l) :
    Calls Try.prog 3 #[.int .i64 room, v] w fun e w' => e = .returned (.bool true) ∧ Below w.heap.size w w' := by
  obtain ⟨A, c, rfl, hl, hc, hn, hs⟩ := h
  unfold maxLen at hc
  by_cases hr : room < 1 ∨ 4096 < room
  · have hnew := fun W => newS_bad room hr W
    clear hs
    go_enter Try.func3, Try.ntmps3
    go_wp2_with (first
      | (go_at_call 5; refine Calls.mono (awake_any _) ?_; rintro e w1 ⟨rfl, B1⟩)
      | (go_at_call 6; refine Calls.mono (takeS_nil _) ?_; rintro e w2 ⟨rfl, rfl⟩)
      | (go_at_call 7; refine Calls.mono (putS_nil _ _) ?_; rintro e w3 ⟨rfl, rfl⟩)
      | (go_at_call 8; refine Calls.mono (lenS_nil _) ?_; rintro e w4 ⟨rfl, rfl⟩)
      | (go_at_call 9; refine Calls.mono (roomS_nil _) ?_; rintro e w5 ⟨rfl, rfl⟩)
      | (go_at_call 10; refine Calls.mono (drainS_nil _) ?_; rintro e w6 ⟨rfl, rfl⟩)
      | (go_at_call 11; refine Calls.mono (moveS_nil _) ?_; rintro e w7 ⟨rfl, rfl⟩)
      | (go_at_call 12; refine Calls.mono (hnew _) ?_; rintro e w8 ⟨rfl, rfl⟩))
    all_goals first
      | (go_ret; exact ⟨rfl, by assumption⟩)
      | (exfalso; simp_all; omega)
  obtain ⟨n, rfl⟩ : ∃ n : Nat, room = n := ⟨room.toNat, by omega⟩
  have hn1 : 1 ≤ n := by omega
  have hn2 : n ≤ 4096 := by omega
  have h1 : decide ((n : Int) < 1) = false := decide_eq_false (by omega)
  have h2 : decide ((n : Int) > 4096) = false := decide_eq_false (by omega)
  clear hr
  have hnew := fun W => newS_ok n hn1 hn2 W
  go_enter Try.func3, Try.ntmps3
  go_wp2_with (first
    | (go_at_call 5; refine Calls.mono (awake_any _) ?_; rintro e w1 ⟨rfl, B1⟩)
    | (go_at_call 6; refine Calls.mono (takeS_nil _) ?_; rintro e w2 ⟨rfl, rfl⟩)
    | (go_at_call 7; refine Calls.mono (putS_nil _ _) ?_; rintro e w3 ⟨rfl, rfl⟩)
    | (go_at_call 8; refine Calls.mono (lenS_nil _) ?_; rintro e w4 ⟨rfl, rfl⟩)
    | (go_at_call 9; refine Calls.mono (roomS_nil _) ?_; rintro e w5 ⟨rfl, rfl⟩)
    | (go_at_call 10; refine Calls.mono (drainS_nil _) ?_; rintro e w6 ⟨rfl, rfl⟩)
    | (go_at_call 11; refine Calls.mono (moveS_nil _) ?_; rintro e w7 ⟨rfl, rfl⟩)
    | (go_at_call 12; refine Calls.mono (hnew _) ?_; rintro e w8 ⟨rfl, X8, B8⟩))
  · go_ret
    exact ⟨rfl, bel_call B1 B8⟩
  have hz7 := B1.size
  have BW : Below w.heap.size w w8 := bel_call B1 B8
  have hl5 : l.length ≤ 5000 := by
    rcases Nat.lt_or_ge 5000 l.length with h | h
    · exfalso; simp_all; omega
    · exact h
  obtain ⟨b, hb⟩ : ∃ b, b = w7.heap.size + 1 := ⟨_, rfl⟩
  obtain ⟨c', hc'⟩ : ∃ c', c' = w7.heap.size := ⟨_, rfl⟩
  rw [← hb, ← hc'] at X8
  rw [← hb]
  have hcw : w.heap.size ≤ c' := by omega
  clear hb hc' B8 hnew B1 hz7
  go_loopw [74] (fun i wr => ∃ (k : Nat), k ≤ l.length ∧ i = .int .i64 k ∧ BoxS wr b c' n (l.take (min k n)) ∧ Below w.heap.size w wr) (fun i _ => l.length - (intOf i).toNat)
  case atStart => exact ⟨0, by omega, by go_num, by simpa using X8, BW⟩
  case round =>
    clear X8 BW
    obtain ⟨k, hk, rfl, X, hbel⟩ := hrel
    by_cases hlt : k < l.length
    · obtain ⟨x, xb, xo, rfl, x0, _, xk, _⟩ := get_Str hs hlt (kept_of hbel)
      by_cases hkn : k < n
      · have hm1 : min k n = k := by omega
        have hm2 : min (k + 1) n = k + 1 := by omega
        rw [hm1] at X
        have cp := putS_room X (by rw [List.length_take]; omega) x
        rw [← take_snoc xk] at cp
        have hd : decide ((k : Int) < (n : Int)) = true := decide_eq_true (by omega)
        clear X xk
        go_wp2_with (go_at_call 7; refine Calls.mono cp ?_; rintro e w9 ⟨rfl, X9, O9⟩)
        go_roundw
        case rel => exact ⟨k + 1, by omega, by go_num, by rw [hm2]; exact X9, below_only hbel O9 hcw⟩
        case measure => simp [intOf]; omega
      · have hm1 : min k n = n := by omega
        have hm2 : min (k + 1) n = n := by omega
        rw [hm1] at X
        have cp := putS_full X (by rw [List.length_take]; omega) x
        have hd : decide ((k : Int) < (n : Int)) = false := decide_eq_false (by omega)
        have HX := Lib.hid X
        clear X xk
        go_wp2_with (go_at_call 7; refine Calls.mono cp ?_; rintro e w9 ⟨rfl, rfl⟩)
        go_roundw
        case rel => exact ⟨k + 1, by omega, by go_num, by rw [hm2]; exact HX.out, hbel⟩
        case measure => simp [intOf]; omega
    · obtain rfl : k = l.length := by omega
      have e1 : l.take (min l.length n) = l.take n := by
        rcases Nat.le_total l.length n with h | h
        · rw [Nat.min_eq_left h, List.take_of_length_le (Nat.le_refl _), List.take_of_length_le h]
        · rw [Nat.min_eq_right h]
      rw [e1] at X
      have HX := Lib.hid X
      clear X e1
      obtain ⟨wo, rfl⟩ : ∃ wo : World, wo = wr := ⟨_, rfl⟩
      go_wp2
      go_loopw [89] (fun i wr => ∃ (k : Nat), k ≤ l.length ∧ i = .int .i64 k ∧ BoxS wr b c' n ((l.take n).drop k) ∧ Below w.heap.size w wr) (fun i _ => l.length - (intOf i).toNat)
      case atStart => exact ⟨0, by omega, by go_num, by simpa using HX.out, hbel⟩
      case round =>
        clear HX hbel
        obtain ⟨k, hk, rfl, X, hbel⟩ := hrel
        by_cases hend : k < l.length ∧ k < n
        · obtain ⟨hlt, hkn⟩ := hend
          obtain ⟨x, xb, xo, rfl, x0, _, xk, _⟩ := get_Str hs hlt (kept_of hbel)
          rw [take_drop_cons xk hkn] at X
          have ct := takeS_some X
          clear X xk
          go_wp2_with (go_at_call 6; refine Calls.mono ct ?_; rintro e w9 ⟨rfl, X9, O9⟩)
          go_roundw
          case rel => exact ⟨k + 1, by omega, by go_num, X9, below_only hbel O9 hcw⟩
          case measure => simp [intOf]; omega
        · rw [List.drop_of_length_le (by rw [List.length_take]; omega)] at X
          have ct := takeS_none X
          have cl := lenS_any X
          have cr := roomS_any X hn2
          simp only [List.length_nil] at cl cr
          clear X
          by_cases hlt : k < l.length
          · obtain ⟨x, xb, xo, rfl, x0, _, xk, _⟩ := get_Str hs hlt (kept_of hbel)
            clear xk
            go_wp2_with (first
              | (go_at_call 6; refine Calls.mono ct ?_; rintro e w9 ⟨rfl, rfl⟩)
              | (go_at_call 8; refine Calls.mono cl ?_; rintro e w10 ⟨rfl, rfl⟩)
              | (go_at_call 9; refine Calls.mono cr ?_; rintro e w11 ⟨rfl, m, rfl⟩))
            all_goals first
              | (go_ret; exact ⟨by simp, below_drewN hbel _⟩)
              | (exfalso; simp_all; omega)
          · obtain rfl : k = l.length := by omega
            go_wp2_with (first
              | (go_at_call 6; refine Calls.mono ct ?_; rintro e w9 ⟨rfl, rfl⟩)
              | (go_at_call 8; refine Calls.mono cl ?_; rintro e w10 ⟨rfl, rfl⟩)
              | (go_at_call 9; refine Calls.mono cr ?_; rintro e w11 ⟨rfl, m, rfl⟩))
            all_goals first
              | (go_ret; exact ⟨by simp, below_drewN hbel _⟩)
              | (exfalso; simp_all; omega)

set_option maxRecDepth 100000 in
theorem lifted_mailOrder (os : Os) (started : os.Started) (H : Type) (enc : TypeId × Value → H) :
    ReturnsInHanded {} Try.checked os 3 .any (Rows.mailOrderSpec.pre6 enc Try.prog Try.f3 Rows.mailOrderRow.domain false) (Rows.mailOrderSpec.post enc Try.prog Try.f3 false true false false) := by
  refine returnsInHanded_of_change_sized (C := Try.checked) law_own started (by kernel_rfl) Try.func3
    (ChangeSpec.witness6 (enc := enc) (C := Try.checked) false ⟨#[], #[.int .i64 0, .slice none 0 0], []⟩ 8 (by kernel_rfl) (by kernel_rfl) (by kernel_rfl) (by kernel_rfl)) ?_
  intro W base args ds gs before hval0 hW hcnd hsz0 _
  have hval : ∀ (j : Nat) t v, Try.f3.params[j]? = some t → args[j]? = some v → Value.okWide Try.prog W .any base t v := hval0
  have hW' := hW
  obtain ⟨p, q, hA0, hV, rfl, hfz, hnd⟩ := hW
  have hA : DataW.TrodAll enc Try.prog W 0 (fun _ => true) true Try.f3.params.toList args.toList ds p := hA0
  rw [Try.params3] at hA hval
  obtain ⟨v0, vs0, d0, ds0, p0, q0, hargs, rfl, rfl, h0, r0⟩ := trodAll_cons hA
  obtain ⟨v1, vs1, d1, ds1, p1, q1, rfl, rfl, rfl, h1, r1⟩ := trodAll_cons r0
  obtain ⟨rfl, rfl, rfl⟩ := trodAll_nil r1
  obtain rfl : args = #[v0, v1] := by cases args; simp_all
  obtain ⟨rfl, rfl⟩ := trodVars_none hV
  clear hargs
  obtain ⟨a0, rfl, rfl, rfl, w0⟩ := open_int Try.underlying3 (hval 0 3 v0 rfl rfl) h0
  obtain ⟨fu1, hf1⟩ := h1
  obtain ⟨a1, hx1⟩ := rdv_sl Try.underlying22 (rd_slice Try.underlying22 (by kernel_rfl) (of_decide_eq_true (by kernel_rfl)) (by decide) (rd_str Try.underlying9) (rStr_ok).len) (hval 1 22 v1 rfl rfl) hf1 (fun q hq => by simpa using List.all_eq_true.1 hsz0 q (DataW.weights_mem_each (j := 1) rfl rfl q hq))
  refine (walk_mailOrder W a0 w0 a1 _ hx1).mono fun e W' ⟨he, hg⟩ => ?_
  subst he
  exact ⟨_, rfl, law_post hW' rfl rfl rfl Try.underlying4 law_laid (by kernel_rfl) hg⟩

theorem mailOrder_holds : Rows.MailOrderSaid :=
  OpenClaim.holds_of_wide 3 Try.f3 rfl rfl rfl rfl rfl rfl rfl ⟨rfl, rfl, rfl, rfl, rfl⟩ rfl rfl rfl rfl rfl (by kernel_rfl) Try.func3 (by kernel_rfl)
    (of_decide_eq_true (by kernel_rfl)) (by unfold Func.isWrapper; first | (rw [if_pos (by decide +kernel)]; kernel_rfl) | (rw [if_neg (by decide +kernel)]; exact ⟨rfl, rfl⟩))
    (fun os started H enc _ => lifted_mailOrder os started H enc)
end Go.Proofs.Ytgecoannpbghjaa
