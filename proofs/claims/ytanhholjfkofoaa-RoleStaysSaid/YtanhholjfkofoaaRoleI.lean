/- Layer role: Step, the code's and the document's. Conditions: none but that lists and texts are within a row's reach. -/
import Derived.Test.YtanhholjfkofoaaRoleH
namespace Go.Proofs.Ytanhholjfkofoaa
open Go.RowKit Go.Deep

theorem get_Str {S : Nat → Prop} {w : World} {A : Option Addr} {l : List ByteArray} {k : Nat} (s : SlAt 1 rStr S w A l) (hk : k < l.length) :
    ∃ x b o, A = some ⟨b, o, none⟩ ∧ w.cell? ⟨b, o + k, none⟩ = some (.string x) ∧ x.size ≤ 140737488355328 ∧ l[k]? = some x := by
  obtain ⟨x, hx, hd, hm⟩ := at_k hk
  obtain ⟨b, o, ys, hA, hS, _, hc, hR⟩ := s k _ hx
  obtain ⟨rfl, h64⟩ := hR
  have := hc 0 _ rfl
  rw [show k * 1 + 0 = k by omega] at this
  exact ⟨x, b, o, hA, this, h64, hx⟩

def stepOf (was now : List Member) (by_ : ByteArray) : Bool × Int :=
  if (rightOf was && rightOf now) = false then (false, 2) else
    match dif1 now was ++ dif2 was now with
    | [name] => if ofOf now name = 0 then (revokeD was by_ name == 0, revokeD was by_ name) else if ofOf was name = 0 then (false, shareD was by_ name (ofOf now name)) else (false, changeD was by_ name (ofOf now name))
    | _ => (false, 11)
theorem i64_small {n : Int} (h0 : 0 ≤ n) (h4 : n ≤ 4) : I64 n := by unfold I64; omega
theorem of_range {l : List Member} (h : RightL l) (name : ByteArray) : 0 ≤ ofOf l name ∧ ofOf l name ≤ 4 := by
  rcases of_pos (fun m hm => (h.each m hm).2) name with ⟨_, h⟩ | ⟨_, h1, h2⟩ <;> omega

set_option maxRecDepth 100000 in
set_option maxHeartbeats 4000000 in
theorem step_any (was now : List Member) (by_ : ByteArray) (v u : Value) (w : World) (S S' : Nat → Prop) (h : Sl 2 rMember S w v was) (k : Sl 2 rMember S' w u now) (hl0 : was.length ≤ 100000) (hl1 : now.length ≤ 100000) :
    Calls Try.prog 21 #[v, u, .string by_] w fun e w' => (∃ b q, e = .returned (.tuple #[.bool b, .int .i64 q]) ∧ (b, q) = stepOf was now by_) ∧ Below w.heap.size w w' := by
  have cR1 : ∀ W, Below w.heap.size w W → Calls Try.prog 12 #[v] W fun e w' => e = .returned (.bool (rightOf was)) ∧ Below w.heap.size w w' := fun W hb => (right_any was v W S (h.keep rMember_ok (by decide) (kept_of hb)) (by omega)).mono fun _ _ hh => ⟨hh.1, bel_call hb hh.2⟩
  have cR2 : ∀ W, Below w.heap.size w W → Calls Try.prog 12 #[u] W fun e w' => e = .returned (.bool (rightOf now)) ∧ Below w.heap.size w w' := fun W hb => (right_any now u W S' (k.keep rMember_ok (by decide) (kept_of hb)) (by omega)).mono fun _ _ hh => ⟨hh.1, bel_call hb hh.2⟩
  have cD : ∀ W, Below w.heap.size w W → Calls Try.prog 35 #[v, u] W fun e w' => (∃ v', e = .returned v' ∧ Sl 1 rStr (fun _ => True) w' v' (dif1 now was ++ dif2 was now)) ∧ Below w.heap.size w w' := fun W hb => (differ_any was now v u W S S' (h.keep rMember_ok (by decide) (kept_of hb)) (k.keep rMember_ok (by decide) (kept_of hb)) hl0 hl1).mono fun _ _ hh => ⟨hh.1, bel_call hb hh.2⟩
  have B0 : Below w.heap.size w w := Below.refl _ _
  cases hr : rightOf was && rightOf now
  · have F := Lib.hid (show stepOf was now by_ = (false, 2) by rw [stepOf, if_pos hr])
    generalize rightOf was = r1 at *
    generalize rightOf now = r2 at *
    clear h k
    go_enter Try.func21, Try.ntmps21
    go_wp2_with (first
      | (go_at_call_of 12 v; refine Calls.mono (cR1 _ (by assumption)) ?_; rintro e w1 ⟨rfl, B1⟩)
      | (go_at_call_of 12 u; refine Calls.mono (cR2 _ (by assumption)) ?_; rintro e w2 ⟨rfl, B2⟩)
      | (go_at_call 35; refine Calls.mono (cD _ (by assumption)) ?_; rintro e w3 ⟨⟨v3, rfl, s3⟩, B3⟩; exfalso; simp_all))
    all_goals go_ret2
    all_goals exact ⟨⟨_, _, rfl, F.out.symm⟩, by assumption⟩
  · obtain ⟨h1, h2⟩ : rightOf was = true ∧ rightOf now = true := by simpa using hr
    rw [h1] at cR1
    rw [h2] at cR2
    have R1 := (right_iff was).1 h1
    have R2 := (right_iff now).1 h2
    by_cases h3 : (dif1 now was ++ dif2 was now).length = 1
    · obtain ⟨name, hnm⟩ := List.length_eq_one_iff.1 h3
      have F : Hid (stepOf was now by_ = if ofOf now name = 0 then (revokeD was by_ name == 0, revokeD was by_ name) else if ofOf was name = 0 then (false, shareD was by_ name (ofOf now name)) else (false, changeD was by_ name (ofOf now name))) := by
        show _ = _
        rw [stepOf, if_neg (by rw [hr]; simp), hnm]
      rw [hnm] at cD
      have hsz : name.size ≤ 140737488355328 := by
        have hm : name ∈ dif1 now was ++ dif2 was now := by rw [hnm]; simp
        have key : ∀ (l : List Member) (v : Value) (S : Nat → Prop), Sl 2 rMember S w v l → ∀ m ∈ l, m.name.size ≤ 140737488355328 := by
          rintro l v S ⟨_, _, _, _, _, _, hs⟩ m hm
          obtain ⟨i, hi⟩ := List.getElem?_of_mem hm
          obtain ⟨_, _, _, _, _, _, _, hR⟩ := hs i m hi
          exact (open_Member hR).2.1
        rcases List.mem_append.1 hm with hm | hm
        · obtain ⟨m, hm', rfl⟩ := List.mem_map.1 hm
          exact key _ _ _ h m (List.mem_filter.1 hm').1
        · obtain ⟨m, hm', rfl⟩ := List.mem_map.1 hm
          exact key _ _ _ k m ((List.mem_filter.1 hm').1)
      have co : ∀ W, Below w.heap.size w W → Calls Try.prog 13 #[u, .string name] W fun e w' => e = .returned (.int .i64 (ofOf now name)) ∧ Below w.heap.size w w' := fun W hb => (of_any name now u W S' (k.keep rMember_ok (by decide) (kept_of hb))).mono fun _ _ hh => ⟨hh.1, bel_call hb hh.2⟩
      have ca : ∀ W, Below w.heap.size w W → Calls Try.prog 27 #[v, .string name] W fun e w' => e = .returned (.int .i64 (atOf was name)) ∧ Below w.heap.size w w' := fun W hb => (at_any name was v W S (h.keep rMember_ok (by decide) (kept_of hb))).mono fun _ _ hh => ⟨hh.1, bel_call hb hh.2⟩
      have cV : ∀ W, Below w.heap.size w W → Calls Try.prog 11 #[v, .string by_, .string name] W fun e w' => (∃ A c, e = .returned (.tuple #[.slice A (revokeL was by_ name).length c, .int .i64 (revokeD was by_ name)])) ∧ Below w.heap.size w w' := fun W hb => (revoke_doc was by_ name hsz v W S (h.keep rMember_ok (by decide) (kept_of hb)) hl0).mono fun _ _ ⟨⟨A, c, h1, _⟩, h3⟩ => ⟨⟨A, c, h1⟩, bel_call hb h3⟩
      have cS : ∀ n, I64 n → ∀ W, Below w.heap.size w W → Calls Try.prog 9 #[v, .string by_, .string name, .int .i64 n] W fun e w' => (∃ A c, e = .returned (.tuple #[.slice A (shareL was by_ name n).length c, .int .i64 (shareD was by_ name n)])) ∧ Below w.heap.size w w' := fun n hn W hb => (share_doc was by_ name n hsz hn v W S (h.keep rMember_ok (by decide) (kept_of hb)) hl0).mono fun _ _ ⟨⟨A, c, h1, _⟩, h3⟩ => ⟨⟨A, c, h1⟩, bel_call hb h3⟩
      have cC : ∀ n, I64 n → ∀ W, Below w.heap.size w W → Calls Try.prog 10 #[v, .string by_, .string name, .int .i64 n] W fun e w' => (∃ A c, e = .returned (.tuple #[.slice A (changeL was by_ name n).length c, .int .i64 (changeD was by_ name n)])) ∧ Below w.heap.size w w' := fun n hn W hb => (change_doc was by_ name n hsz hn v W S (h.keep rMember_ok (by decide) (kept_of hb)) hl0).mono fun _ _ ⟨⟨A, c, h1, _⟩, h3⟩ => ⟨⟨A, c, h1⟩, bel_call hb h3⟩
      have hoA := of_pos (fun m hm => (R1.each m hm).2) name
      obtain ⟨hq0, hq4⟩ := of_range R2 name
      have hnI := i64_small hq0 hq4
      generalize revokeD was by_ name = rk at *
      generalize revokeL was by_ name = rl at *
      obtain ⟨q, hq⟩ : ∃ q, q = ofOf now name := ⟨_, rfl⟩
      rw [← hq] at F co hq0 hq4 hnI
      have cS' := cS q hnI
      have cC' := cC q hnI
      clear cS cC hq
      generalize shareD was by_ name q = sk at *
      generalize shareL was by_ name q = sl at *
      generalize changeD was by_ name q = ck at *
      generalize changeL was by_ name q = cl at *
      generalize ofOf was name = o at *
      generalize atOf was name = a at *
      have HA := Lib.hid hoA
      clear h k h1 h2 h3 hnm hr R1 R2 hoA
      go_enter Try.func21, Try.ntmps21
      go_wp2_with (first
        | (go_at_call_of 12 v; refine Calls.mono (cR1 _ (by assumption)) ?_; rintro e w1 ⟨rfl, B1⟩)
        | (go_at_call_of 12 u; refine Calls.mono (cR2 _ (by assumption)) ?_; rintro e w2 ⟨rfl, B2⟩)
        | (go_at_call 35; refine Calls.mono (cD _ (by assumption)) ?_; rintro e w3 ⟨⟨v3, rfl, A3, c3, rfl, l3, m3, n3, s3⟩, B3⟩; obtain ⟨x3, b3, o3, rfl, t3, _, g3⟩ := get_Str s3 (k := 0) (by simp); simp only [List.getElem?_cons_zero, Option.some.injEq] at g3; subst g3; rw [Nat.add_zero] at t3)
        | (go_at_call 13; refine Calls.mono (co _ (by assumption)) ?_; rintro e w4 ⟨rfl, B4⟩)
        | (go_at_call 27; refine Calls.mono (ca _ (by assumption)) ?_; rintro e w5 ⟨rfl, B5⟩)
        | (go_at_call 11; refine Calls.mono (cV _ (by assumption)) ?_; rintro e w6 ⟨⟨A6, c6, rfl⟩, B6⟩)
        | (go_at_call 9; refine Calls.mono (cS' _ (by assumption)) ?_; rintro e w7 ⟨⟨A7, c7, rfl⟩, B7⟩)
        | (go_at_call 10; refine Calls.mono (cC' _ (by assumption)) ?_; rintro e w8 ⟨⟨A8, c8, rfl⟩, B8⟩))
      all_goals go_ret2
      all_goals exact ⟨⟨_, _, rfl, by rw [F.out]; have hoA := HA.out; (repeat' split) <;> first | rfl | (exfalso; simp only [beq_iff_eq, beq_eq_false_iff_ne, ne_eq] at *; omega)⟩, by assumption⟩
    · have F : Hid (stepOf was now by_ = (false, 11)) := by
        show _ = _
        rw [stepOf, if_neg (by rw [hr]; simp)]
        rcases hd : dif1 now was ++ dif2 was now with _ | ⟨a, _ | ⟨b, r⟩⟩
        · rfl
        · rw [hd] at h3; simp at h3
        · rfl
      generalize dif1 now was ++ dif2 was now = ds at *
      have h3' : ((ds.length : Int) == 1) = false := beq_eq_false_iff_ne.2 (by omega)
      clear h k R1 R2
      go_enter Try.func21, Try.ntmps21
      go_wp2_with (first
        | (go_at_call_of 12 v; refine Calls.mono (cR1 _ (by assumption)) ?_; rintro e w1 ⟨rfl, B1⟩)
        | (go_at_call_of 12 u; refine Calls.mono (cR2 _ (by assumption)) ?_; rintro e w2 ⟨rfl, B2⟩)
        | (go_at_call 35; refine Calls.mono (cD _ (by assumption)) ?_; rintro e w3 ⟨⟨v3, rfl, A3, c3, rfl, l3, m3, n3, s3⟩, B3⟩; clear s3))
      all_goals go_ret2
      all_goals exact ⟨⟨_, _, rfl, F.out.symm⟩, by assumption⟩

/-! The document's Step. -/
def lastS (l : List ByteArray) : ByteArray := l.getLastD ⟨#[]⟩
theorem lastS_snoc (l : List ByteArray) (x : ByteArray) : lastS (l ++ [x]) = x := by simp [lastS]
set_option maxRecDepth 100000 in
set_option maxHeartbeats 8000000 in
theorem refstep_any (was now : List Member) (by_ : ByteArray) (v u : Value) (w : World) (S S' : Nat → Prop) (h : Sl 2 rMember S w v was) (k : Sl 2 rMember S' w u now) (hl0 : was.length ≤ 100000) (hl1 : now.length ≤ 100000) :
    Calls Try.prog 22 #[v, u, .string by_] w fun e w' => (∃ b q, e = .returned (.tuple #[.bool b, .int .i64 q]) ∧ (b, q) = stepOf was now by_) ∧ Below w.heap.size w w' := by
  have cR1 : ∀ W, Below w.heap.size w W → Calls Try.prog 8 #[v] W fun e w' => e = .returned (.bool (rightOf was)) ∧ Below w.heap.size w w' := fun W hb => (refright_any was v W S (h.keep rMember_ok (by decide) (kept_of hb))).mono fun _ _ hh => ⟨by rw [← ref_right]; exact hh.1, bel_call hb hh.2⟩
  have cR2 : ∀ W, Below w.heap.size w W → Calls Try.prog 8 #[u] W fun e w' => e = .returned (.bool (rightOf now)) ∧ Below w.heap.size w w' := fun W hb => (refright_any now u W S' (k.keep rMember_ok (by decide) (kept_of hb))).mono fun _ _ hh => ⟨by rw [← ref_right]; exact hh.1, bel_call hb hh.2⟩
  have co1 : ∀ name W, Below w.heap.size w W → Calls Try.prog 14 #[u, .string name] W fun e w' => e = .returned (.int .i64 (ofOf now name)) ∧ w' = W := fun name W hb => (refof_any name now u W S' (k.keep rMember_ok (by decide) (kept_of hb))).mono fun _ _ hh => ⟨hh.1, hh.2.symm⟩
  have co2 : ∀ name W, Below w.heap.size w W → Calls Try.prog 14 #[v, .string name] W fun e w' => e = .returned (.int .i64 (ofOf was name)) ∧ w' = W := fun name W hb => (refof_any name was v W S (h.keep rMember_ok (by decide) (kept_of hb))).mono fun _ _ hh => ⟨hh.1, hh.2.symm⟩
  have cV : ∀ name W, Below w.heap.size w W → Calls Try.prog 16 #[v, .string by_, .string name] W fun e w' => e = .returned (.int .i64 (revokeE (eqS by_ name) (ofOf was by_) (ofOf was name) (own4 was))) ∧ W = w' := fun name W hb => refrevoke_any by_ name was v W S (h.keep rMember_ok (by decide) (kept_of hb))
  have cS : ∀ name n W, Below w.heap.size w W → Calls Try.prog 19 #[v, .string by_, .string name, .int .i64 n] W fun e w' => e = .returned (.int .i64 (shareE (ofOf was by_) (ofOf was name) n was.length)) ∧ W = w' := fun name n W hb => refshare_any by_ name n was v W S (h.keep rMember_ok (by decide) (kept_of hb))
  have cC : ∀ name n W, Below w.heap.size w W → Calls Try.prog 20 #[v, .string by_, .string name, .int .i64 n] W fun e w' => e = .returned (.int .i64 (changeE (ofOf was by_) (ofOf was name) n (own4 was))) ∧ W = w' := fun name n W hb => refchange_any by_ name n was v W S (h.keep rMember_ok (by decide) (kept_of hb))
  have B0 : Below w.heap.size w w := Below.refl _ _
  cases hr : rightOf was && rightOf now
  · have F := Lib.hid (show stepOf was now by_ = (false, 2) by rw [stepOf, if_pos hr])
    have hr' : ¬ (rightOf was = true ∧ rightOf now = true) := by rw [← Bool.and_eq_true, hr]; simp
    have cc : rightOf was = false ∨ (rightOf was = true ∧ rightOf now = false) := by
      cases h1 : rightOf was
      · exact .inl rfl
      · refine .inr ⟨rfl, ?_⟩
        rw [h1] at hr
        simpa using hr
    clear h k hr
    rcases cc with h1 | ⟨h1, h2⟩
    · rw [h1] at cR1
      clear h1 hr'
      go_enter Try.func22, Try.ntmps22
      go_wp2_with (go_at_call_of 8 v; refine Calls.mono (cR1 _ (by assumption)) ?_; rintro e w1 ⟨rfl, B1⟩)
      all_goals go_ret2
      all_goals exact ⟨⟨_, _, rfl, F.out.symm⟩, by assumption⟩
    · rw [h1] at cR1
      rw [h2] at cR2
      clear h1 h2 hr'
      go_enter Try.func22, Try.ntmps22
      go_wp2_with (first
        | (go_at_call_of 8 v; refine Calls.mono (cR1 _ (by assumption)) ?_; rintro e w1 ⟨rfl, B1⟩)
        | (go_at_call_of 8 u; refine Calls.mono (cR2 _ (by assumption)) ?_; rintro e w2 ⟨rfl, B2⟩))
      all_goals go_ret2
      all_goals exact ⟨⟨_, _, rfl, F.out.symm⟩, by assumption⟩
  · obtain ⟨h1, h2⟩ : rightOf was = true ∧ rightOf now = true := by simpa using hr
    rw [h1] at cR1
    rw [h2] at cR2
    have R1 := (right_iff was).1 h1
    have R2 := (right_iff now).1 h2
    obtain ⟨A, c, rfl, hl, hc, hn, hs⟩ := h
    obtain ⟨A', c', rfl, hl', hc', hn', hs'⟩ := k
    unfold maxLen at hc hc'
    clear hr
    have H1 := Lib.hid h1
    have H2 := Lib.hid h2
    have RR1 := Lib.hid R1
    have RR2 := Lib.hid R2
    clear h1 h2 R1 R2
    go_enter Try.func22, Try.ntmps22
    go_wp2_with (first
      | (go_at_call_of 8 A; refine Calls.mono (cR1 _ (by assumption)) ?_; rintro e w1 ⟨rfl, B1⟩)
      | (go_at_call_of 8 A'; refine Calls.mono (cR2 _ (by assumption)) ?_; rintro e w2 ⟨rfl, B2⟩))
    go_loopw [8, 9, 10] (fun nm cn i wr => ∃ k : Nat, k ≤ was.length ∧ i = .int .i64 k ∧ nm = .string (lastS (dif1 now (was.take k))) ∧ cn = .int .i64 ((dif1 now (was.take k)).length : Nat) ∧ Below w.heap.size w wr) (fun _ _ i _ => was.length - (intOf i).toNat)
    case atStart => exact ⟨0, by omega, by go_num, rfl, rfl, by assumption⟩
    case round =>
      obtain ⟨k, hk, rfl, rfl, rfl, hbel⟩ := hrel
      have hz := hbel.size
      by_cases hlt : k < was.length
      · obtain ⟨x, x_b, x_o, x_k, x_d, x_m, rfl, x_l, x_S, x_0, x_1, x_R, x_name_le, x_role_ok⟩ := get_Member hs hlt (kept_of hbel)
        have hlen : (dif1 now (was.take k)).length ≤ k := Nat.le_trans (dif1_len _ _) (List.length_take_le _ _)
        have TK := Lib.hid (dif1_take (now := now) x_k)
        clear x_k x_d
        cases hx : ofOf now x.name == x.role
        · rw [hx] at TK
          have T1 := Lib.hid (show lastS (dif1 now (was.take (k + 1))) = x.name by rw [TK.out]; exact lastS_snoc _ _)
          have T2 := Lib.hid (show (dif1 now (was.take (k + 1))).length = (dif1 now (was.take k)).length + 1 by rw [TK.out]; simp)
          clear TK
          generalize (dif1 now (was.take k)).length = q at *
          have cq := fun n => co1 x.name (wr.drewN n) (below_drewN hbel n)
          generalize ofOf now x.name = o at cq hx
          go_wp2_with fail
          go_quiet ((go_at_call 14; refine Calls.quiet_of_same (cq _)))
          go_wp2
          go_roundw
          case rel => exact ⟨k + 1, by omega, by go_num, by rw [T1.out], by rw [T2.out]; go_num, below_drewN hbel _⟩
          case measure => simp [intOf]; omega
        · rw [hx] at TK
          have T1 := Lib.hid (show dif1 now (was.take (k + 1)) = dif1 now (was.take k) by rw [TK.out]; simp)
          clear TK
          have cq := fun n => co1 x.name (wr.drewN n) (below_drewN hbel n)
          generalize ofOf now x.name = o at cq hx
          go_wp2_with fail
          go_quiet ((go_at_call 14; refine Calls.quiet_of_same (cq _)))
          go_wp2
          go_roundw
          case rel => exact ⟨k + 1, by omega, by go_num, by rw [T1.out], by rw [T1.out], below_drewN hbel _⟩
          case measure => simp [intOf]; omega
      · obtain rfl : k = was.length := by omega
        rw [List.take_length]
        obtain ⟨wo, rfl⟩ : ∃ wo : World, wo = wr := ⟨_, rfl⟩
        have hl1 := dif1_len now was
        go_wp2
        go_loopw [8, 9, 11] (fun nm cn i wr => ∃ k : Nat, k ≤ now.length ∧ i = .int .i64 k ∧ nm = .string (lastS (dif1 now was ++ dif2 was (now.take k))) ∧ cn = .int .i64 ((dif1 now was ++ dif2 was (now.take k)).length : Nat) ∧ Below w.heap.size w wr) (fun _ _ i _ => now.length - (intOf i).toNat)
        case atStart => exact ⟨0, by omega, by go_num, by simp [dif2], by simp [dif2], by assumption⟩
        case round =>
          obtain ⟨k, hk, rfl, rfl, rfl, hbel⟩ := hrel
          have hz := hbel.size
          have hlen : (dif1 now was ++ dif2 was (now.take k)).length ≤ was.length + k := by
            rw [List.length_append]
            have := Nat.le_trans (dif2_len was (now.take k)) (List.length_take_le _ _)
            omega
          by_cases hlt : k < now.length
          · obtain ⟨x, x_b, x_o, x_k, x_d, x_m, rfl, x_l, x_S, x_0, x_1, x_R, x_name_le, x_role_ok⟩ := get_Member hs' hlt (kept_of hbel)
            have TK := Lib.hid (dif2_take (was := was) x_k)
            clear x_k x_d
            have cq := co2 x.name wr hbel
            cases hx : ofOf was x.name == 0
            · rw [hx] at TK
              have T1 := Lib.hid (show dif1 now was ++ dif2 was (now.take (k + 1)) = dif1 now was ++ dif2 was (now.take k) by rw [TK.out]; simp)
              clear TK
              obtain ⟨q, hQ⟩ : ∃ q, q = (dif1 now was ++ dif2 was (now.take k)).length := ⟨_, rfl⟩
              have HQ := Lib.hid hQ
              rw [← hQ] at hlen ⊢
              clear hQ
              generalize ofOf was x.name = o at cq hx
              go_wp2_with (go_at_call 14; refine Calls.mono cq ?_; rintro e w9 ⟨rfl, rfl⟩)
              go_roundw
              case rel => exact ⟨k + 1, by omega, by go_num, by rw [T1.out], by rw [T1.out, ← HQ.out], by assumption⟩
              case measure => simp [intOf]; omega
            · rw [hx] at TK
              have T0 : dif1 now was ++ dif2 was (now.take (k + 1)) = (dif1 now was ++ dif2 was (now.take k)) ++ [x.name] := by rw [TK.out, List.append_assoc]; rfl
              have T1 := Lib.hid (show lastS (dif1 now was ++ dif2 was (now.take (k + 1))) = x.name by rw [T0]; exact lastS_snoc _ _)
              have T2 := Lib.hid (show (dif1 now was ++ dif2 was (now.take (k + 1))).length = (dif1 now was ++ dif2 was (now.take k)).length + 1 by rw [T0, List.length_append]; rfl)
              clear TK T0
              generalize (dif1 now was ++ dif2 was (now.take k)).length = q at *
              generalize ofOf was x.name = o at cq hx
              go_wp2_with (go_at_call 14; refine Calls.mono cq ?_; rintro e w9 ⟨rfl, rfl⟩)
              go_roundw
              case rel => exact ⟨k + 1, by omega, by go_num, by rw [T1.out], by rw [T2.out]; go_num, by assumption⟩
              case measure => simp [intOf]; omega
          · obtain rfl : k = now.length := by omega
            rw [List.take_length] at hlen ⊢
            by_cases h3 : (dif1 now was ++ dif2 was now).length = 1
            · obtain ⟨name, hnm⟩ := List.length_eq_one_iff.1 h3
              have R1 := RR1.out
              have R2 := RR2.out
              have hok : nameOk name = true := by
                have hm : name ∈ dif1 now was ++ dif2 was now := by rw [hnm]; simp
                rcases List.mem_append.1 hm with hm | hm
                · obtain ⟨m, hm', rfl⟩ := List.mem_map.1 hm
                  exact (R1.each m (List.mem_filter.1 hm').1).1
                · obtain ⟨m, hm', rfl⟩ := List.mem_map.1 hm
                  exact (R2.each m (List.mem_filter.1 hm').1).1
              have F : Hid (stepOf was now by_ = if ofOf now name = 0 then (revokeE (eqS by_ name) (ofOf was by_) (ofOf was name) (own4 was) == 0, revokeE (eqS by_ name) (ofOf was by_) (ofOf was name) (own4 was)) else if ofOf was name = 0 then (false, shareE (ofOf was by_) (ofOf was name) (ofOf now name) was.length) else (false, changeE (ofOf was by_) (ofOf was name) (ofOf now name) (own4 was))) := by
                show _ = _
                rw [stepOf, if_neg (by rw [H1.out, H2.out]; simp), hnm]
                show (if ofOf now name = 0 then _ else _) = _
                have hq : ¬ ofOf now name = 0 → isOf (ofOf now name) = true := fun h => by
                  have := of_range R2 name
                  simp only [isOf, Bool.and_eq_true, decide_eq_true_eq]
                  omega
                have e1 : revokeD was by_ name = revokeE (eqS by_ name) (ofOf was by_) (ofOf was name) (own4 was) := by rw [revokeD, H1.out, hok]; rfl
                by_cases h0 : ofOf now name = 0
                · rw [if_pos h0, if_pos h0, e1]
                · have e2 : shareD was by_ name (ofOf now name) = shareE (ofOf was by_) (ofOf was name) (ofOf now name) was.length := by rw [shareD, H1.out, hok, hq h0]; rfl
                  have e3 : changeD was by_ name (ofOf now name) = changeE (ofOf was by_) (ofOf was name) (ofOf now name) (own4 was) := by rw [changeD, H1.out, hok, hq h0]; rfl
                  rw [if_neg h0, if_neg h0, e2, e3]
              have hL : lastS [name] = name := rfl
              rw [hnm, hL]
              have kO := co1 name
              have kW := co2 name
              have kV := cV name
              have kS := cS name (ofOf now name)
              have kC := cC name (ofOf now name)
              generalize revokeE (eqS by_ name) (ofOf was by_) (ofOf was name) (own4 was) = rk at *
              generalize shareE (ofOf was by_) (ofOf was name) (ofOf now name) was.length = sk at *
              generalize changeE (ofOf was by_) (ofOf was name) (ofOf now name) (own4 was) = ck at *
              generalize ofOf now name = q at *
              generalize ofOf was name = o at *
              clear cV cS cC co1 co2 hnm h3 hlen RR1 RR2 H1 H2 hs hs'
              go_wp2_with (first
                | (go_at_call_of 14 A; refine Calls.mono (kW _ (by assumption)) ?_; rintro e w10 ⟨rfl, rfl⟩)
                | (go_at_call_of 14 A'; refine Calls.mono (kO _ (by assumption)) ?_; rintro e w10 ⟨rfl, rfl⟩)
                | (go_at_call 16; refine Calls.mono (kV _ (by assumption)) ?_; rintro e w10 ⟨rfl, rfl⟩)
                | (go_at_call 19; refine Calls.mono (kS _ (by assumption)) ?_; rintro e w10 ⟨rfl, rfl⟩)
                | (go_at_call 20; refine Calls.mono (kC _ (by assumption)) ?_; rintro e w10 ⟨rfl, rfl⟩))
              all_goals go_ret2
              all_goals exact ⟨⟨_, _, rfl, by rw [F.out]; (repeat' split) <;> first | rfl | (exfalso; simp only [beq_iff_eq, beq_eq_false_iff_ne, ne_eq] at *; omega)⟩, by assumption⟩
            · have F : Hid (stepOf was now by_ = (false, 11)) := by
                show _ = _
                rw [stepOf, if_neg (by rw [H1.out, H2.out]; simp)]
                rcases hd : dif1 now was ++ dif2 was now with _ | ⟨a, _ | ⟨b, r⟩⟩
                · rfl
                · rw [hd] at h3; simp at h3
                · rfl
              generalize dif1 now was ++ dif2 was now = ds at *
              have h3' : ((ds.length : Int) == 1) = false := beq_eq_false_iff_ne.2 (by omega)
              go_wp2
              go_ret2
              exact ⟨⟨_, _, rfl, F.out.symm⟩, by assumption⟩
end Go.Proofs.Ytanhholjfkofoaa
