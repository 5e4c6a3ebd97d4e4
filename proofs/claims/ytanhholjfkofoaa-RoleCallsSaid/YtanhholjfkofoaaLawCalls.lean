/- RoleCalls: for every input the law returns true and leaves its arguments as they were. No condition. -/
import Derived.Test.YtanhholjfkofoaaRoleG
import Derived.Test.YtanhholjfkofoaaArgs
import Derived.Test.YtanhholjfkofoaaLaw
namespace Go.Proofs.Ytanhholjfkofoaa
open Go.ChangeShapes Go.WideShapes Go.ChangeAt Go.RowKit Go.Deep

def tA : ByteArray := ⟨#[97]⟩
def tB : ByteArray := ⟨#[98]⟩
theorem tAB : tA ≠ tB := by decide
theorem share_awake : shareD [⟨tA, 4⟩] tA tB 2 = 0 ∧ shareL [⟨tA, 4⟩] tA tB 2 = [⟨tA, 4⟩, ⟨tB, 2⟩] := by
  have h1 : RightL [⟨tA, 4⟩] := ⟨fun m hm => by simp at hm; subst hm; exact ⟨by decide, by decide⟩, by simp, by decide, by decide⟩
  have h2 : eqS tA tA = true := eqS_iff.2 rfl
  have h3 : eqS tA tB = false := eqS_false.2 tAB
  have h4 : shareD [⟨tA, 4⟩] tA tB 2 = 0 := by
    unfold shareD
    rw [(right_iff _).2 h1, show nameOk tB = true by decide, show isOf 2 = true by decide]
    simp [shareE, ofOf, h2, h3]
  refine ⟨h4, ?_⟩
  unfold shareL
  rw [if_pos h4]
  have h5 : leS tB tA = false := by unfold leS ltS; rw [eqS_false.2 tAB.symm, Lib.toList_data, Lib.toList_data]; decide
  simp [withOf, withR, h3, h5]

theorem slat_members {W : World} {T : TypeId} (ms : List Member) (h : ∀ m ∈ ms, m.name.size ≤ 140737488355328 ∧ I64 m.role) : SlAt 2 rMember (fun _ => True) (W.alloc (.cells (ms.flatMap encM).toArray T)) (some ⟨W.heap.size, 0, none⟩) ms := by
  intro i x hi
  refine ⟨W.heap.size, 0, encM x, rfl, trivial, rfl, fun j y hj => ?_, rfl, h x (List.mem_of_getElem? hi)⟩
  have hj2 : j < 2 := (List.getElem?_eq_some_iff.1 hj).1
  rw [cell_of_row _ W.heap.size _ _ T (0, 0) (heap_alloc_new W _), Nat.zero_add]
  have := cellsM_at ms i j x hi hj2
  unfold cellsM at this
  simp only [List.getElem?_toArray]
  rw [this, hj]
theorem sl_members {W : World} {T : TypeId} (ms : List Member) (n : Nat) (hn : ms.length = n) (h : ∀ m ∈ ms, m.name.size ≤ 140737488355328 ∧ I64 m.role) (hs : n ≤ 1000) (cs : Array Value) (hc : cs = (ms.flatMap encM).toArray) :
    Sl 2 rMember (fun _ => True) (W.alloc (.cells cs T)) (.slice (some ⟨W.heap.size, 0, none⟩) n n) ms := by
  subst hn hc
  exact ⟨_, _, rfl, Nat.le_refl _, by unfold maxLen; omega, by omega, slat_members ms h⟩

theorem awake_any (w : World) : Calls Try.prog 6 #[] w fun e w' => e = .returned (.bool true) ∧ Below w.heap.size w w' := by
  obtain ⟨hk, hL⟩ := share_awake
  have cs : ∀ (W : World) (T : TypeId), Calls Try.prog 9 #[.slice (some ⟨W.heap.size, 0, none⟩) 1 1, .string tA, .string tB, .int .i64 2] (W.alloc (.cells #[.string tA, .int .i64 4] T)) (Gives (W.alloc (.cells #[.string tA, .int .i64 4] T)) [⟨tA, 4⟩, ⟨tB, 2⟩] 0) := fun W T => by
    have := share_doc [⟨tA, 4⟩] tA tB 2 (by decide) (by unfold I64; decide) _ (W.alloc (.cells #[.string tA, .int .i64 4] T)) _ (sl_members [⟨tA, 4⟩] 1 rfl (by intro m hm; simp at hm; subst hm; unfold I64; exact ⟨by decide, by decide⟩) (by decide) _ rfl) (by decide)
    rw [hk, hL] at this
    exact this
  unfold tA tB at cs
  go_enter Try.func6, Try.ntmps6
  go_wp2_with (first
    | (go_at_call 9; refine Calls.mono (cs _ _) ?_; rintro e w1 ⟨⟨A1, c1, rfl, s1⟩, b1⟩; have B1 : Below w.heap.size w w1 := bel_call (Below.alloc (Below.refl _ _) (Nat.le_refl _) _) b1)
    | (go_at_call 17; refine Calls.mono (refsame_any [⟨tA, 4⟩, ⟨tB, 2⟩] [⟨tA, 4⟩, ⟨tB, 2⟩] _ _ _ _ _ (s1.keep rMember_ok (by decide) (kept_of (by go_grown))) (sl_members _ 2 rfl (by intro m hm; simp at hm; rcases hm with rfl | rfl <;> (unfold I64; exact ⟨by decide, by decide⟩)) (by decide) _ rfl)) ?_; rintro e w2 ⟨rfl, b2⟩; rw [sameOf_refl]; have B2 : Below w.heap.size w w2 := bel_call (B1.alloc B1.size _) b2))
  go_ret
  exact ⟨rfl, B2⟩

theorem share_cases (l : List Member) (by_ name : ByteArray) (n : Int) : (shareD l by_ name n ≠ 0 ∧ shareL l by_ name n = []) ∨ (shareD l by_ name n = 0 ∧ shareL l by_ name n = withOf l name n) := by
  unfold shareL
  by_cases h : shareD l by_ name n = 0
  · exact .inr ⟨h, by rw [if_pos h]⟩
  · exact .inl ⟨h, by rw [if_neg h]⟩
theorem change_cases (l : List Member) (by_ name : ByteArray) (n : Int) : (changeD l by_ name n ≠ 0 ∧ changeL l by_ name n = []) ∨ (changeD l by_ name n = 0 ∧ changeL l by_ name n = withOf l name n) := by
  unfold changeL
  by_cases h : changeD l by_ name n = 0
  · exact .inr ⟨h, by rw [if_pos h]⟩
  · exact .inl ⟨h, by rw [if_neg h]⟩
theorem revoke_cases (l : List Member) (by_ name : ByteArray) : (revokeD l by_ name ≠ 0 ∧ revokeL l by_ name = []) ∨ (revokeD l by_ name = 0 ∧ revokeL l by_ name = withOf l name 0) := by
  unfold revokeL
  by_cases h : revokeD l by_ name = 0
  · exact .inr ⟨h, by rw [if_pos h]⟩
  · exact .inl ⟨h, by rw [if_neg h]⟩

/-- The contracts that the law calls, from the world of the call on. -/
structure Ls (l : List Member) (v : Value) (w : World) (by_ name : ByteArray) (n : Int) (r nk : Bool) (sk ck rk o : Int) (sl cl rl : List Member) : Prop where
  few : ∀ W, Below w.heap.size w W → Calls Try.prog 7 #[v] W fun e w' => e = .returned (.bool (fewOf l)) ∧ Below W.heap.size W w'
  rright : ∀ W, Below w.heap.size w W → Calls Try.prog 8 #[v] W fun e w' => e = .returned (.bool r) ∧ Below W.heap.size W w'
  right : ∀ W, Below w.heap.size w W → Calls Try.prog 12 #[v] W fun e w' => e = .returned (.bool r) ∧ Below W.heap.size W w'
  share : ∀ W, Below w.heap.size w W → Calls Try.prog 9 #[v, .string by_, .string name, .int .i64 n] W (Gives W sl sk)
  change : ∀ W, Below w.heap.size w W → Calls Try.prog 10 #[v, .string by_, .string name, .int .i64 n] W (Gives W cl ck)
  revoke : ∀ W, Below w.heap.size w W → Calls Try.prog 11 #[v, .string by_, .string name] W (Gives W rl rk)
  of : ∀ W, Below w.heap.size w W → Calls Try.prog 13 #[v, .string name] W fun e w' => e = .returned (.int .i64 o) ∧ Below W.heap.size W w'
  rof : ∀ W, Below w.heap.size w W → Calls Try.prog 14 #[v, .string name] W fun e w' => e = .returned (.int .i64 o) ∧ W = w'
  rname : ∀ W, Calls Try.prog 15 #[.string name] W fun e w' => e = .returned (.bool nk) ∧ w' = W
  rrevoke : r = true → nk = true → ∀ W, Below w.heap.size w W → Calls Try.prog 16 #[v, .string by_, .string name] W fun e w' => e = .returned (.int .i64 rk) ∧ W = w'
  rshare : r = true → nk = true → isOf n = true → ∀ W, Below w.heap.size w W → Calls Try.prog 19 #[v, .string by_, .string name, .int .i64 n] W fun e w' => e = .returned (.int .i64 sk) ∧ W = w'
  rchange : r = true → nk = true → isOf n = true → ∀ W, Below w.heap.size w W → Calls Try.prog 20 #[v, .string by_, .string name, .int .i64 n] W fun e w' => e = .returned (.int .i64 ck) ∧ W = w'
  rwith : ∀ m, I64 m → ∀ W, Below w.heap.size w W → Calls Try.prog 18 #[v, .string name, .int .i64 m] W fun e w' => (∃ v', e = .returned v' ∧ Sl 2 rMember (fun _ => True) w' v' (withOf l name m)) ∧ Below W.heap.size W w'
theorem ls_any {l : List Member} {v : Value} {w : World} {S : Nat → Prop} (h : Sl 2 rMember S w v l) (hl0 : l.length ≤ 100000) (by_ name : ByteArray) (hname : name.size ≤ 140737488355328) (n : Int) (hn : I64 n) :
    Ls l v w by_ name n (rightOf l) (nameOk name) (shareD l by_ name n) (changeD l by_ name n) (revokeD l by_ name) (ofOf l name) (shareL l by_ name n) (changeL l by_ name n) (revokeL l by_ name) where
  few W hb := few_any l v W S (h.keep rMember_ok (by decide) (kept_of hb))
  rright W hb := by have := refright_any l v W S (h.keep rMember_ok (by decide) (kept_of hb)); rwa [ref_right] at this
  right W hb := right_any l v W S (h.keep rMember_ok (by decide) (kept_of hb)) (by omega)
  share W hb := share_doc l by_ name n hname hn v W S (h.keep rMember_ok (by decide) (kept_of hb)) hl0
  change W hb := change_doc l by_ name n hname hn v W S (h.keep rMember_ok (by decide) (kept_of hb)) hl0
  revoke W hb := revoke_doc l by_ name hname v W S (h.keep rMember_ok (by decide) (kept_of hb)) hl0
  of W hb := of_any name l v W S (h.keep rMember_ok (by decide) (kept_of hb))
  rof W hb := refof_any name l v W S (h.keep rMember_ok (by decide) (kept_of hb))
  rname W := refname_b name hname _ rfl W
  rrevoke hr hk W hb := by
    have := refrevoke_any by_ name l v W S (h.keep rMember_ok (by decide) (kept_of hb))
    rw [show revokeD l by_ name = revokeE (eqS by_ name) (ofOf l by_) (ofOf l name) (own4 l) by unfold revokeD; rw [hr, hk, Bool.and_self, if_neg tf]]
    exact this
  rshare hr hk hi W hb := by
    have := refshare_any by_ name n l v W S (h.keep rMember_ok (by decide) (kept_of hb))
    rw [show shareD l by_ name n = shareE (ofOf l by_) (ofOf l name) n l.length by unfold shareD; rw [hr, hk, hi, Bool.and_self, Bool.and_self, if_neg tf]]
    exact this
  rchange hr hk hi W hb := by
    have := refchange_any by_ name n l v W S (h.keep rMember_ok (by decide) (kept_of hb))
    rw [show changeD l by_ name n = changeE (ofOf l by_) (ofOf l name) n (own4 l) by unfold changeD; rw [hr, hk, hi, Bool.and_self, Bool.and_self, if_neg tf]]
    exact this
  rwith m hm W hb := refwith_any l name m hname hm v W S (h.keep rMember_ok (by decide) (kept_of hb)) (by omega)

set_option maxRecDepth 100000 in
set_option maxHeartbeats 8000000 in
theorem calls_000 (w w0 : World) (l : List Member) (v : Value) (by_ name : ByteArray) (hby : by_.size ≤ 140737488355328) (hname : name.size ≤ 140737488355328) (n : Int) (hn : I64 n) (hf : fewOf l = true) (q : Int)
    (hw0 : w.alloc (.cells #[.string by_, .string name] 23) = w0) (Bw0 : Below w.heap.size w w0) (fw0 : ∀ j, w0.frozen? ⟨w.heap.size, j, none⟩ = false) (w0_0 : w0.cell? ⟨w.heap.size, 0, none⟩ = some (.string by_)) (w0_1 : w0.cell? ⟨w.heap.size, 1, none⟩ = some (.string name)) (hb20 : decide ((20 : Int) < (by_.size : Int)) = false) (hn20 : decide ((20 : Int) < (name.size : Int)) = false) (hi : isOf n = true) (hr1' : decide (n < 1) = false) (hr2' : decide (n > 4) = false)
    (cs : Ls l v w by_ name n true true 0 0 0 q (withOf l name n) (withOf l name n) (withOf l name 0)) :
    Calls Try.prog 3 #[v, .agg #[.string by_, .string name], .int .i64 n] w fun e w' => e = .returned (.bool true) ∧ Below w.heap.size w w' := by
  have hl20 := few_true hf
  have B0 : Below w.heap.size w w := Below.refl _ _
  go_enter Try.func3, Try.ntmps3
  go_wp2_with (go_at_call 6; refine Calls.mono (awake_any _) ?_; rintro e wa ⟨rfl, ba⟩; have Cbaw := bel_call (w := w) (by assumption) ba; have q0 := (ba.cell (p := ⟨w.heap.size, 0, none⟩) (cell_lt w0_0)).trans w0_0; have q1 := (ba.cell (p := ⟨w.heap.size, 1, none⟩) (cell_lt w0_1)).trans w0_1)
  go_quiet (fail)
  have Baq := below_drewN Cbaw nq
  go_wp2_with (first
    | (go_at_call 7; refine Calls.mono (cs.few _ (by assumption)) ?_; rintro e wf ⟨rfl, bf⟩; rw [hf]; have Cbfw := bel_call (w := w) (by assumption) bf)
    | (go_at_call 8; refine Calls.mono (cs.rright _ (by assumption)) ?_; rintro e wr ⟨rfl, br⟩; have Cbrw := bel_call (w := w) (by assumption) br)
    | (go_at_call 9; refine Calls.mono (cs.share _ (by assumption)) ?_; rintro e w1 ⟨⟨A1, c1, rfl, s1⟩, b1⟩; have S1 := Lib.hid s1; clear s1; have Cb1w := bel_call (w := w) (by assumption) b1)
    | (go_at_call 10; refine Calls.mono (cs.change _ (by assumption)) ?_; rintro e w2 ⟨⟨A2, c2, rfl, s2⟩, b2⟩; have S2 := Lib.hid s2; clear s2; have Cb2w := bel_call (w := w) (by assumption) b2)
    | (go_at_call 11; refine Calls.mono (cs.revoke _ (by assumption)) ?_; rintro e w3 ⟨⟨A3, c3, rfl, s3⟩, b3⟩; have S3 := Lib.hid s3; clear s3; have Cb3w := bel_call (w := w) (by assumption) b3; have Cb3w1 := bel_call (w := w1) (by assumption) b3)
    | (go_at_call 12; refine Calls.mono (cs.right _ (by assumption)) ?_; rintro e w4 ⟨rfl, b4⟩; have Cb4w := bel_call (w := w) (by assumption) b4; have Cb4w1 := bel_call (w := w1) (by assumption) b4; have Cb4w2 := bel_call (w := w2) (by assumption) b4)
    | (go_at_call 13; refine Calls.mono (cs.of _ (by assumption)) ?_; rintro e w5 ⟨rfl, b5⟩; have Cb5w := bel_call (w := w) (by assumption) b5; have Cb5w1 := bel_call (w := w1) (by assumption) b5; have Cb5w2 := bel_call (w := w2) (by assumption) b5; have Cb5w3 := bel_call (w := w3) (by assumption) b5)
    | (go_at_call 14; refine Calls.mono (cs.rof _ (by assumption)) ?_; rintro e wo ⟨rfl, rfl⟩)
    | (go_at_call 15; refine Calls.mono (cs.rname _) ?_; rintro e wn ⟨rfl, rfl⟩)
    | (go_at_call 16; refine Calls.mono (cs.rrevoke rfl rfl _ (by assumption)) ?_; rintro e wv ⟨rfl, rfl⟩)
    | (go_at_call 18; refine Calls.mono (cs.rwith 0 (by unfold I64; decide) _ (by assumption)) ?_; rintro e w6 ⟨⟨v6, rfl, s6⟩, b6⟩; have S6 := Lib.hid s6; clear s6; have Cb6w := bel_call (w := w) (by assumption) b6; have Cb6w1 := bel_call (w := w1) (by assumption) b6; have Cb6w2 := bel_call (w := w2) (by assumption) b6; have Cb6w3 := bel_call (w := w3) (by assumption) b6))
  refine Calls.mono (refsame_any _ _ _ _ _ _ _ (S3.out.keep rMember_ok (by decide) (kept_of (by assumption))) S6.out) ?_
  rintro e w7 ⟨rfl, b7⟩
  rw [sameOf_refl]
  have Cb7w := bel_call (w := w) (by assumption) b7; have Cb7w1 := bel_call (w := w1) (by assumption) b7; have Cb7w2 := bel_call (w := w2) (by assumption) b7
  go_wp2_with (first
    | (go_at_call 19; refine Calls.mono (cs.rshare rfl rfl hi _ (by assumption)) ?_; rintro e wv ⟨rfl, rfl⟩)
    | (go_at_call 20; refine Calls.mono (cs.rchange rfl rfl hi _ (by assumption)) ?_; rintro e wv ⟨rfl, rfl⟩)
    | (go_at_call 18; refine Calls.mono (cs.rwith n hn _ (by assumption)) ?_; rintro e w8 ⟨⟨v8, rfl, s8⟩, b8⟩; have S8 := Lib.hid s8; clear s8; have Cb8w := bel_call (w := w) (by assumption) b8; have Cb8w1 := bel_call (w := w1) (by assumption) b8; have Cb8w2 := bel_call (w := w2) (by assumption) b8))
  refine Calls.mono (refsame_any _ _ _ _ _ _ _ (S1.out.keep rMember_ok (by decide) (kept_of (by assumption))) (S8.out.keep rMember_ok (by decide) (kept_of (by first | assumption | exact Below.refl _ _)))) ?_
  rintro e w9 ⟨rfl, b9⟩
  rw [sameOf_refl]
  have Cb9w := bel_call (w := w) (by assumption) b9; have Cb9w2 := bel_call (w := w2) (by assumption) b9
  go_wp2_with fail
  refine Calls.mono (refsame_any _ _ _ _ _ _ _ (S2.out.keep rMember_ok (by decide) (kept_of (by assumption))) (S8.out.keep rMember_ok (by decide) (kept_of (by first | assumption | exact Below.refl _ _)))) ?_
  rintro e w10 ⟨rfl, b10⟩
  rw [sameOf_refl]
  have Cb10w := bel_call (w := w) (by assumption) b10
  go_wp2_with fail
  go_ret
  exact ⟨rfl, by assumption⟩

set_option maxRecDepth 100000 in
set_option maxHeartbeats 8000000 in
theorem calls_001 (w w0 : World) (l : List Member) (v : Value) (by_ name : ByteArray) (hby : by_.size ≤ 140737488355328) (hname : name.size ≤ 140737488355328) (n : Int) (hn : I64 n) (hf : fewOf l = true) (q : Int) (ck : Int) (hck : (ck == 0) = false) (kck : (ck != 0) = true) (mck : ck ≠ 0)
    (hw0 : w.alloc (.cells #[.string by_, .string name] 23) = w0) (Bw0 : Below w.heap.size w w0) (fw0 : ∀ j, w0.frozen? ⟨w.heap.size, j, none⟩ = false) (w0_0 : w0.cell? ⟨w.heap.size, 0, none⟩ = some (.string by_)) (w0_1 : w0.cell? ⟨w.heap.size, 1, none⟩ = some (.string name)) (hb20 : decide ((20 : Int) < (by_.size : Int)) = false) (hn20 : decide ((20 : Int) < (name.size : Int)) = false) (hi : isOf n = true) (hr1' : decide (n < 1) = false) (hr2' : decide (n > 4) = false)
    (cs : Ls l v w by_ name n true true 0 ck 0 q (withOf l name n) [] (withOf l name 0)) :
    Calls Try.prog 3 #[v, .agg #[.string by_, .string name], .int .i64 n] w fun e w' => e = .returned (.bool true) ∧ Below w.heap.size w w' := by
  have hl20 := few_true hf
  have B0 : Below w.heap.size w w := Below.refl _ _
  go_enter Try.func3, Try.ntmps3
  go_wp2_with (go_at_call 6; refine Calls.mono (awake_any _) ?_; rintro e wa ⟨rfl, ba⟩; have Cbaw := bel_call (w := w) (by assumption) ba; have q0 := (ba.cell (p := ⟨w.heap.size, 0, none⟩) (cell_lt w0_0)).trans w0_0; have q1 := (ba.cell (p := ⟨w.heap.size, 1, none⟩) (cell_lt w0_1)).trans w0_1)
  go_quiet (fail)
  have Baq := below_drewN Cbaw nq
  go_wp2_with (first
    | (go_at_call 7; refine Calls.mono (cs.few _ (by assumption)) ?_; rintro e wf ⟨rfl, bf⟩; rw [hf]; have Cbfw := bel_call (w := w) (by assumption) bf)
    | (go_at_call 8; refine Calls.mono (cs.rright _ (by assumption)) ?_; rintro e wr ⟨rfl, br⟩; have Cbrw := bel_call (w := w) (by assumption) br)
    | (go_at_call 9; refine Calls.mono (cs.share _ (by assumption)) ?_; rintro e w1 ⟨⟨A1, c1, rfl, s1⟩, b1⟩; have S1 := Lib.hid s1; clear s1; have Cb1w := bel_call (w := w) (by assumption) b1)
    | (go_at_call 10; refine Calls.mono (cs.change _ (by assumption)) ?_; rintro e w2 ⟨⟨A2, c2, rfl, s2⟩, b2⟩; have S2 := Lib.hid s2; clear s2; have Cb2w := bel_call (w := w) (by assumption) b2)
    | (go_at_call 11; refine Calls.mono (cs.revoke _ (by assumption)) ?_; rintro e w3 ⟨⟨A3, c3, rfl, s3⟩, b3⟩; have S3 := Lib.hid s3; clear s3; have Cb3w := bel_call (w := w) (by assumption) b3; have Cb3w1 := bel_call (w := w1) (by assumption) b3)
    | (go_at_call 12; refine Calls.mono (cs.right _ (by assumption)) ?_; rintro e w4 ⟨rfl, b4⟩; have Cb4w := bel_call (w := w) (by assumption) b4; have Cb4w1 := bel_call (w := w1) (by assumption) b4; have Cb4w2 := bel_call (w := w2) (by assumption) b4)
    | (go_at_call 13; refine Calls.mono (cs.of _ (by assumption)) ?_; rintro e w5 ⟨rfl, b5⟩; have Cb5w := bel_call (w := w) (by assumption) b5; have Cb5w1 := bel_call (w := w1) (by assumption) b5; have Cb5w2 := bel_call (w := w2) (by assumption) b5; have Cb5w3 := bel_call (w := w3) (by assumption) b5)
    | (go_at_call 14; refine Calls.mono (cs.rof _ (by assumption)) ?_; rintro e wo ⟨rfl, rfl⟩)
    | (go_at_call 15; refine Calls.mono (cs.rname _) ?_; rintro e wn ⟨rfl, rfl⟩)
    | (go_at_call 16; refine Calls.mono (cs.rrevoke rfl rfl _ (by assumption)) ?_; rintro e wv ⟨rfl, rfl⟩)
    | (go_at_call 18; refine Calls.mono (cs.rwith 0 (by unfold I64; decide) _ (by assumption)) ?_; rintro e w6 ⟨⟨v6, rfl, s6⟩, b6⟩; have S6 := Lib.hid s6; clear s6; have Cb6w := bel_call (w := w) (by assumption) b6; have Cb6w1 := bel_call (w := w1) (by assumption) b6; have Cb6w2 := bel_call (w := w2) (by assumption) b6; have Cb6w3 := bel_call (w := w3) (by assumption) b6))
  refine Calls.mono (refsame_any _ _ _ _ _ _ _ (S3.out.keep rMember_ok (by decide) (kept_of (by assumption))) S6.out) ?_
  rintro e w7 ⟨rfl, b7⟩
  rw [sameOf_refl]
  have Cb7w := bel_call (w := w) (by assumption) b7; have Cb7w1 := bel_call (w := w1) (by assumption) b7; have Cb7w2 := bel_call (w := w2) (by assumption) b7
  go_wp2_with (first
    | (go_at_call 19; refine Calls.mono (cs.rshare rfl rfl hi _ (by assumption)) ?_; rintro e wv ⟨rfl, rfl⟩)
    | (go_at_call 20; refine Calls.mono (cs.rchange rfl rfl hi _ (by assumption)) ?_; rintro e wv ⟨rfl, rfl⟩)
    | (go_at_call 18; refine Calls.mono (cs.rwith n hn _ (by assumption)) ?_; rintro e w8 ⟨⟨v8, rfl, s8⟩, b8⟩; have S8 := Lib.hid s8; clear s8; have Cb8w := bel_call (w := w) (by assumption) b8; have Cb8w1 := bel_call (w := w1) (by assumption) b8; have Cb8w2 := bel_call (w := w2) (by assumption) b8))
  refine Calls.mono (refsame_any _ _ _ _ _ _ _ (S1.out.keep rMember_ok (by decide) (kept_of (by assumption))) (S8.out.keep rMember_ok (by decide) (kept_of (by first | assumption | exact Below.refl _ _)))) ?_
  rintro e w9 ⟨rfl, b9⟩
  rw [sameOf_refl]
  have Cb9w := bel_call (w := w) (by assumption) b9; have Cb9w2 := bel_call (w := w2) (by assumption) b9
  go_wp2_with fail
  go_ret
  exact ⟨rfl, by assumption⟩

set_option maxRecDepth 100000 in
set_option maxHeartbeats 8000000 in
theorem calls_010 (w w0 : World) (l : List Member) (v : Value) (by_ name : ByteArray) (hby : by_.size ≤ 140737488355328) (hname : name.size ≤ 140737488355328) (n : Int) (hn : I64 n) (hf : fewOf l = true) (q : Int) (sk : Int) (hsk : (sk == 0) = false) (ksk : (sk != 0) = true) (msk : sk ≠ 0)
    (hw0 : w.alloc (.cells #[.string by_, .string name] 23) = w0) (Bw0 : Below w.heap.size w w0) (fw0 : ∀ j, w0.frozen? ⟨w.heap.size, j, none⟩ = false) (w0_0 : w0.cell? ⟨w.heap.size, 0, none⟩ = some (.string by_)) (w0_1 : w0.cell? ⟨w.heap.size, 1, none⟩ = some (.string name)) (hb20 : decide ((20 : Int) < (by_.size : Int)) = false) (hn20 : decide ((20 : Int) < (name.size : Int)) = false) (hi : isOf n = true) (hr1' : decide (n < 1) = false) (hr2' : decide (n > 4) = false)
    (cs : Ls l v w by_ name n true true sk 0 0 q [] (withOf l name n) (withOf l name 0)) :
    Calls Try.prog 3 #[v, .agg #[.string by_, .string name], .int .i64 n] w fun e w' => e = .returned (.bool true) ∧ Below w.heap.size w w' := by
  have hl20 := few_true hf
  have B0 : Below w.heap.size w w := Below.refl _ _
  go_enter Try.func3, Try.ntmps3
  go_wp2_with (go_at_call 6; refine Calls.mono (awake_any _) ?_; rintro e wa ⟨rfl, ba⟩; have Cbaw := bel_call (w := w) (by assumption) ba; have q0 := (ba.cell (p := ⟨w.heap.size, 0, none⟩) (cell_lt w0_0)).trans w0_0; have q1 := (ba.cell (p := ⟨w.heap.size, 1, none⟩) (cell_lt w0_1)).trans w0_1)
  go_quiet (fail)
  have Baq := below_drewN Cbaw nq
  go_wp2_with (first
    | (go_at_call 7; refine Calls.mono (cs.few _ (by assumption)) ?_; rintro e wf ⟨rfl, bf⟩; rw [hf]; have Cbfw := bel_call (w := w) (by assumption) bf)
    | (go_at_call 8; refine Calls.mono (cs.rright _ (by assumption)) ?_; rintro e wr ⟨rfl, br⟩; have Cbrw := bel_call (w := w) (by assumption) br)
    | (go_at_call 9; refine Calls.mono (cs.share _ (by assumption)) ?_; rintro e w1 ⟨⟨A1, c1, rfl, s1⟩, b1⟩; have S1 := Lib.hid s1; clear s1; have Cb1w := bel_call (w := w) (by assumption) b1)
    | (go_at_call 10; refine Calls.mono (cs.change _ (by assumption)) ?_; rintro e w2 ⟨⟨A2, c2, rfl, s2⟩, b2⟩; have S2 := Lib.hid s2; clear s2; have Cb2w := bel_call (w := w) (by assumption) b2)
    | (go_at_call 11; refine Calls.mono (cs.revoke _ (by assumption)) ?_; rintro e w3 ⟨⟨A3, c3, rfl, s3⟩, b3⟩; have S3 := Lib.hid s3; clear s3; have Cb3w := bel_call (w := w) (by assumption) b3; have Cb3w1 := bel_call (w := w1) (by assumption) b3)
    | (go_at_call 12; refine Calls.mono (cs.right _ (by assumption)) ?_; rintro e w4 ⟨rfl, b4⟩; have Cb4w := bel_call (w := w) (by assumption) b4; have Cb4w1 := bel_call (w := w1) (by assumption) b4; have Cb4w2 := bel_call (w := w2) (by assumption) b4)
    | (go_at_call 13; refine Calls.mono (cs.of _ (by assumption)) ?_; rintro e w5 ⟨rfl, b5⟩; have Cb5w := bel_call (w := w) (by assumption) b5; have Cb5w1 := bel_call (w := w1) (by assumption) b5; have Cb5w2 := bel_call (w := w2) (by assumption) b5; have Cb5w3 := bel_call (w := w3) (by assumption) b5)
    | (go_at_call 14; refine Calls.mono (cs.rof _ (by assumption)) ?_; rintro e wo ⟨rfl, rfl⟩)
    | (go_at_call 15; refine Calls.mono (cs.rname _) ?_; rintro e wn ⟨rfl, rfl⟩)
    | (go_at_call 16; refine Calls.mono (cs.rrevoke rfl rfl _ (by assumption)) ?_; rintro e wv ⟨rfl, rfl⟩)
    | (go_at_call 18; refine Calls.mono (cs.rwith 0 (by unfold I64; decide) _ (by assumption)) ?_; rintro e w6 ⟨⟨v6, rfl, s6⟩, b6⟩; have S6 := Lib.hid s6; clear s6; have Cb6w := bel_call (w := w) (by assumption) b6; have Cb6w1 := bel_call (w := w1) (by assumption) b6; have Cb6w2 := bel_call (w := w2) (by assumption) b6; have Cb6w3 := bel_call (w := w3) (by assumption) b6))
  refine Calls.mono (refsame_any _ _ _ _ _ _ _ (S3.out.keep rMember_ok (by decide) (kept_of (by assumption))) S6.out) ?_
  rintro e w7 ⟨rfl, b7⟩
  rw [sameOf_refl]
  have Cb7w := bel_call (w := w) (by assumption) b7; have Cb7w1 := bel_call (w := w1) (by assumption) b7; have Cb7w2 := bel_call (w := w2) (by assumption) b7
  go_wp2_with (first
    | (go_at_call 19; refine Calls.mono (cs.rshare rfl rfl hi _ (by assumption)) ?_; rintro e wv ⟨rfl, rfl⟩)
    | (go_at_call 20; refine Calls.mono (cs.rchange rfl rfl hi _ (by assumption)) ?_; rintro e wv ⟨rfl, rfl⟩)
    | (go_at_call 18; refine Calls.mono (cs.rwith n hn _ (by assumption)) ?_; rintro e w8 ⟨⟨v8, rfl, s8⟩, b8⟩; have S8 := Lib.hid s8; clear s8; have Cb8w := bel_call (w := w) (by assumption) b8; have Cb8w1 := bel_call (w := w1) (by assumption) b8; have Cb8w2 := bel_call (w := w2) (by assumption) b8))
  refine Calls.mono (refsame_any _ _ _ _ _ _ _ (S2.out.keep rMember_ok (by decide) (kept_of (by assumption))) (S8.out.keep rMember_ok (by decide) (kept_of (by first | assumption | exact Below.refl _ _)))) ?_
  rintro e w10 ⟨rfl, b10⟩
  rw [sameOf_refl]
  have Cb10w := bel_call (w := w) (by assumption) b10
  go_wp2_with fail
  go_ret
  exact ⟨rfl, by assumption⟩

set_option maxRecDepth 100000 in
set_option maxHeartbeats 8000000 in
theorem calls_011 (w w0 : World) (l : List Member) (v : Value) (by_ name : ByteArray) (hby : by_.size ≤ 140737488355328) (hname : name.size ≤ 140737488355328) (n : Int) (hn : I64 n) (hf : fewOf l = true) (q : Int) (sk : Int) (hsk : (sk == 0) = false) (ksk : (sk != 0) = true) (msk : sk ≠ 0) (ck : Int) (hck : (ck == 0) = false) (kck : (ck != 0) = true) (mck : ck ≠ 0)
    (hw0 : w.alloc (.cells #[.string by_, .string name] 23) = w0) (Bw0 : Below w.heap.size w w0) (fw0 : ∀ j, w0.frozen? ⟨w.heap.size, j, none⟩ = false) (w0_0 : w0.cell? ⟨w.heap.size, 0, none⟩ = some (.string by_)) (w0_1 : w0.cell? ⟨w.heap.size, 1, none⟩ = some (.string name)) (hb20 : decide ((20 : Int) < (by_.size : Int)) = false) (hn20 : decide ((20 : Int) < (name.size : Int)) = false) (hi : isOf n = true) (hr1' : decide (n < 1) = false) (hr2' : decide (n > 4) = false)
    (cs : Ls l v w by_ name n true true sk ck 0 q [] [] (withOf l name 0)) :
    Calls Try.prog 3 #[v, .agg #[.string by_, .string name], .int .i64 n] w fun e w' => e = .returned (.bool true) ∧ Below w.heap.size w w' := by
  have hl20 := few_true hf
  have B0 : Below w.heap.size w w := Below.refl _ _
  go_enter Try.func3, Try.ntmps3
  go_wp2_with (go_at_call 6; refine Calls.mono (awake_any _) ?_; rintro e wa ⟨rfl, ba⟩; have Cbaw := bel_call (w := w) (by assumption) ba; have q0 := (ba.cell (p := ⟨w.heap.size, 0, none⟩) (cell_lt w0_0)).trans w0_0; have q1 := (ba.cell (p := ⟨w.heap.size, 1, none⟩) (cell_lt w0_1)).trans w0_1)
  go_quiet (fail)
  have Baq := below_drewN Cbaw nq
  go_wp2_with (first
    | (go_at_call 7; refine Calls.mono (cs.few _ (by assumption)) ?_; rintro e wf ⟨rfl, bf⟩; rw [hf]; have Cbfw := bel_call (w := w) (by assumption) bf)
    | (go_at_call 8; refine Calls.mono (cs.rright _ (by assumption)) ?_; rintro e wr ⟨rfl, br⟩; have Cbrw := bel_call (w := w) (by assumption) br)
    | (go_at_call 9; refine Calls.mono (cs.share _ (by assumption)) ?_; rintro e w1 ⟨⟨A1, c1, rfl, s1⟩, b1⟩; have S1 := Lib.hid s1; clear s1; have Cb1w := bel_call (w := w) (by assumption) b1)
    | (go_at_call 10; refine Calls.mono (cs.change _ (by assumption)) ?_; rintro e w2 ⟨⟨A2, c2, rfl, s2⟩, b2⟩; have S2 := Lib.hid s2; clear s2; have Cb2w := bel_call (w := w) (by assumption) b2)
    | (go_at_call 11; refine Calls.mono (cs.revoke _ (by assumption)) ?_; rintro e w3 ⟨⟨A3, c3, rfl, s3⟩, b3⟩; have S3 := Lib.hid s3; clear s3; have Cb3w := bel_call (w := w) (by assumption) b3; have Cb3w1 := bel_call (w := w1) (by assumption) b3)
    | (go_at_call 12; refine Calls.mono (cs.right _ (by assumption)) ?_; rintro e w4 ⟨rfl, b4⟩; have Cb4w := bel_call (w := w) (by assumption) b4; have Cb4w1 := bel_call (w := w1) (by assumption) b4; have Cb4w2 := bel_call (w := w2) (by assumption) b4)
    | (go_at_call 13; refine Calls.mono (cs.of _ (by assumption)) ?_; rintro e w5 ⟨rfl, b5⟩; have Cb5w := bel_call (w := w) (by assumption) b5; have Cb5w1 := bel_call (w := w1) (by assumption) b5; have Cb5w2 := bel_call (w := w2) (by assumption) b5; have Cb5w3 := bel_call (w := w3) (by assumption) b5)
    | (go_at_call 14; refine Calls.mono (cs.rof _ (by assumption)) ?_; rintro e wo ⟨rfl, rfl⟩)
    | (go_at_call 15; refine Calls.mono (cs.rname _) ?_; rintro e wn ⟨rfl, rfl⟩)
    | (go_at_call 16; refine Calls.mono (cs.rrevoke rfl rfl _ (by assumption)) ?_; rintro e wv ⟨rfl, rfl⟩)
    | (go_at_call 18; refine Calls.mono (cs.rwith 0 (by unfold I64; decide) _ (by assumption)) ?_; rintro e w6 ⟨⟨v6, rfl, s6⟩, b6⟩; have S6 := Lib.hid s6; clear s6; have Cb6w := bel_call (w := w) (by assumption) b6; have Cb6w1 := bel_call (w := w1) (by assumption) b6; have Cb6w2 := bel_call (w := w2) (by assumption) b6; have Cb6w3 := bel_call (w := w3) (by assumption) b6))
  refine Calls.mono (refsame_any _ _ _ _ _ _ _ (S3.out.keep rMember_ok (by decide) (kept_of (by assumption))) S6.out) ?_
  rintro e w7 ⟨rfl, b7⟩
  rw [sameOf_refl]
  have Cb7w := bel_call (w := w) (by assumption) b7; have Cb7w1 := bel_call (w := w1) (by assumption) b7; have Cb7w2 := bel_call (w := w2) (by assumption) b7
  go_wp2_with (first
    | (go_at_call 19; refine Calls.mono (cs.rshare rfl rfl hi _ (by assumption)) ?_; rintro e wv ⟨rfl, rfl⟩)
    | (go_at_call 20; refine Calls.mono (cs.rchange rfl rfl hi _ (by assumption)) ?_; rintro e wv ⟨rfl, rfl⟩)
    | (go_at_call 18; refine Calls.mono (cs.rwith n hn _ (by assumption)) ?_; rintro e w8 ⟨⟨v8, rfl, s8⟩, b8⟩; have S8 := Lib.hid s8; clear s8; have Cb8w := bel_call (w := w) (by assumption) b8; have Cb8w1 := bel_call (w := w1) (by assumption) b8; have Cb8w2 := bel_call (w := w2) (by assumption) b8))
  go_ret
  exact ⟨rfl, by assumption⟩

set_option maxRecDepth 100000 in
set_option maxHeartbeats 8000000 in
theorem calls_100 (w w0 : World) (l : List Member) (v : Value) (by_ name : ByteArray) (hby : by_.size ≤ 140737488355328) (hname : name.size ≤ 140737488355328) (n : Int) (hn : I64 n) (hf : fewOf l = true) (q : Int) (rk : Int) (hrk : (rk == 0) = false) (krk : (rk != 0) = true) (mrk : rk ≠ 0)
    (hw0 : w.alloc (.cells #[.string by_, .string name] 23) = w0) (Bw0 : Below w.heap.size w w0) (fw0 : ∀ j, w0.frozen? ⟨w.heap.size, j, none⟩ = false) (w0_0 : w0.cell? ⟨w.heap.size, 0, none⟩ = some (.string by_)) (w0_1 : w0.cell? ⟨w.heap.size, 1, none⟩ = some (.string name)) (hb20 : decide ((20 : Int) < (by_.size : Int)) = false) (hn20 : decide ((20 : Int) < (name.size : Int)) = false) (hi : isOf n = true) (hr1' : decide (n < 1) = false) (hr2' : decide (n > 4) = false)
    (cs : Ls l v w by_ name n true true 0 0 rk q (withOf l name n) (withOf l name n) []) :
    Calls Try.prog 3 #[v, .agg #[.string by_, .string name], .int .i64 n] w fun e w' => e = .returned (.bool true) ∧ Below w.heap.size w w' := by
  have hl20 := few_true hf
  have B0 : Below w.heap.size w w := Below.refl _ _
  go_enter Try.func3, Try.ntmps3
  go_wp2_with (go_at_call 6; refine Calls.mono (awake_any _) ?_; rintro e wa ⟨rfl, ba⟩; have Cbaw := bel_call (w := w) (by assumption) ba; have q0 := (ba.cell (p := ⟨w.heap.size, 0, none⟩) (cell_lt w0_0)).trans w0_0; have q1 := (ba.cell (p := ⟨w.heap.size, 1, none⟩) (cell_lt w0_1)).trans w0_1)
  go_quiet (fail)
  have Baq := below_drewN Cbaw nq
  go_wp2_with (first
    | (go_at_call 7; refine Calls.mono (cs.few _ (by assumption)) ?_; rintro e wf ⟨rfl, bf⟩; rw [hf]; have Cbfw := bel_call (w := w) (by assumption) bf)
    | (go_at_call 8; refine Calls.mono (cs.rright _ (by assumption)) ?_; rintro e wr ⟨rfl, br⟩; have Cbrw := bel_call (w := w) (by assumption) br)
    | (go_at_call 9; refine Calls.mono (cs.share _ (by assumption)) ?_; rintro e w1 ⟨⟨A1, c1, rfl, s1⟩, b1⟩; have S1 := Lib.hid s1; clear s1; have Cb1w := bel_call (w := w) (by assumption) b1)
    | (go_at_call 10; refine Calls.mono (cs.change _ (by assumption)) ?_; rintro e w2 ⟨⟨A2, c2, rfl, s2⟩, b2⟩; have S2 := Lib.hid s2; clear s2; have Cb2w := bel_call (w := w) (by assumption) b2)
    | (go_at_call 11; refine Calls.mono (cs.revoke _ (by assumption)) ?_; rintro e w3 ⟨⟨A3, c3, rfl, s3⟩, b3⟩; have S3 := Lib.hid s3; clear s3; have Cb3w := bel_call (w := w) (by assumption) b3; have Cb3w1 := bel_call (w := w1) (by assumption) b3)
    | (go_at_call 12; refine Calls.mono (cs.right _ (by assumption)) ?_; rintro e w4 ⟨rfl, b4⟩; have Cb4w := bel_call (w := w) (by assumption) b4; have Cb4w1 := bel_call (w := w1) (by assumption) b4; have Cb4w2 := bel_call (w := w2) (by assumption) b4)
    | (go_at_call 13; refine Calls.mono (cs.of _ (by assumption)) ?_; rintro e w5 ⟨rfl, b5⟩; have Cb5w := bel_call (w := w) (by assumption) b5; have Cb5w1 := bel_call (w := w1) (by assumption) b5; have Cb5w2 := bel_call (w := w2) (by assumption) b5; have Cb5w3 := bel_call (w := w3) (by assumption) b5)
    | (go_at_call 14; refine Calls.mono (cs.rof _ (by assumption)) ?_; rintro e wo ⟨rfl, rfl⟩)
    | (go_at_call 15; refine Calls.mono (cs.rname _) ?_; rintro e wn ⟨rfl, rfl⟩)
    | (go_at_call 16; refine Calls.mono (cs.rrevoke rfl rfl _ (by assumption)) ?_; rintro e wv ⟨rfl, rfl⟩)
    | (go_at_call 19; refine Calls.mono (cs.rshare rfl rfl hi _ (by assumption)) ?_; rintro e wv ⟨rfl, rfl⟩)
    | (go_at_call 20; refine Calls.mono (cs.rchange rfl rfl hi _ (by assumption)) ?_; rintro e wv ⟨rfl, rfl⟩)
    | (go_at_call 18; refine Calls.mono (cs.rwith n hn _ (by assumption)) ?_; rintro e w8 ⟨⟨v8, rfl, s8⟩, b8⟩; have S8 := Lib.hid s8; clear s8; have Cb8w := bel_call (w := w) (by assumption) b8; have Cb8w1 := bel_call (w := w1) (by assumption) b8; have Cb8w2 := bel_call (w := w2) (by assumption) b8))
  refine Calls.mono (refsame_any _ _ _ _ _ _ _ (S1.out.keep rMember_ok (by decide) (kept_of (by assumption))) (S8.out.keep rMember_ok (by decide) (kept_of (by first | assumption | exact Below.refl _ _)))) ?_
  rintro e w9 ⟨rfl, b9⟩
  rw [sameOf_refl]
  have Cb9w := bel_call (w := w) (by assumption) b9; have Cb9w2 := bel_call (w := w2) (by assumption) b9
  go_wp2_with fail
  refine Calls.mono (refsame_any _ _ _ _ _ _ _ (S2.out.keep rMember_ok (by decide) (kept_of (by assumption))) (S8.out.keep rMember_ok (by decide) (kept_of (by first | assumption | exact Below.refl _ _)))) ?_
  rintro e w10 ⟨rfl, b10⟩
  rw [sameOf_refl]
  have Cb10w := bel_call (w := w) (by assumption) b10
  go_wp2_with fail
  go_ret
  exact ⟨rfl, by assumption⟩

set_option maxRecDepth 100000 in
set_option maxHeartbeats 8000000 in
theorem calls_101 (w w0 : World) (l : List Member) (v : Value) (by_ name : ByteArray) (hby : by_.size ≤ 140737488355328) (hname : name.size ≤ 140737488355328) (n : Int) (hn : I64 n) (hf : fewOf l = true) (q : Int) (rk : Int) (hrk : (rk == 0) = false) (krk : (rk != 0) = true) (mrk : rk ≠ 0) (ck : Int) (hck : (ck == 0) = false) (kck : (ck != 0) = true) (mck : ck ≠ 0)
    (hw0 : w.alloc (.cells #[.string by_, .string name] 23) = w0) (Bw0 : Below w.heap.size w w0) (fw0 : ∀ j, w0.frozen? ⟨w.heap.size, j, none⟩ = false) (w0_0 : w0.cell? ⟨w.heap.size, 0, none⟩ = some (.string by_)) (w0_1 : w0.cell? ⟨w.heap.size, 1, none⟩ = some (.string name)) (hb20 : decide ((20 : Int) < (by_.size : Int)) = false) (hn20 : decide ((20 : Int) < (name.size : Int)) = false) (hi : isOf n = true) (hr1' : decide (n < 1) = false) (hr2' : decide (n > 4) = false)
    (cs : Ls l v w by_ name n true true 0 ck rk q (withOf l name n) [] []) :
    Calls Try.prog 3 #[v, .agg #[.string by_, .string name], .int .i64 n] w fun e w' => e = .returned (.bool true) ∧ Below w.heap.size w w' := by
  have hl20 := few_true hf
  have B0 : Below w.heap.size w w := Below.refl _ _
  go_enter Try.func3, Try.ntmps3
  go_wp2_with (go_at_call 6; refine Calls.mono (awake_any _) ?_; rintro e wa ⟨rfl, ba⟩; have Cbaw := bel_call (w := w) (by assumption) ba; have q0 := (ba.cell (p := ⟨w.heap.size, 0, none⟩) (cell_lt w0_0)).trans w0_0; have q1 := (ba.cell (p := ⟨w.heap.size, 1, none⟩) (cell_lt w0_1)).trans w0_1)
  go_quiet (fail)
  have Baq := below_drewN Cbaw nq
  go_wp2_with (first
    | (go_at_call 7; refine Calls.mono (cs.few _ (by assumption)) ?_; rintro e wf ⟨rfl, bf⟩; rw [hf]; have Cbfw := bel_call (w := w) (by assumption) bf)
    | (go_at_call 8; refine Calls.mono (cs.rright _ (by assumption)) ?_; rintro e wr ⟨rfl, br⟩; have Cbrw := bel_call (w := w) (by assumption) br)
    | (go_at_call 9; refine Calls.mono (cs.share _ (by assumption)) ?_; rintro e w1 ⟨⟨A1, c1, rfl, s1⟩, b1⟩; have S1 := Lib.hid s1; clear s1; have Cb1w := bel_call (w := w) (by assumption) b1)
    | (go_at_call 10; refine Calls.mono (cs.change _ (by assumption)) ?_; rintro e w2 ⟨⟨A2, c2, rfl, s2⟩, b2⟩; have S2 := Lib.hid s2; clear s2; have Cb2w := bel_call (w := w) (by assumption) b2)
    | (go_at_call 11; refine Calls.mono (cs.revoke _ (by assumption)) ?_; rintro e w3 ⟨⟨A3, c3, rfl, s3⟩, b3⟩; have S3 := Lib.hid s3; clear s3; have Cb3w := bel_call (w := w) (by assumption) b3; have Cb3w1 := bel_call (w := w1) (by assumption) b3)
    | (go_at_call 12; refine Calls.mono (cs.right _ (by assumption)) ?_; rintro e w4 ⟨rfl, b4⟩; have Cb4w := bel_call (w := w) (by assumption) b4; have Cb4w1 := bel_call (w := w1) (by assumption) b4; have Cb4w2 := bel_call (w := w2) (by assumption) b4)
    | (go_at_call 13; refine Calls.mono (cs.of _ (by assumption)) ?_; rintro e w5 ⟨rfl, b5⟩; have Cb5w := bel_call (w := w) (by assumption) b5; have Cb5w1 := bel_call (w := w1) (by assumption) b5; have Cb5w2 := bel_call (w := w2) (by assumption) b5; have Cb5w3 := bel_call (w := w3) (by assumption) b5)
    | (go_at_call 14; refine Calls.mono (cs.rof _ (by assumption)) ?_; rintro e wo ⟨rfl, rfl⟩)
    | (go_at_call 15; refine Calls.mono (cs.rname _) ?_; rintro e wn ⟨rfl, rfl⟩)
    | (go_at_call 16; refine Calls.mono (cs.rrevoke rfl rfl _ (by assumption)) ?_; rintro e wv ⟨rfl, rfl⟩)
    | (go_at_call 19; refine Calls.mono (cs.rshare rfl rfl hi _ (by assumption)) ?_; rintro e wv ⟨rfl, rfl⟩)
    | (go_at_call 20; refine Calls.mono (cs.rchange rfl rfl hi _ (by assumption)) ?_; rintro e wv ⟨rfl, rfl⟩)
    | (go_at_call 18; refine Calls.mono (cs.rwith n hn _ (by assumption)) ?_; rintro e w8 ⟨⟨v8, rfl, s8⟩, b8⟩; have S8 := Lib.hid s8; clear s8; have Cb8w := bel_call (w := w) (by assumption) b8; have Cb8w1 := bel_call (w := w1) (by assumption) b8; have Cb8w2 := bel_call (w := w2) (by assumption) b8))
  refine Calls.mono (refsame_any _ _ _ _ _ _ _ (S1.out.keep rMember_ok (by decide) (kept_of (by assumption))) (S8.out.keep rMember_ok (by decide) (kept_of (by first | assumption | exact Below.refl _ _)))) ?_
  rintro e w9 ⟨rfl, b9⟩
  rw [sameOf_refl]
  have Cb9w := bel_call (w := w) (by assumption) b9; have Cb9w2 := bel_call (w := w2) (by assumption) b9
  go_wp2_with fail
  go_ret
  exact ⟨rfl, by assumption⟩

set_option maxRecDepth 100000 in
set_option maxHeartbeats 8000000 in
theorem calls_110 (w w0 : World) (l : List Member) (v : Value) (by_ name : ByteArray) (hby : by_.size ≤ 140737488355328) (hname : name.size ≤ 140737488355328) (n : Int) (hn : I64 n) (hf : fewOf l = true) (q : Int) (rk : Int) (hrk : (rk == 0) = false) (krk : (rk != 0) = true) (mrk : rk ≠ 0) (sk : Int) (hsk : (sk == 0) = false) (ksk : (sk != 0) = true) (msk : sk ≠ 0)
    (hw0 : w.alloc (.cells #[.string by_, .string name] 23) = w0) (Bw0 : Below w.heap.size w w0) (fw0 : ∀ j, w0.frozen? ⟨w.heap.size, j, none⟩ = false) (w0_0 : w0.cell? ⟨w.heap.size, 0, none⟩ = some (.string by_)) (w0_1 : w0.cell? ⟨w.heap.size, 1, none⟩ = some (.string name)) (hb20 : decide ((20 : Int) < (by_.size : Int)) = false) (hn20 : decide ((20 : Int) < (name.size : Int)) = false) (hi : isOf n = true) (hr1' : decide (n < 1) = false) (hr2' : decide (n > 4) = false)
    (cs : Ls l v w by_ name n true true sk 0 rk q [] (withOf l name n) []) :
    Calls Try.prog 3 #[v, .agg #[.string by_, .string name], .int .i64 n] w fun e w' => e = .returned (.bool true) ∧ Below w.heap.size w w' := by
  have hl20 := few_true hf
  have B0 : Below w.heap.size w w := Below.refl _ _
  go_enter Try.func3, Try.ntmps3
  go_wp2_with (go_at_call 6; refine Calls.mono (awake_any _) ?_; rintro e wa ⟨rfl, ba⟩; have Cbaw := bel_call (w := w) (by assumption) ba; have q0 := (ba.cell (p := ⟨w.heap.size, 0, none⟩) (cell_lt w0_0)).trans w0_0; have q1 := (ba.cell (p := ⟨w.heap.size, 1, none⟩) (cell_lt w0_1)).trans w0_1)
  go_quiet (fail)
  have Baq := below_drewN Cbaw nq
  go_wp2_with (first
    | (go_at_call 7; refine Calls.mono (cs.few _ (by assumption)) ?_; rintro e wf ⟨rfl, bf⟩; rw [hf]; have Cbfw := bel_call (w := w) (by assumption) bf)
    | (go_at_call 8; refine Calls.mono (cs.rright _ (by assumption)) ?_; rintro e wr ⟨rfl, br⟩; have Cbrw := bel_call (w := w) (by assumption) br)
    | (go_at_call 9; refine Calls.mono (cs.share _ (by assumption)) ?_; rintro e w1 ⟨⟨A1, c1, rfl, s1⟩, b1⟩; have S1 := Lib.hid s1; clear s1; have Cb1w := bel_call (w := w) (by assumption) b1)
    | (go_at_call 10; refine Calls.mono (cs.change _ (by assumption)) ?_; rintro e w2 ⟨⟨A2, c2, rfl, s2⟩, b2⟩; have S2 := Lib.hid s2; clear s2; have Cb2w := bel_call (w := w) (by assumption) b2)
    | (go_at_call 11; refine Calls.mono (cs.revoke _ (by assumption)) ?_; rintro e w3 ⟨⟨A3, c3, rfl, s3⟩, b3⟩; have S3 := Lib.hid s3; clear s3; have Cb3w := bel_call (w := w) (by assumption) b3; have Cb3w1 := bel_call (w := w1) (by assumption) b3)
    | (go_at_call 12; refine Calls.mono (cs.right _ (by assumption)) ?_; rintro e w4 ⟨rfl, b4⟩; have Cb4w := bel_call (w := w) (by assumption) b4; have Cb4w1 := bel_call (w := w1) (by assumption) b4; have Cb4w2 := bel_call (w := w2) (by assumption) b4)
    | (go_at_call 13; refine Calls.mono (cs.of _ (by assumption)) ?_; rintro e w5 ⟨rfl, b5⟩; have Cb5w := bel_call (w := w) (by assumption) b5; have Cb5w1 := bel_call (w := w1) (by assumption) b5; have Cb5w2 := bel_call (w := w2) (by assumption) b5; have Cb5w3 := bel_call (w := w3) (by assumption) b5)
    | (go_at_call 14; refine Calls.mono (cs.rof _ (by assumption)) ?_; rintro e wo ⟨rfl, rfl⟩)
    | (go_at_call 15; refine Calls.mono (cs.rname _) ?_; rintro e wn ⟨rfl, rfl⟩)
    | (go_at_call 16; refine Calls.mono (cs.rrevoke rfl rfl _ (by assumption)) ?_; rintro e wv ⟨rfl, rfl⟩)
    | (go_at_call 19; refine Calls.mono (cs.rshare rfl rfl hi _ (by assumption)) ?_; rintro e wv ⟨rfl, rfl⟩)
    | (go_at_call 20; refine Calls.mono (cs.rchange rfl rfl hi _ (by assumption)) ?_; rintro e wv ⟨rfl, rfl⟩)
    | (go_at_call 18; refine Calls.mono (cs.rwith n hn _ (by assumption)) ?_; rintro e w8 ⟨⟨v8, rfl, s8⟩, b8⟩; have S8 := Lib.hid s8; clear s8; have Cb8w := bel_call (w := w) (by assumption) b8; have Cb8w1 := bel_call (w := w1) (by assumption) b8; have Cb8w2 := bel_call (w := w2) (by assumption) b8))
  refine Calls.mono (refsame_any _ _ _ _ _ _ _ (S2.out.keep rMember_ok (by decide) (kept_of (by assumption))) (S8.out.keep rMember_ok (by decide) (kept_of (by first | assumption | exact Below.refl _ _)))) ?_
  rintro e w10 ⟨rfl, b10⟩
  rw [sameOf_refl]
  have Cb10w := bel_call (w := w) (by assumption) b10
  go_wp2_with fail
  go_ret
  exact ⟨rfl, by assumption⟩

set_option maxRecDepth 100000 in
set_option maxHeartbeats 8000000 in
theorem calls_111 (w w0 : World) (l : List Member) (v : Value) (by_ name : ByteArray) (hby : by_.size ≤ 140737488355328) (hname : name.size ≤ 140737488355328) (n : Int) (hn : I64 n) (hf : fewOf l = true) (q : Int) (rk : Int) (hrk : (rk == 0) = false) (krk : (rk != 0) = true) (mrk : rk ≠ 0) (sk : Int) (hsk : (sk == 0) = false) (ksk : (sk != 0) = true) (msk : sk ≠ 0) (ck : Int) (hck : (ck == 0) = false) (kck : (ck != 0) = true) (mck : ck ≠ 0)
    (hw0 : w.alloc (.cells #[.string by_, .string name] 23) = w0) (Bw0 : Below w.heap.size w w0) (fw0 : ∀ j, w0.frozen? ⟨w.heap.size, j, none⟩ = false) (w0_0 : w0.cell? ⟨w.heap.size, 0, none⟩ = some (.string by_)) (w0_1 : w0.cell? ⟨w.heap.size, 1, none⟩ = some (.string name)) (hb20 : decide ((20 : Int) < (by_.size : Int)) = false) (hn20 : decide ((20 : Int) < (name.size : Int)) = false) (hi : isOf n = true) (hr1' : decide (n < 1) = false) (hr2' : decide (n > 4) = false)
    (cs : Ls l v w by_ name n true true sk ck rk q [] [] []) :
    Calls Try.prog 3 #[v, .agg #[.string by_, .string name], .int .i64 n] w fun e w' => e = .returned (.bool true) ∧ Below w.heap.size w w' := by
  have hl20 := few_true hf
  have B0 : Below w.heap.size w w := Below.refl _ _
  go_enter Try.func3, Try.ntmps3
  go_wp2_with (go_at_call 6; refine Calls.mono (awake_any _) ?_; rintro e wa ⟨rfl, ba⟩; have Cbaw := bel_call (w := w) (by assumption) ba; have q0 := (ba.cell (p := ⟨w.heap.size, 0, none⟩) (cell_lt w0_0)).trans w0_0; have q1 := (ba.cell (p := ⟨w.heap.size, 1, none⟩) (cell_lt w0_1)).trans w0_1)
  go_quiet (fail)
  have Baq := below_drewN Cbaw nq
  go_wp2_with (first
    | (go_at_call 7; refine Calls.mono (cs.few _ (by assumption)) ?_; rintro e wf ⟨rfl, bf⟩; rw [hf]; have Cbfw := bel_call (w := w) (by assumption) bf)
    | (go_at_call 8; refine Calls.mono (cs.rright _ (by assumption)) ?_; rintro e wr ⟨rfl, br⟩; have Cbrw := bel_call (w := w) (by assumption) br)
    | (go_at_call 9; refine Calls.mono (cs.share _ (by assumption)) ?_; rintro e w1 ⟨⟨A1, c1, rfl, s1⟩, b1⟩; have S1 := Lib.hid s1; clear s1; have Cb1w := bel_call (w := w) (by assumption) b1)
    | (go_at_call 10; refine Calls.mono (cs.change _ (by assumption)) ?_; rintro e w2 ⟨⟨A2, c2, rfl, s2⟩, b2⟩; have S2 := Lib.hid s2; clear s2; have Cb2w := bel_call (w := w) (by assumption) b2)
    | (go_at_call 11; refine Calls.mono (cs.revoke _ (by assumption)) ?_; rintro e w3 ⟨⟨A3, c3, rfl, s3⟩, b3⟩; have S3 := Lib.hid s3; clear s3; have Cb3w := bel_call (w := w) (by assumption) b3; have Cb3w1 := bel_call (w := w1) (by assumption) b3)
    | (go_at_call 12; refine Calls.mono (cs.right _ (by assumption)) ?_; rintro e w4 ⟨rfl, b4⟩; have Cb4w := bel_call (w := w) (by assumption) b4; have Cb4w1 := bel_call (w := w1) (by assumption) b4; have Cb4w2 := bel_call (w := w2) (by assumption) b4)
    | (go_at_call 13; refine Calls.mono (cs.of _ (by assumption)) ?_; rintro e w5 ⟨rfl, b5⟩; have Cb5w := bel_call (w := w) (by assumption) b5; have Cb5w1 := bel_call (w := w1) (by assumption) b5; have Cb5w2 := bel_call (w := w2) (by assumption) b5; have Cb5w3 := bel_call (w := w3) (by assumption) b5)
    | (go_at_call 14; refine Calls.mono (cs.rof _ (by assumption)) ?_; rintro e wo ⟨rfl, rfl⟩)
    | (go_at_call 15; refine Calls.mono (cs.rname _) ?_; rintro e wn ⟨rfl, rfl⟩)
    | (go_at_call 16; refine Calls.mono (cs.rrevoke rfl rfl _ (by assumption)) ?_; rintro e wv ⟨rfl, rfl⟩)
    | (go_at_call 19; refine Calls.mono (cs.rshare rfl rfl hi _ (by assumption)) ?_; rintro e wv ⟨rfl, rfl⟩)
    | (go_at_call 20; refine Calls.mono (cs.rchange rfl rfl hi _ (by assumption)) ?_; rintro e wv ⟨rfl, rfl⟩)
    | (go_at_call 18; refine Calls.mono (cs.rwith n hn _ (by assumption)) ?_; rintro e w8 ⟨⟨v8, rfl, s8⟩, b8⟩; have S8 := Lib.hid s8; clear s8; have Cb8w := bel_call (w := w) (by assumption) b8; have Cb8w1 := bel_call (w := w1) (by assumption) b8; have Cb8w2 := bel_call (w := w2) (by assumption) b8))
  go_ret
  exact ⟨rfl, by assumption⟩

set_option maxRecDepth 100000 in
set_option maxHeartbeats 8000000 in
theorem walk_roleCalls (w : World) (l : List Member) (v : Value) (h : Sl 2 rMember (fun _ => True) w v l) (by_ name : ByteArray) (hby : by_.size ≤ 140737488355328) (hname : name.size ≤ 140737488355328) (n : Int) (wn : (Lit.int .i64 n).wf = true) :
    Calls Try.prog 3 #[v, .agg #[.string by_, .string name], .int .i64 n] w fun e w' => e = .returned (.bool true) ∧ Below w.heap.size w w' := by
  have hn : I64 n := by
    have h := wn
    simp [Lit.wf] at h
    exact h
  have B0 : Below w.heap.size w w := Below.refl _ _
  obtain ⟨w0, hw0, cw0, fw0, Bw0, qw0⟩ := boxed w #[.string by_, .string name] 23
  have w0_0 := cw0 0 _ rfl
  have w0_1 := cw0 1 _ rfl
  clear cw0
  cases hf : fewOf l
  · have cfew : ∀ W, Below w.heap.size w W → Calls Try.prog 7 #[v] W fun e w' => e = .returned (.bool false) ∧ Below W.heap.size W w' := fun W hb => by
      have := few_any l v W _ (h.keep rMember_ok (by decide) (kept_of hb)); rwa [hf] at this
    clear h hf
    go_enter Try.func3, Try.ntmps3
    go_wp2_with (go_at_call 6; refine Calls.mono (awake_any _) ?_; rintro e wa ⟨rfl, ba⟩; have Cbaw := bel_call (w := w) (by assumption) ba; have q0 := (ba.cell (p := ⟨w.heap.size, 0, none⟩) (cell_lt w0_0)).trans w0_0; have q1 := (ba.cell (p := ⟨w.heap.size, 1, none⟩) (cell_lt w0_1)).trans w0_1)
    go_quiet (fail)
    go_wp2_with (go_at_call 7; refine Calls.mono (cfew _ (below_drewN Cbaw _)) ?_; rintro e wf ⟨rfl, bf⟩)
    go_ret
    exact ⟨rfl, by exact bel_call (below_drewN Cbaw _) bf⟩
  · have hl20 := few_true hf
    have cs := ls_any h (by omega) by_ name hname n hn
    by_cases h20 : by_.size ≤ 20 ∧ name.size ≤ 20
    rotate_left
    · clear h
      go_enter Try.func3, Try.ntmps3
      go_wp2_with (go_at_call 6; refine Calls.mono (awake_any _) ?_; rintro e wa ⟨rfl, ba⟩; have Cbaw := bel_call (w := w) (by assumption) ba; have q0 := (ba.cell (p := ⟨w.heap.size, 0, none⟩) (cell_lt w0_0)).trans w0_0; have q1 := (ba.cell (p := ⟨w.heap.size, 1, none⟩) (cell_lt w0_1)).trans w0_1)
      go_quiet (fail)
      have Baq := below_drewN Cbaw nq
      go_wp2_with (go_at_call 7; refine Calls.mono (cs.few _ (by assumption)) ?_; rintro e wf ⟨rfl, bf⟩; rw [hf]; have Cbfw := bel_call (w := w) (by assumption) bf)
      all_goals first
        | (go_ret; exact ⟨rfl, by assumption⟩)
        | (exfalso; simp_all; omega)
    have hb20 : decide ((20 : Int) < (by_.size : Int)) = false := decide_eq_false (by omega)
    have hn20 : decide ((20 : Int) < (name.size : Int)) = false := decide_eq_false (by omega)
    clear h20
    have C1 := revoke_cases l by_ name
    have C2 := share_cases l by_ name n
    have C3 := change_cases l by_ name n
    have hX : (rightOf l && nameOk name) = false → shareD l by_ name n = 2 ∧ changeD l by_ name n = 2 ∧ revokeD l by_ name = 2 := fun e => by
      have e2 : (rightOf l && (nameOk name && isOf n)) = false := by rw [← Bool.and_assoc, e]; rfl
      exact ⟨by rw [shareD, if_pos e2], by rw [changeD, if_pos e2], by rw [revokeD, if_pos e]⟩
    have hI : isOf n = false → shareD l by_ name n = 2 ∧ changeD l by_ name n = 2 := fun e => by
      have e2 : (rightOf l && (nameOk name && isOf n)) = false := by rw [e, Bool.and_false, Bool.and_false]
      exact ⟨by rw [shareD, if_pos e2], by rw [changeD, if_pos e2]⟩
    generalize shareD l by_ name n = sk at *
    generalize changeD l by_ name n = ck at *
    generalize revokeD l by_ name = rk at *
    generalize ofOf l name = q at *
    generalize shareL l by_ name n = sl at *
    generalize changeL l by_ name n = cl at *
    generalize revokeL l by_ name = rl at *
    generalize rightOf l = r at *
    generalize nameOk name = nk at *
    clear h
    cases hY : (r && nk)
    · obtain ⟨rfl, rfl, rfl⟩ := hX hY
      obtain rfl : sl = [] := by rcases C2 with ⟨_, h⟩ | ⟨h, _⟩; exact h; cases h
      obtain rfl : cl = [] := by rcases C3 with ⟨_, h⟩ | ⟨h, _⟩; exact h; cases h
      obtain rfl : rl = [] := by rcases C1 with ⟨_, h⟩ | ⟨h, _⟩; exact h; cases h
      clear C1 C2 C3 hX hI
      rcases r with _ | _
      rotate_left
      rcases nk with _ | _
      rotate_left
      · cases hY
      all_goals
        go_enter Try.func3, Try.ntmps3
        go_wp2_with (go_at_call 6; refine Calls.mono (awake_any _) ?_; rintro e wa ⟨rfl, ba⟩; have Cbaw := bel_call (w := w) (by assumption) ba; have q0 := (ba.cell (p := ⟨w.heap.size, 0, none⟩) (cell_lt w0_0)).trans w0_0; have q1 := (ba.cell (p := ⟨w.heap.size, 1, none⟩) (cell_lt w0_1)).trans w0_1)
        go_quiet (fail)
        have Baq := below_drewN Cbaw nq
        go_wp2_with (first
          | (go_at_call 7; refine Calls.mono (cs.few _ (by assumption)) ?_; rintro e wf ⟨rfl, bf⟩; rw [hf]; have Cbfw := bel_call (w := w) (by assumption) bf)
          | (go_at_call 8; refine Calls.mono (cs.rright _ (by assumption)) ?_; rintro e wr ⟨rfl, br⟩; have Cbrw := bel_call (w := w) (by assumption) br)
          | (go_at_call 9; refine Calls.mono (cs.share _ (by assumption)) ?_; rintro e w1 ⟨⟨A1, c1, rfl, s1⟩, b1⟩; have S1 := Lib.hid s1; clear s1; have Cb1w := bel_call (w := w) (by assumption) b1)
          | (go_at_call 10; refine Calls.mono (cs.change _ (by assumption)) ?_; rintro e w2 ⟨⟨A2, c2, rfl, s2⟩, b2⟩; have S2 := Lib.hid s2; clear s2; have Cb2w := bel_call (w := w) (by assumption) b2)
          | (go_at_call 11; refine Calls.mono (cs.revoke _ (by assumption)) ?_; rintro e w3 ⟨⟨A3, c3, rfl, s3⟩, b3⟩; have S3 := Lib.hid s3; clear s3; have Cb3w := bel_call (w := w) (by assumption) b3; have Cb3w1 := bel_call (w := w1) (by assumption) b3)
          | (go_at_call 12; refine Calls.mono (cs.right _ (by assumption)) ?_; rintro e w4 ⟨rfl, b4⟩; have Cb4w := bel_call (w := w) (by assumption) b4; have Cb4w1 := bel_call (w := w1) (by assumption) b4; have Cb4w2 := bel_call (w := w2) (by assumption) b4)
          | (go_at_call 13; refine Calls.mono (cs.of _ (by assumption)) ?_; rintro e w5 ⟨rfl, b5⟩; have Cb5w := bel_call (w := w) (by assumption) b5; have Cb5w1 := bel_call (w := w1) (by assumption) b5; have Cb5w2 := bel_call (w := w2) (by assumption) b5; have Cb5w3 := bel_call (w := w3) (by assumption) b5)
          | (go_at_call 14; refine Calls.mono (cs.rof _ (by assumption)) ?_; rintro e wo ⟨rfl, rfl⟩)
          | (go_at_call 15; refine Calls.mono (cs.rname _) ?_; rintro e wn ⟨rfl, rfl⟩))
        all_goals go_ret
        all_goals exact ⟨rfl, by assumption⟩
    · obtain ⟨rfl, rfl⟩ : r = true ∧ nk = true := by simpa using hY
      clear hX hY
      cases hi : isOf n
      · obtain ⟨rfl, rfl⟩ := hI hi
        obtain rfl : sl = [] := by rcases C2 with ⟨_, h⟩ | ⟨h, _⟩; exact h; cases h
        obtain rfl : cl = [] := by rcases C3 with ⟨_, h⟩ | ⟨h, _⟩; exact h; cases h
        have hrole := isOf_false hi
        clear C2 C3 hI hi
        rcases C1 with ⟨h1, rfl⟩ | ⟨rfl, rfl⟩
        · have h1' : (rk == 0) = false := beq_eq_false_iff_ne.2 h1
          go_enter Try.func3, Try.ntmps3
          go_wp2_with (go_at_call 6; refine Calls.mono (awake_any _) ?_; rintro e wa ⟨rfl, ba⟩; have Cbaw := bel_call (w := w) (by assumption) ba; have q0 := (ba.cell (p := ⟨w.heap.size, 0, none⟩) (cell_lt w0_0)).trans w0_0; have q1 := (ba.cell (p := ⟨w.heap.size, 1, none⟩) (cell_lt w0_1)).trans w0_1)
          go_quiet (fail)
          have Baq := below_drewN Cbaw nq
          go_wp2_with (first
            | (go_at_call 7; refine Calls.mono (cs.few _ (by assumption)) ?_; rintro e wf ⟨rfl, bf⟩; rw [hf]; have Cbfw := bel_call (w := w) (by assumption) bf)
            | (go_at_call 8; refine Calls.mono (cs.rright _ (by assumption)) ?_; rintro e wr ⟨rfl, br⟩; have Cbrw := bel_call (w := w) (by assumption) br)
            | (go_at_call 9; refine Calls.mono (cs.share _ (by assumption)) ?_; rintro e w1 ⟨⟨A1, c1, rfl, s1⟩, b1⟩; have S1 := Lib.hid s1; clear s1; have Cb1w := bel_call (w := w) (by assumption) b1)
            | (go_at_call 10; refine Calls.mono (cs.change _ (by assumption)) ?_; rintro e w2 ⟨⟨A2, c2, rfl, s2⟩, b2⟩; have S2 := Lib.hid s2; clear s2; have Cb2w := bel_call (w := w) (by assumption) b2)
            | (go_at_call 11; refine Calls.mono (cs.revoke _ (by assumption)) ?_; rintro e w3 ⟨⟨A3, c3, rfl, s3⟩, b3⟩; have S3 := Lib.hid s3; clear s3; have Cb3w := bel_call (w := w) (by assumption) b3; have Cb3w1 := bel_call (w := w1) (by assumption) b3)
            | (go_at_call 12; refine Calls.mono (cs.right _ (by assumption)) ?_; rintro e w4 ⟨rfl, b4⟩; have Cb4w := bel_call (w := w) (by assumption) b4; have Cb4w1 := bel_call (w := w1) (by assumption) b4; have Cb4w2 := bel_call (w := w2) (by assumption) b4)
            | (go_at_call 13; refine Calls.mono (cs.of _ (by assumption)) ?_; rintro e w5 ⟨rfl, b5⟩; have Cb5w := bel_call (w := w) (by assumption) b5; have Cb5w1 := bel_call (w := w1) (by assumption) b5; have Cb5w2 := bel_call (w := w2) (by assumption) b5; have Cb5w3 := bel_call (w := w3) (by assumption) b5)
            | (go_at_call 14; refine Calls.mono (cs.rof _ (by assumption)) ?_; rintro e wo ⟨rfl, rfl⟩)
            | (go_at_call 15; refine Calls.mono (cs.rname _) ?_; rintro e wn ⟨rfl, rfl⟩)
            | (go_at_call 16; refine Calls.mono (cs.rrevoke rfl rfl _ (by assumption)) ?_; rintro e wv ⟨rfl, rfl⟩))
          all_goals first
            | (exfalso; simp_all; omega)
            | (go_ret; exact ⟨rfl, by assumption⟩)
        · skip
          go_enter Try.func3, Try.ntmps3
          go_wp2_with (go_at_call 6; refine Calls.mono (awake_any _) ?_; rintro e wa ⟨rfl, ba⟩; have Cbaw := bel_call (w := w) (by assumption) ba; have q0 := (ba.cell (p := ⟨w.heap.size, 0, none⟩) (cell_lt w0_0)).trans w0_0; have q1 := (ba.cell (p := ⟨w.heap.size, 1, none⟩) (cell_lt w0_1)).trans w0_1)
          go_quiet (fail)
          have Baq := below_drewN Cbaw nq
          go_wp2_with (first
            | (go_at_call 7; refine Calls.mono (cs.few _ (by assumption)) ?_; rintro e wf ⟨rfl, bf⟩; rw [hf]; have Cbfw := bel_call (w := w) (by assumption) bf)
            | (go_at_call 8; refine Calls.mono (cs.rright _ (by assumption)) ?_; rintro e wr ⟨rfl, br⟩; have Cbrw := bel_call (w := w) (by assumption) br)
            | (go_at_call 9; refine Calls.mono (cs.share _ (by assumption)) ?_; rintro e w1 ⟨⟨A1, c1, rfl, s1⟩, b1⟩; have S1 := Lib.hid s1; clear s1; have Cb1w := bel_call (w := w) (by assumption) b1)
            | (go_at_call 10; refine Calls.mono (cs.change _ (by assumption)) ?_; rintro e w2 ⟨⟨A2, c2, rfl, s2⟩, b2⟩; have S2 := Lib.hid s2; clear s2; have Cb2w := bel_call (w := w) (by assumption) b2)
            | (go_at_call 11; refine Calls.mono (cs.revoke _ (by assumption)) ?_; rintro e w3 ⟨⟨A3, c3, rfl, s3⟩, b3⟩; have S3 := Lib.hid s3; clear s3; have Cb3w := bel_call (w := w) (by assumption) b3; have Cb3w1 := bel_call (w := w1) (by assumption) b3)
            | (go_at_call 12; refine Calls.mono (cs.right _ (by assumption)) ?_; rintro e w4 ⟨rfl, b4⟩; have Cb4w := bel_call (w := w) (by assumption) b4; have Cb4w1 := bel_call (w := w1) (by assumption) b4; have Cb4w2 := bel_call (w := w2) (by assumption) b4)
            | (go_at_call 13; refine Calls.mono (cs.of _ (by assumption)) ?_; rintro e w5 ⟨rfl, b5⟩; have Cb5w := bel_call (w := w) (by assumption) b5; have Cb5w1 := bel_call (w := w1) (by assumption) b5; have Cb5w2 := bel_call (w := w2) (by assumption) b5; have Cb5w3 := bel_call (w := w3) (by assumption) b5)
            | (go_at_call 14; refine Calls.mono (cs.rof _ (by assumption)) ?_; rintro e wo ⟨rfl, rfl⟩)
            | (go_at_call 15; refine Calls.mono (cs.rname _) ?_; rintro e wn ⟨rfl, rfl⟩)
            | (go_at_call 16; refine Calls.mono (cs.rrevoke rfl rfl _ (by assumption)) ?_; rintro e wv ⟨rfl, rfl⟩)
            | (go_at_call 18; refine Calls.mono (cs.rwith 0 (by unfold I64; decide) _ (by assumption)) ?_; rintro e w6 ⟨⟨v6, rfl, s6⟩, b6⟩; have S6 := Lib.hid s6; clear s6; have Cb6w := bel_call (w := w) (by assumption) b6; have Cb6w1 := bel_call (w := w1) (by assumption) b6; have Cb6w2 := bel_call (w := w2) (by assumption) b6; have Cb6w3 := bel_call (w := w3) (by assumption) b6))
          rotate_left
          all_goals first
            | (go_ret; exact ⟨rfl, by assumption⟩)
            | skip
          refine Calls.mono (refsame_any _ _ _ _ _ _ _ (S3.out.keep rMember_ok (by decide) (kept_of (by assumption))) S6.out) ?_
          rintro e w7 ⟨rfl, b7⟩
          rw [sameOf_refl]
          have Cb7w := bel_call (w := w) (by assumption) b7; have Cb7w1 := bel_call (w := w1) (by assumption) b7; have Cb7w2 := bel_call (w := w2) (by assumption) b7
          go_wp2
          all_goals first
            | (exfalso; simp_all; omega)
            | (go_ret; exact ⟨rfl, by assumption⟩)
      · obtain ⟨hr1, hr2⟩ := isOf_true hi
        have hr1' : decide (n < 1) = false := decide_eq_false (by omega)
        have hr2' : decide (n > 4) = false := decide_eq_false (by omega)
        clear hI
        rcases C1 with ⟨h1, rfl⟩ | ⟨rfl, rfl⟩ <;> rcases C2 with ⟨h2, rfl⟩ | ⟨rfl, rfl⟩ <;> rcases C3 with ⟨h3, rfl⟩ | ⟨rfl, rfl⟩
        · exact calls_111 w w0 l v by_ name hby hname n hn hf q rk (beq_eq_false_iff_ne.2 h1) (bne_iff_ne.2 h1) h1 sk (beq_eq_false_iff_ne.2 h2) (bne_iff_ne.2 h2) h2 ck (beq_eq_false_iff_ne.2 h3) (bne_iff_ne.2 h3) h3 hw0 Bw0 fw0 w0_0 w0_1 hb20 hn20 hi hr1' hr2' cs
        · exact calls_110 w w0 l v by_ name hby hname n hn hf q rk (beq_eq_false_iff_ne.2 h1) (bne_iff_ne.2 h1) h1 sk (beq_eq_false_iff_ne.2 h2) (bne_iff_ne.2 h2) h2 hw0 Bw0 fw0 w0_0 w0_1 hb20 hn20 hi hr1' hr2' cs
        · exact calls_101 w w0 l v by_ name hby hname n hn hf q rk (beq_eq_false_iff_ne.2 h1) (bne_iff_ne.2 h1) h1 ck (beq_eq_false_iff_ne.2 h3) (bne_iff_ne.2 h3) h3 hw0 Bw0 fw0 w0_0 w0_1 hb20 hn20 hi hr1' hr2' cs
        · exact calls_100 w w0 l v by_ name hby hname n hn hf q rk (beq_eq_false_iff_ne.2 h1) (bne_iff_ne.2 h1) h1 hw0 Bw0 fw0 w0_0 w0_1 hb20 hn20 hi hr1' hr2' cs
        · exact calls_011 w w0 l v by_ name hby hname n hn hf q sk (beq_eq_false_iff_ne.2 h2) (bne_iff_ne.2 h2) h2 ck (beq_eq_false_iff_ne.2 h3) (bne_iff_ne.2 h3) h3 hw0 Bw0 fw0 w0_0 w0_1 hb20 hn20 hi hr1' hr2' cs
        · exact calls_010 w w0 l v by_ name hby hname n hn hf q sk (beq_eq_false_iff_ne.2 h2) (bne_iff_ne.2 h2) h2 hw0 Bw0 fw0 w0_0 w0_1 hb20 hn20 hi hr1' hr2' cs
        · exact calls_001 w w0 l v by_ name hby hname n hn hf q ck (beq_eq_false_iff_ne.2 h3) (bne_iff_ne.2 h3) h3 hw0 Bw0 fw0 w0_0 w0_1 hb20 hn20 hi hr1' hr2' cs
        · exact calls_000 w w0 l v by_ name hby hname n hn hf q hw0 Bw0 fw0 w0_0 w0_1 hb20 hn20 hi hr1' hr2' cs

set_option maxRecDepth 100000 in
theorem lifted_roleCalls (os : Os) (started : os.Started) (H : Type) (enc : TypeId × Value → H) :
    ReturnsInHanded {} Try.checked os 3 .any (Rows.roleCallsSpec.pre6 enc Try.prog Try.f3 Rows.roleCallsRow.domain false) (Rows.roleCallsSpec.post enc Try.prog Try.f3 false true false false) := by
  refine returnsInHanded_of_change_sized (C := Try.checked) law_own started (by kernel_rfl) Try.func3
    (ChangeSpec.witness6 (enc := enc) (C := Try.checked) false ⟨#[], #[.slice none 0 0, .agg #[.string ⟨#[]⟩, .string ⟨#[]⟩], .int .i64 0], []⟩ 8 (by kernel_rfl) (by kernel_rfl) (by kernel_rfl) (by kernel_rfl)) ?_
  intro W base args ds gs before hval0 hW hcnd hsz0 _
  have hval : ∀ (j : Nat) t v, Try.f3.params[j]? = some t → args[j]? = some v → Value.okWide Try.prog W .any base t v := hval0
  have hW' := hW
  obtain ⟨p, q, hA0, hV, rfl, hfz, hnd⟩ := hW
  have hA : DataW.TrodAll enc Try.prog W 0 (fun _ => true) true Try.f3.params.toList args.toList ds p := hA0
  rw [Try.params3] at hA hval
  obtain ⟨v0, vs0, d0, ds0, p0, q0, hargs, rfl, rfl, h0, r0⟩ := trodAll_cons hA
  obtain ⟨v1, vs1, d1, ds1, p1, q1, rfl, rfl, rfl, h1, r1⟩ := trodAll_cons r0
  obtain ⟨v2, vs2, d2, ds2, p2, q2, rfl, rfl, rfl, h2, r2⟩ := trodAll_cons r1
  obtain ⟨rfl, rfl, rfl⟩ := trodAll_nil r2
  obtain rfl : args = #[v0, v1, v2] := by cases args; simp_all
  obtain ⟨rfl, rfl⟩ := trodVars_none hV
  clear hargs
  obtain ⟨fu0, hf0⟩ := h0
  obtain ⟨a0, hx0⟩ := rdv_sl Try.underlying22 (rd_slice Try.underlying22 (by kernel_rfl) (of_decide_eq_true (by kernel_rfl)) (by decide) rdMember (rMember_ok).len) (hval 0 22 v0 rfl rfl) hf0 (fun q hq => by simpa using List.all_eq_true.1 hsz0 q (DataW.weights_mem_each (j := 0) rfl rfl q hq))
  obtain ⟨fu1, hf1⟩ := h1
  obtain ⟨a1, b1, rfl, w1, u1⟩ := rdv_arr2 Try.underlying23 Try.underlying9 (by kernel_rfl) (by kernel_rfl) (hval 1 23 v1 rfl rfl) hf1 (fun q hq => by simpa using List.all_eq_true.1 hsz0 q (DataW.weights_mem_each (j := 1) rfl rfl q hq))
  obtain ⟨a2, rfl, rfl, rfl, w2⟩ := open_int Try.underlying3 (hval 2 3 v2 rfl rfl) h2
  refine (walk_roleCalls W a0 _ hx0 a1 b1 w1 u1 a2 w2).mono fun e W' ⟨he, hg⟩ => ?_
  subst he
  exact ⟨_, rfl, law_post hW' rfl rfl rfl Try.underlying4 law_laid (by kernel_rfl) hg⟩

theorem roleCalls_holds : Rows.RoleCallsSaid :=
  OpenClaim.holds_of_wide 3 Try.f3 rfl rfl rfl rfl rfl rfl rfl ⟨rfl, rfl, rfl, rfl, rfl⟩ rfl rfl rfl rfl rfl (by kernel_rfl) Try.func3 (by kernel_rfl)
    (of_decide_eq_true (by kernel_rfl)) (by unfold Func.isWrapper; first | (rw [if_pos (by decide +kernel)]; kernel_rfl) | (rw [if_neg (by decide +kernel)]; exact ⟨rfl, rfl⟩))
    (fun os started H enc _ => lifted_roleCalls os started H enc)
end Go.Proofs.Ytanhholjfkofoaa
