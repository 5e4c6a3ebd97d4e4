/- Layer call: May. Conditions: the names' lengths; the table of fields reads as the text lays it. -/
import Derived.Test.YtalhilelbebfbaaDoorCaA
namespace Go.Proofs.YtalhilelbebfbaaDoor
open Go.RowKit Go.Deep
theorem bits_has : ∀ k : Fin 17, ∀ m : Fin 65, m.val ∈ [1, 2, 4, 8, 16, 32, 64] → (bits BinOp.and IntKind.i64 ((fieldsOf k.val : Nat) : Int) (m.val : Int) != 0) = hasF (k.val : Int) m.val := by decide +kernel
def MayAns (M : Bool) (w : World) (e : Ending) (w' : World) : Prop := e = .returned (.bool M) ∧ Below w.heap.size w w'
def mayM (k : Int) (b1 b2 b4 b8 b16 b32 b64 : Bool) (user folder name other : ByteArray) (role version n : Int) : Bool :=
  txt nameOk folder b1 && txt nameOk name b2 && txt nameOk other (b4 || b8 && !other.toList.isEmpty) && !(!b1 && (other.toList == user.toList)) && !(decide (k = 2) && (other.toList == folder.toList)) && num role 1 4 b16 && num version 0 1099511627776 b32 && num n 0 512 b64
set_option maxHeartbeats 4000000 in
theorem may_walk (k : Nat) (hk : 1 ≤ k) (hk2 : k ≤ 16) (F : Nat) (hF : F ≤ 67) (b1 b2 b4 b8 b16 b32 b64 : Bool)
  (m1 : (bits BinOp.and IntKind.i64 (F : Int) 1 != 0) = b1) (m2 : (bits BinOp.and IntKind.i64 (F : Int) 2 != 0) = b2) (m4 : (bits BinOp.and IntKind.i64 (F : Int) 4 != 0) = b4) (m8 : (bits BinOp.and IntKind.i64 (F : Int) 8 != 0) = b8) (m16 : (bits BinOp.and IntKind.i64 (F : Int) 16 != 0) = b16) (m32 : (bits BinOp.and IntKind.i64 (F : Int) 32 != 0) = b32) (m64 : (bits BinOp.and IntKind.i64 (F : Int) 64 != 0) = b64) (m1z : (bits BinOp.and IntKind.i64 (F : Int) 1 == 0) = !b1)
 (user folder name other : ByteArray) (role version : Int) (A : Option Addr) (n c : Nat) (hu : user.size ≤ 140737488355328) (hf : folder.size ≤ 140737488355328) (hnm : name.size ≤ 140737488355328) (ho : other.size ≤ 140737488355328) (hun : nameOk user = true) (w : World) (h0 : 0 < w.heap.size) (hc : w.cell? ⟨0, k, none⟩ = some (.int .i64 F)) :
    Calls Tryd.prog 21 #[.agg #[.int .i64 k, .string user, .string folder, .string name, .string other, .int .i64 role, .int .i64 version, .slice A n c]] w (MayAns (mayM k b1 b2 b4 b8 b16 b32 b64 user folder name other role version n) w) := by
  obtain ⟨M, hM⟩ : ∃ M, mayM k b1 b2 b4 b8 b16 b32 b64 user folder name other role version n = M := ⟨_, rfl⟩
  rw [hM]
  have HM := Lib.hid hM
  clear hM
  obtain ⟨w0, hw0, cw0, fw0, Bw0, qw0⟩ := boxed w #[.int .i64 k, .string user, .string folder, .string name, .string other, .int .i64 role, .int .i64 version, .slice A n c] 46
  have s0 := cw0 0 _ rfl
  have s1 := cw0 1 _ rfl
  have s2 := cw0 2 _ rfl
  have s3 := cw0 3 _ rfl
  have s4 := cw0 4 _ rfl
  have s5 := cw0 5 _ rfl
  have s6 := cw0 6 _ rfl
  have s7 := cw0 7 _ rfl
  have hg := (Bw0.cell (p := ⟨0, k, none⟩) h0).trans hc
  have HN := Lib.hid (name_any user hu w0)
  rw [hun] at HN
  have hki : (k : Int) < 17 := by omega
  have d1 : decide ((k : Int) < 1) = false := decide_eq_false (by omega)
  have d2 : decide ((16 : Int) < k) = false := decide_eq_false (by omega)
  clear cw0 fw0 hc hun
  go_enter Tryd.func21, Tryd.ntmps21
  go_wp2_with (first
    | (go_at_call 31; refine Calls.mono HN.out ?_; rintro e w1 ⟨rfl, rfl⟩)
    | (go_at_call 32; refine Calls.mono (text_any _ (by assumption) _ _) ?_; rintro e w1 ⟨rfl, rfl⟩)
    | (go_at_call 33; refine Calls.mono (number_any _ _ _ _ _) ?_; rintro e w1 ⟨rfl, rfl⟩))
  all_goals
    go_ret
    refine ⟨congrArg (fun b => Ending.returned (.bool b)) ?_, Bw0⟩
    have hm := HM.out
    clear HM HN s0 s1 s2 s3 s4 s5 s6 s7 hg m1 m2 m4 m8 m16 m32 m64 m1z
    unfold mayM at hm
    subst hm
    simp_all
theorem eqC {a b : ByteArray} : (a.toList == b.toList) = decide (a = b) := by
  by_cases h : a = b
  · subst h
    simp
  · rw [decide_eq_false h, ← Bool.not_eq_true, beq_iff_eq]
    intro e
    refine h ?_
    obtain ⟨⟨l⟩⟩ := a
    obtain ⟨⟨r⟩⟩ := b
    rw [Lib.toList_data, Lib.toList_data] at e
    have e2 : l = r := e
    rw [e2]
theorem emptyC {a : ByteArray} : a.toList.isEmpty = emptyB a := by
  by_cases h : a = ⟨#[]⟩
  · subst h
    rw [Lib.toList_data]
    rfl
  · rw [empty_ne h]
    unfold emptyB
    exact (decide_eq_false h).symm
theorem mayM_is {k : Int} (h1 : 1 ≤ k) (h2 : k ≤ 16) {user folder name other : ByteArray} (hu : nameOk user = true) (role version n : Int) :
    mayM k (hasF k 1) (hasF k 2) (hasF k 4) (hasF k 8) (hasF k 16) (hasF k 32) (hasF k 64) user folder name other role version n = mayP nameOk k user folder name other role version n := by
  unfold mayM mayP
  rw [eqC, eqC, emptyC, decide_eq_true h1, decide_eq_true h2, hu]
  rfl
theorem has_bit {k m : Nat} (hk : k ≤ 16) (hm : m ∈ [1, 2, 4, 8, 16, 32, 64]) : (bits BinOp.and IntKind.i64 ((fieldsOf k : Nat) : Int) (m : Int) != 0) = hasF (k : Int) m := by
  have hm2 : m < 65 := by simp at hm; omega
  exact bits_has ⟨k, by omega⟩ ⟨m, hm2⟩ hm
theorem fieldsOf_le : ∀ k : Nat, fieldsOf k ≤ 67 := by
  intro k
  by_cases h : k < 17
  · have : ∀ k : Fin 17, fieldsOf k.val ≤ 67 := by decide
    exact this ⟨k, h⟩
  · unfold fieldsOf
    rw [List.getD_eq_getElem?_getD, List.getElem?_eq_none (by simp; omega)]
    decide
set_option maxHeartbeats 1000000 in
theorem may_any (kind : Int) (user folder name other : ByteArray) (role version : Int) (A : Option Addr) (n c : Nat) (hu : user.size ≤ 140737488355328) (hf : folder.size ≤ 140737488355328) (hnm : name.size ≤ 140737488355328) (ho : other.size ≤ 140737488355328) (w : World) (h0 : 0 < w.heap.size) (hc : ∀ r : Nat, r < 17 → w.cell? ⟨0, r, none⟩ = some (.int .i64 (fieldsOf r : Nat))) :
    Calls Tryd.prog 21 #[.agg #[.int .i64 kind, .string user, .string folder, .string name, .string other, .int .i64 role, .int .i64 version, .slice A n c]] w fun e w' => e = .returned (.bool (mayP nameOk kind user folder name other role version n)) ∧ Below w.heap.size w w' := by
  obtain ⟨w0, hw0, cw0, fw0, Bw0, qw0⟩ := boxed w #[.int .i64 kind, .string user, .string folder, .string name, .string other, .int .i64 role, .int .i64 version, .slice A n c] 46
  have s0 := cw0 0 _ rfl
  have s1 := cw0 1 _ rfl
  have HB := Lib.hid Bw0
  have HN := Lib.hid (name_any user hu w0)
  have HC := Lib.hid hc
  clear cw0 fw0 Bw0 hc
  by_cases h1 : kind < 1
  · have HM := Lib.hid (show mayP nameOk kind user folder name other role version n = false by unfold mayP; simp [show ¬ 1 ≤ kind by omega])
    have d1 : decide (kind < 1) = true := decide_eq_true h1
    clear h1
    go_enter Tryd.func21, Tryd.ntmps21
    go_wp2
    go_ret
    exact ⟨by rw [HM.out]; rfl, HB.out⟩
  have d1 : decide (kind < 1) = false := decide_eq_false h1
  by_cases h2 : 16 < kind
  · have HM := Lib.hid (show mayP nameOk kind user folder name other role version n = false by unfold mayP; simp [show ¬ kind ≤ 16 by omega])
    have d2 : decide (16 < kind) = true := decide_eq_true h2
    clear h1 h2
    go_enter Tryd.func21, Tryd.ntmps21
    go_wp2
    go_ret
    exact ⟨by rw [HM.out]; rfl, HB.out⟩
  have d2 : decide (16 < kind) = false := decide_eq_false h2
  cases hun : nameOk user with
  | false =>
    have HM := Lib.hid (show mayP nameOk kind user folder name other role version n = false by unfold mayP; simp [hun])
    rw [hun] at HN
    clear h1 h2 hun
    go_enter Tryd.func21, Tryd.ntmps21
    go_wp2_with (go_at_call 31; refine Calls.mono HN.out ?_; rintro e w1 ⟨rfl, rfl⟩)
    go_ret
    exact ⟨by rw [HM.out]; rfl, HB.out⟩
  | true =>
    obtain ⟨k, rfl⟩ : ∃ k : Nat, kind = (k : Int) := ⟨kind.toNat, by omega⟩
    refine Calls.mono (may_walk k (by omega) (by omega) (fieldsOf k) (fieldsOf_le k) _ _ _ _ _ _ _ (has_bit (by omega) (by simp)) (has_bit (by omega) (by simp)) (has_bit (by omega) (by simp)) (has_bit (by omega) (by simp)) (has_bit (by omega) (by simp)) (has_bit (by omega) (by simp)) (has_bit (by omega) (by simp)) ?_ user folder name other role version A n c hu hf hnm ho hun w h0 (HC.out k (by omega))) ?_
    · have := has_bit (k := k) (m := 1) (by omega) (by simp)
      rw [← this]
      cases hb : (bits BinOp.and IntKind.i64 ((fieldsOf k : Nat) : Int) 1 == 0) <;> simp [bne, hb]
    · rintro e w' ⟨rfl, hb⟩
      exact ⟨congrArg (fun b => Ending.returned (.bool b)) (mayM_is (by omega) (by omega) hun role version n), hb⟩
end Go.Proofs.YtalhilelbebfbaaDoor
