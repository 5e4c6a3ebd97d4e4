/- Layer call: the document's May. Conditions: the names' lengths. -/
import Derived.Test.YtalhilelbebfbaaDoorCaM
namespace Go.Proofs.YtalhilelbebfbaaDoor
open Go.RowKit Go.Deep
set_option maxHeartbeats 4000000 in
set_option maxRecDepth 100000 in
theorem refmay_1 (user folder name other : ByteArray) (role version : Int) (A : Option Addr) (n c : Nat) (hu : user.size ≤ 140737488355328) (hf : folder.size ≤ 140737488355328) (hnm : name.size ≤ 140737488355328) (ho : other.size ≤ 140737488355328) (w : World) :
    Calls Tryd.prog 24 #[.agg #[.int .i64 1, .string user, .string folder, .string name, .string other, .int .i64 role, .int .i64 version, .slice A n c]] w (MayAns (mayR nameOk 1 user folder name other role version n) w) := by
  obtain ⟨M, hM⟩ : ∃ M, mayR nameOk 1 user folder name other role version n = M := ⟨_, rfl⟩
  rw [hM]
  unfold mayR at hM
  simp only [← eqC, ← emptyC] at hM
  have HM := Lib.hid hM
  clear hM
  obtain ⟨w0, hw0, cw0, fw0, Bw0, qw0⟩ := boxed w #[.int .i64 1, .string user, .string folder, .string name, .string other, .int .i64 role, .int .i64 version, .slice A n c] 46
  have s0 := cw0 0 _ rfl
  have s1 := cw0 1 _ rfl
  have s2 := cw0 2 _ rfl
  have s3 := cw0 3 _ rfl
  have s4 := cw0 4 _ rfl
  have s5 := cw0 5 _ rfl
  have s6 := cw0 6 _ rfl
  have s7 := cw0 7 _ rfl
  have HB := Lib.hid Bw0
  clear cw0 fw0 Bw0
  go_enter Tryd.func24, Tryd.ntmps24
  go_wp2_with (go_at_call 37; refine Calls.mono (refname_any _ (by assumption) _) ?_; rintro e w1 ⟨rfl, rfl⟩)
  all_goals
    go_ret
    refine ⟨congrArg (fun b => Ending.returned (.bool b)) ?_, HB.out⟩
    have hm := HM.out
    clear HM HB s0 s1 s2 s3 s4 s5 s6 s7
    subst hm
    simp_all
set_option maxHeartbeats 4000000 in
set_option maxRecDepth 100000 in
theorem refmay_2 (user folder name other : ByteArray) (role version : Int) (A : Option Addr) (n c : Nat) (hu : user.size ≤ 140737488355328) (hf : folder.size ≤ 140737488355328) (hnm : name.size ≤ 140737488355328) (ho : other.size ≤ 140737488355328) (w : World) :
    Calls Tryd.prog 24 #[.agg #[.int .i64 2, .string user, .string folder, .string name, .string other, .int .i64 role, .int .i64 version, .slice A n c]] w (MayAns (mayR nameOk 2 user folder name other role version n) w) := by
  obtain ⟨M, hM⟩ : ∃ M, mayR nameOk 2 user folder name other role version n = M := ⟨_, rfl⟩
  rw [hM]
  unfold mayR at hM
  simp only [← eqC, ← emptyC] at hM
  have HM := Lib.hid hM
  clear hM
  obtain ⟨w0, hw0, cw0, fw0, Bw0, qw0⟩ := boxed w #[.int .i64 2, .string user, .string folder, .string name, .string other, .int .i64 role, .int .i64 version, .slice A n c] 46
  have s0 := cw0 0 _ rfl
  have s1 := cw0 1 _ rfl
  have s2 := cw0 2 _ rfl
  have s3 := cw0 3 _ rfl
  have s4 := cw0 4 _ rfl
  have s5 := cw0 5 _ rfl
  have s6 := cw0 6 _ rfl
  have s7 := cw0 7 _ rfl
  have HB := Lib.hid Bw0
  clear cw0 fw0 Bw0
  go_enter Tryd.func24, Tryd.ntmps24
  go_wp2_with (go_at_call 37; refine Calls.mono (refname_any _ (by assumption) _) ?_; rintro e w1 ⟨rfl, rfl⟩)
  all_goals
    go_ret
    refine ⟨congrArg (fun b => Ending.returned (.bool b)) ?_, HB.out⟩
    have hm := HM.out
    clear HM HB s0 s1 s2 s3 s4 s5 s6 s7
    subst hm
    simp_all
set_option maxHeartbeats 4000000 in
set_option maxRecDepth 100000 in
theorem refmay_3 (user folder name other : ByteArray) (role version : Int) (A : Option Addr) (n c : Nat) (hu : user.size ≤ 140737488355328) (hf : folder.size ≤ 140737488355328) (hnm : name.size ≤ 140737488355328) (ho : other.size ≤ 140737488355328) (w : World) :
    Calls Tryd.prog 24 #[.agg #[.int .i64 3, .string user, .string folder, .string name, .string other, .int .i64 role, .int .i64 version, .slice A n c]] w (MayAns (mayR nameOk 3 user folder name other role version n) w) := by
  obtain ⟨M, hM⟩ : ∃ M, mayR nameOk 3 user folder name other role version n = M := ⟨_, rfl⟩
  rw [hM]
  unfold mayR at hM
  simp only [← eqC, ← emptyC] at hM
  have HM := Lib.hid hM
  clear hM
  obtain ⟨w0, hw0, cw0, fw0, Bw0, qw0⟩ := boxed w #[.int .i64 3, .string user, .string folder, .string name, .string other, .int .i64 role, .int .i64 version, .slice A n c] 46
  have s0 := cw0 0 _ rfl
  have s1 := cw0 1 _ rfl
  have s2 := cw0 2 _ rfl
  have s3 := cw0 3 _ rfl
  have s4 := cw0 4 _ rfl
  have s5 := cw0 5 _ rfl
  have s6 := cw0 6 _ rfl
  have s7 := cw0 7 _ rfl
  have HB := Lib.hid Bw0
  clear cw0 fw0 Bw0
  go_enter Tryd.func24, Tryd.ntmps24
  go_wp2_with (go_at_call 37; refine Calls.mono (refname_any _ (by assumption) _) ?_; rintro e w1 ⟨rfl, rfl⟩)
  all_goals
    go_ret
    refine ⟨congrArg (fun b => Ending.returned (.bool b)) ?_, HB.out⟩
    have hm := HM.out
    clear HM HB s0 s1 s2 s3 s4 s5 s6 s7
    subst hm
    simp_all
set_option maxHeartbeats 4000000 in
set_option maxRecDepth 100000 in
theorem refmay_4 (user folder name other : ByteArray) (role version : Int) (A : Option Addr) (n c : Nat) (hu : user.size ≤ 140737488355328) (hf : folder.size ≤ 140737488355328) (hnm : name.size ≤ 140737488355328) (ho : other.size ≤ 140737488355328) (w : World) :
    Calls Tryd.prog 24 #[.agg #[.int .i64 4, .string user, .string folder, .string name, .string other, .int .i64 role, .int .i64 version, .slice A n c]] w (MayAns (mayR nameOk 4 user folder name other role version n) w) := by
  obtain ⟨M, hM⟩ : ∃ M, mayR nameOk 4 user folder name other role version n = M := ⟨_, rfl⟩
  rw [hM]
  unfold mayR at hM
  simp only [← eqC, ← emptyC] at hM
  have HM := Lib.hid hM
  clear hM
  obtain ⟨w0, hw0, cw0, fw0, Bw0, qw0⟩ := boxed w #[.int .i64 4, .string user, .string folder, .string name, .string other, .int .i64 role, .int .i64 version, .slice A n c] 46
  have s0 := cw0 0 _ rfl
  have s1 := cw0 1 _ rfl
  have s2 := cw0 2 _ rfl
  have s3 := cw0 3 _ rfl
  have s4 := cw0 4 _ rfl
  have s5 := cw0 5 _ rfl
  have s6 := cw0 6 _ rfl
  have s7 := cw0 7 _ rfl
  have HB := Lib.hid Bw0
  clear cw0 fw0 Bw0
  go_enter Tryd.func24, Tryd.ntmps24
  go_wp2_with (go_at_call 37; refine Calls.mono (refname_any _ (by assumption) _) ?_; rintro e w1 ⟨rfl, rfl⟩)
  all_goals
    go_ret
    refine ⟨congrArg (fun b => Ending.returned (.bool b)) ?_, HB.out⟩
    have hm := HM.out
    clear HM HB s0 s1 s2 s3 s4 s5 s6 s7
    subst hm
    simp_all
set_option maxHeartbeats 4000000 in
set_option maxRecDepth 100000 in
theorem refmay_5 (user folder name other : ByteArray) (role version : Int) (A : Option Addr) (n c : Nat) (hu : user.size ≤ 140737488355328) (hf : folder.size ≤ 140737488355328) (hnm : name.size ≤ 140737488355328) (ho : other.size ≤ 140737488355328) (w : World) :
    Calls Tryd.prog 24 #[.agg #[.int .i64 5, .string user, .string folder, .string name, .string other, .int .i64 role, .int .i64 version, .slice A n c]] w (MayAns (mayR nameOk 5 user folder name other role version n) w) := by
  obtain ⟨M, hM⟩ : ∃ M, mayR nameOk 5 user folder name other role version n = M := ⟨_, rfl⟩
  rw [hM]
  unfold mayR at hM
  simp only [← eqC, ← emptyC] at hM
  have HM := Lib.hid hM
  clear hM
  obtain ⟨w0, hw0, cw0, fw0, Bw0, qw0⟩ := boxed w #[.int .i64 5, .string user, .string folder, .string name, .string other, .int .i64 role, .int .i64 version, .slice A n c] 46
  have s0 := cw0 0 _ rfl
  have s1 := cw0 1 _ rfl
  have s2 := cw0 2 _ rfl
  have s3 := cw0 3 _ rfl
  have s4 := cw0 4 _ rfl
  have s5 := cw0 5 _ rfl
  have s6 := cw0 6 _ rfl
  have s7 := cw0 7 _ rfl
  have HB := Lib.hid Bw0
  clear cw0 fw0 Bw0
  go_enter Tryd.func24, Tryd.ntmps24
  go_wp2_with (go_at_call 37; refine Calls.mono (refname_any _ (by assumption) _) ?_; rintro e w1 ⟨rfl, rfl⟩)
  all_goals
    go_ret
    refine ⟨congrArg (fun b => Ending.returned (.bool b)) ?_, HB.out⟩
    have hm := HM.out
    clear HM HB s0 s1 s2 s3 s4 s5 s6 s7
    subst hm
    simp_all
    all_goals (intros; omega)
set_option maxHeartbeats 4000000 in
set_option maxRecDepth 100000 in
theorem refmay_6 (user folder name other : ByteArray) (role version : Int) (A : Option Addr) (n c : Nat) (hu : user.size ≤ 140737488355328) (hf : folder.size ≤ 140737488355328) (hnm : name.size ≤ 140737488355328) (ho : other.size ≤ 140737488355328) (w : World) :
    Calls Tryd.prog 24 #[.agg #[.int .i64 6, .string user, .string folder, .string name, .string other, .int .i64 role, .int .i64 version, .slice A n c]] w (MayAns (mayR nameOk 6 user folder name other role version n) w) := by
  obtain ⟨M, hM⟩ : ∃ M, mayR nameOk 6 user folder name other role version n = M := ⟨_, rfl⟩
  rw [hM]
  unfold mayR at hM
  simp only [← eqC, ← emptyC] at hM
  have HM := Lib.hid hM
  clear hM
  obtain ⟨w0, hw0, cw0, fw0, Bw0, qw0⟩ := boxed w #[.int .i64 6, .string user, .string folder, .string name, .string other, .int .i64 role, .int .i64 version, .slice A n c] 46
  have s0 := cw0 0 _ rfl
  have s1 := cw0 1 _ rfl
  have s2 := cw0 2 _ rfl
  have s3 := cw0 3 _ rfl
  have s4 := cw0 4 _ rfl
  have s5 := cw0 5 _ rfl
  have s6 := cw0 6 _ rfl
  have s7 := cw0 7 _ rfl
  have HB := Lib.hid Bw0
  clear cw0 fw0 Bw0
  go_enter Tryd.func24, Tryd.ntmps24
  go_wp2_with (go_at_call 37; refine Calls.mono (refname_any _ (by assumption) _) ?_; rintro e w1 ⟨rfl, rfl⟩)
  all_goals
    go_ret
    refine ⟨congrArg (fun b => Ending.returned (.bool b)) ?_, HB.out⟩
    have hm := HM.out
    clear HM HB s0 s1 s2 s3 s4 s5 s6 s7
    subst hm
    simp_all
    all_goals (intros; omega)
set_option maxHeartbeats 4000000 in
set_option maxRecDepth 100000 in
theorem refmay_7 (user folder name other : ByteArray) (role version : Int) (A : Option Addr) (n c : Nat) (hu : user.size ≤ 140737488355328) (hf : folder.size ≤ 140737488355328) (hnm : name.size ≤ 140737488355328) (ho : other.size ≤ 140737488355328) (w : World) :
    Calls Tryd.prog 24 #[.agg #[.int .i64 7, .string user, .string folder, .string name, .string other, .int .i64 role, .int .i64 version, .slice A n c]] w (MayAns (mayR nameOk 7 user folder name other role version n) w) := by
  obtain ⟨M, hM⟩ : ∃ M, mayR nameOk 7 user folder name other role version n = M := ⟨_, rfl⟩
  rw [hM]
  unfold mayR at hM
  simp only [← eqC, ← emptyC] at hM
  have HM := Lib.hid hM
  clear hM
  obtain ⟨w0, hw0, cw0, fw0, Bw0, qw0⟩ := boxed w #[.int .i64 7, .string user, .string folder, .string name, .string other, .int .i64 role, .int .i64 version, .slice A n c] 46
  have s0 := cw0 0 _ rfl
  have s1 := cw0 1 _ rfl
  have s2 := cw0 2 _ rfl
  have s3 := cw0 3 _ rfl
  have s4 := cw0 4 _ rfl
  have s5 := cw0 5 _ rfl
  have s6 := cw0 6 _ rfl
  have s7 := cw0 7 _ rfl
  have HB := Lib.hid Bw0
  clear cw0 fw0 Bw0
  go_enter Tryd.func24, Tryd.ntmps24
  go_wp2_with (go_at_call 37; refine Calls.mono (refname_any _ (by assumption) _) ?_; rintro e w1 ⟨rfl, rfl⟩)
  all_goals
    go_ret
    refine ⟨congrArg (fun b => Ending.returned (.bool b)) ?_, HB.out⟩
    have hm := HM.out
    clear HM HB s0 s1 s2 s3 s4 s5 s6 s7
    subst hm
    simp_all
set_option maxHeartbeats 4000000 in
set_option maxRecDepth 100000 in
theorem refmay_8 (user folder name other : ByteArray) (role version : Int) (A : Option Addr) (n c : Nat) (hu : user.size ≤ 140737488355328) (hf : folder.size ≤ 140737488355328) (hnm : name.size ≤ 140737488355328) (ho : other.size ≤ 140737488355328) (w : World) :
    Calls Tryd.prog 24 #[.agg #[.int .i64 8, .string user, .string folder, .string name, .string other, .int .i64 role, .int .i64 version, .slice A n c]] w (MayAns (mayR nameOk 8 user folder name other role version n) w) := by
  obtain ⟨M, hM⟩ : ∃ M, mayR nameOk 8 user folder name other role version n = M := ⟨_, rfl⟩
  rw [hM]
  unfold mayR at hM
  simp only [← eqC, ← emptyC] at hM
  have HM := Lib.hid hM
  clear hM
  obtain ⟨w0, hw0, cw0, fw0, Bw0, qw0⟩ := boxed w #[.int .i64 8, .string user, .string folder, .string name, .string other, .int .i64 role, .int .i64 version, .slice A n c] 46
  have s0 := cw0 0 _ rfl
  have s1 := cw0 1 _ rfl
  have s2 := cw0 2 _ rfl
  have s3 := cw0 3 _ rfl
  have s4 := cw0 4 _ rfl
  have s5 := cw0 5 _ rfl
  have s6 := cw0 6 _ rfl
  have s7 := cw0 7 _ rfl
  have HB := Lib.hid Bw0
  clear cw0 fw0 Bw0
  go_enter Tryd.func24, Tryd.ntmps24
  go_wp2_with (go_at_call 37; refine Calls.mono (refname_any _ (by assumption) _) ?_; rintro e w1 ⟨rfl, rfl⟩)
  all_goals
    go_ret
    refine ⟨congrArg (fun b => Ending.returned (.bool b)) ?_, HB.out⟩
    have hm := HM.out
    clear HM HB s0 s1 s2 s3 s4 s5 s6 s7
    subst hm
    simp_all
set_option maxHeartbeats 4000000 in
set_option maxRecDepth 100000 in
theorem refmay_9 (user folder name other : ByteArray) (role version : Int) (A : Option Addr) (n c : Nat) (hu : user.size ≤ 140737488355328) (hf : folder.size ≤ 140737488355328) (hnm : name.size ≤ 140737488355328) (ho : other.size ≤ 140737488355328) (w : World) :
    Calls Tryd.prog 24 #[.agg #[.int .i64 9, .string user, .string folder, .string name, .string other, .int .i64 role, .int .i64 version, .slice A n c]] w (MayAns (mayR nameOk 9 user folder name other role version n) w) := by
  obtain ⟨M, hM⟩ : ∃ M, mayR nameOk 9 user folder name other role version n = M := ⟨_, rfl⟩
  rw [hM]
  unfold mayR at hM
  simp only [← eqC, ← emptyC] at hM
  have HM := Lib.hid hM
  clear hM
  obtain ⟨w0, hw0, cw0, fw0, Bw0, qw0⟩ := boxed w #[.int .i64 9, .string user, .string folder, .string name, .string other, .int .i64 role, .int .i64 version, .slice A n c] 46
  have s0 := cw0 0 _ rfl
  have s1 := cw0 1 _ rfl
  have s2 := cw0 2 _ rfl
  have s3 := cw0 3 _ rfl
  have s4 := cw0 4 _ rfl
  have s5 := cw0 5 _ rfl
  have s6 := cw0 6 _ rfl
  have s7 := cw0 7 _ rfl
  have HB := Lib.hid Bw0
  clear cw0 fw0 Bw0
  go_enter Tryd.func24, Tryd.ntmps24
  go_wp2_with (go_at_call 37; refine Calls.mono (refname_any _ (by assumption) _) ?_; rintro e w1 ⟨rfl, rfl⟩)
  all_goals
    go_ret
    refine ⟨congrArg (fun b => Ending.returned (.bool b)) ?_, HB.out⟩
    have hm := HM.out
    clear HM HB s0 s1 s2 s3 s4 s5 s6 s7
    subst hm
    simp_all
    all_goals (intros; omega)
set_option maxHeartbeats 4000000 in
set_option maxRecDepth 100000 in
theorem refmay_10 (user folder name other : ByteArray) (role version : Int) (A : Option Addr) (n c : Nat) (hu : user.size ≤ 140737488355328) (hf : folder.size ≤ 140737488355328) (hnm : name.size ≤ 140737488355328) (ho : other.size ≤ 140737488355328) (w : World) :
    Calls Tryd.prog 24 #[.agg #[.int .i64 10, .string user, .string folder, .string name, .string other, .int .i64 role, .int .i64 version, .slice A n c]] w (MayAns (mayR nameOk 10 user folder name other role version n) w) := by
  obtain ⟨M, hM⟩ : ∃ M, mayR nameOk 10 user folder name other role version n = M := ⟨_, rfl⟩
  rw [hM]
  unfold mayR at hM
  simp only [← eqC, ← emptyC] at hM
  have HM := Lib.hid hM
  clear hM
  obtain ⟨w0, hw0, cw0, fw0, Bw0, qw0⟩ := boxed w #[.int .i64 10, .string user, .string folder, .string name, .string other, .int .i64 role, .int .i64 version, .slice A n c] 46
  have s0 := cw0 0 _ rfl
  have s1 := cw0 1 _ rfl
  have s2 := cw0 2 _ rfl
  have s3 := cw0 3 _ rfl
  have s4 := cw0 4 _ rfl
  have s5 := cw0 5 _ rfl
  have s6 := cw0 6 _ rfl
  have s7 := cw0 7 _ rfl
  have HB := Lib.hid Bw0
  clear cw0 fw0 Bw0
  go_enter Tryd.func24, Tryd.ntmps24
  go_wp2_with (go_at_call 37; refine Calls.mono (refname_any _ (by assumption) _) ?_; rintro e w1 ⟨rfl, rfl⟩)
  all_goals
    go_ret
    refine ⟨congrArg (fun b => Ending.returned (.bool b)) ?_, HB.out⟩
    have hm := HM.out
    clear HM HB s0 s1 s2 s3 s4 s5 s6 s7
    subst hm
    simp_all
set_option maxHeartbeats 4000000 in
set_option maxRecDepth 100000 in
theorem refmay_11 (user folder name other : ByteArray) (role version : Int) (A : Option Addr) (n c : Nat) (hu : user.size ≤ 140737488355328) (hf : folder.size ≤ 140737488355328) (hnm : name.size ≤ 140737488355328) (ho : other.size ≤ 140737488355328) (w : World) :
    Calls Tryd.prog 24 #[.agg #[.int .i64 11, .string user, .string folder, .string name, .string other, .int .i64 role, .int .i64 version, .slice A n c]] w (MayAns (mayR nameOk 11 user folder name other role version n) w) := by
  obtain ⟨M, hM⟩ : ∃ M, mayR nameOk 11 user folder name other role version n = M := ⟨_, rfl⟩
  rw [hM]
  unfold mayR at hM
  simp only [← eqC, ← emptyC] at hM
  have HM := Lib.hid hM
  clear hM
  obtain ⟨w0, hw0, cw0, fw0, Bw0, qw0⟩ := boxed w #[.int .i64 11, .string user, .string folder, .string name, .string other, .int .i64 role, .int .i64 version, .slice A n c] 46
  have s0 := cw0 0 _ rfl
  have s1 := cw0 1 _ rfl
  have s2 := cw0 2 _ rfl
  have s3 := cw0 3 _ rfl
  have s4 := cw0 4 _ rfl
  have s5 := cw0 5 _ rfl
  have s6 := cw0 6 _ rfl
  have s7 := cw0 7 _ rfl
  have HB := Lib.hid Bw0
  clear cw0 fw0 Bw0
  go_enter Tryd.func24, Tryd.ntmps24
  go_wp2_with (go_at_call 37; refine Calls.mono (refname_any _ (by assumption) _) ?_; rintro e w1 ⟨rfl, rfl⟩)
  all_goals
    go_ret
    refine ⟨congrArg (fun b => Ending.returned (.bool b)) ?_, HB.out⟩
    have hm := HM.out
    clear HM HB s0 s1 s2 s3 s4 s5 s6 s7
    subst hm
    simp_all
set_option maxHeartbeats 4000000 in
set_option maxRecDepth 100000 in
theorem refmay_12 (user folder name other : ByteArray) (role version : Int) (A : Option Addr) (n c : Nat) (hu : user.size ≤ 140737488355328) (hf : folder.size ≤ 140737488355328) (hnm : name.size ≤ 140737488355328) (ho : other.size ≤ 140737488355328) (w : World) :
    Calls Tryd.prog 24 #[.agg #[.int .i64 12, .string user, .string folder, .string name, .string other, .int .i64 role, .int .i64 version, .slice A n c]] w (MayAns (mayR nameOk 12 user folder name other role version n) w) := by
  obtain ⟨M, hM⟩ : ∃ M, mayR nameOk 12 user folder name other role version n = M := ⟨_, rfl⟩
  rw [hM]
  unfold mayR at hM
  simp only [← eqC, ← emptyC] at hM
  have HM := Lib.hid hM
  clear hM
  obtain ⟨w0, hw0, cw0, fw0, Bw0, qw0⟩ := boxed w #[.int .i64 12, .string user, .string folder, .string name, .string other, .int .i64 role, .int .i64 version, .slice A n c] 46
  have s0 := cw0 0 _ rfl
  have s1 := cw0 1 _ rfl
  have s2 := cw0 2 _ rfl
  have s3 := cw0 3 _ rfl
  have s4 := cw0 4 _ rfl
  have s5 := cw0 5 _ rfl
  have s6 := cw0 6 _ rfl
  have s7 := cw0 7 _ rfl
  have HB := Lib.hid Bw0
  clear cw0 fw0 Bw0
  go_enter Tryd.func24, Tryd.ntmps24
  go_wp2_with (go_at_call 37; refine Calls.mono (refname_any _ (by assumption) _) ?_; rintro e w1 ⟨rfl, rfl⟩)
  all_goals
    go_ret
    refine ⟨congrArg (fun b => Ending.returned (.bool b)) ?_, HB.out⟩
    have hm := HM.out
    clear HM HB s0 s1 s2 s3 s4 s5 s6 s7
    subst hm
    simp_all
set_option maxHeartbeats 4000000 in
set_option maxRecDepth 100000 in
theorem refmay_13 (user folder name other : ByteArray) (role version : Int) (A : Option Addr) (n c : Nat) (hu : user.size ≤ 140737488355328) (hf : folder.size ≤ 140737488355328) (hnm : name.size ≤ 140737488355328) (ho : other.size ≤ 140737488355328) (w : World) :
    Calls Tryd.prog 24 #[.agg #[.int .i64 13, .string user, .string folder, .string name, .string other, .int .i64 role, .int .i64 version, .slice A n c]] w (MayAns (mayR nameOk 13 user folder name other role version n) w) := by
  obtain ⟨M, hM⟩ : ∃ M, mayR nameOk 13 user folder name other role version n = M := ⟨_, rfl⟩
  rw [hM]
  unfold mayR at hM
  simp only [← eqC, ← emptyC] at hM
  have HM := Lib.hid hM
  clear hM
  obtain ⟨w0, hw0, cw0, fw0, Bw0, qw0⟩ := boxed w #[.int .i64 13, .string user, .string folder, .string name, .string other, .int .i64 role, .int .i64 version, .slice A n c] 46
  have s0 := cw0 0 _ rfl
  have s1 := cw0 1 _ rfl
  have s2 := cw0 2 _ rfl
  have s3 := cw0 3 _ rfl
  have s4 := cw0 4 _ rfl
  have s5 := cw0 5 _ rfl
  have s6 := cw0 6 _ rfl
  have s7 := cw0 7 _ rfl
  have HB := Lib.hid Bw0
  clear cw0 fw0 Bw0
  go_enter Tryd.func24, Tryd.ntmps24
  go_wp2_with (go_at_call 37; refine Calls.mono (refname_any _ (by assumption) _) ?_; rintro e w1 ⟨rfl, rfl⟩)
  all_goals
    go_ret
    refine ⟨congrArg (fun b => Ending.returned (.bool b)) ?_, HB.out⟩
    have hm := HM.out
    clear HM HB s0 s1 s2 s3 s4 s5 s6 s7
    subst hm
    simp_all
set_option maxHeartbeats 4000000 in
set_option maxRecDepth 100000 in
theorem refmay_14 (user folder name other : ByteArray) (role version : Int) (A : Option Addr) (n c : Nat) (hu : user.size ≤ 140737488355328) (hf : folder.size ≤ 140737488355328) (hnm : name.size ≤ 140737488355328) (ho : other.size ≤ 140737488355328) (w : World) :
    Calls Tryd.prog 24 #[.agg #[.int .i64 14, .string user, .string folder, .string name, .string other, .int .i64 role, .int .i64 version, .slice A n c]] w (MayAns (mayR nameOk 14 user folder name other role version n) w) := by
  obtain ⟨M, hM⟩ : ∃ M, mayR nameOk 14 user folder name other role version n = M := ⟨_, rfl⟩
  rw [hM]
  unfold mayR at hM
  simp only [← eqC, ← emptyC] at hM
  have HM := Lib.hid hM
  clear hM
  obtain ⟨w0, hw0, cw0, fw0, Bw0, qw0⟩ := boxed w #[.int .i64 14, .string user, .string folder, .string name, .string other, .int .i64 role, .int .i64 version, .slice A n c] 46
  have s0 := cw0 0 _ rfl
  have s1 := cw0 1 _ rfl
  have s2 := cw0 2 _ rfl
  have s3 := cw0 3 _ rfl
  have s4 := cw0 4 _ rfl
  have s5 := cw0 5 _ rfl
  have s6 := cw0 6 _ rfl
  have s7 := cw0 7 _ rfl
  have HB := Lib.hid Bw0
  clear cw0 fw0 Bw0
  go_enter Tryd.func24, Tryd.ntmps24
  go_wp2_with (go_at_call 37; refine Calls.mono (refname_any _ (by assumption) _) ?_; rintro e w1 ⟨rfl, rfl⟩)
  all_goals
    go_ret
    refine ⟨congrArg (fun b => Ending.returned (.bool b)) ?_, HB.out⟩
    have hm := HM.out
    clear HM HB s0 s1 s2 s3 s4 s5 s6 s7
    subst hm
    simp_all
set_option maxHeartbeats 4000000 in
set_option maxRecDepth 100000 in
theorem refmay_15 (user folder name other : ByteArray) (role version : Int) (A : Option Addr) (n c : Nat) (hu : user.size ≤ 140737488355328) (hf : folder.size ≤ 140737488355328) (hnm : name.size ≤ 140737488355328) (ho : other.size ≤ 140737488355328) (w : World) :
    Calls Tryd.prog 24 #[.agg #[.int .i64 15, .string user, .string folder, .string name, .string other, .int .i64 role, .int .i64 version, .slice A n c]] w (MayAns (mayR nameOk 15 user folder name other role version n) w) := by
  obtain ⟨M, hM⟩ : ∃ M, mayR nameOk 15 user folder name other role version n = M := ⟨_, rfl⟩
  rw [hM]
  unfold mayR at hM
  simp only [← eqC, ← emptyC] at hM
  have HM := Lib.hid hM
  clear hM
  obtain ⟨w0, hw0, cw0, fw0, Bw0, qw0⟩ := boxed w #[.int .i64 15, .string user, .string folder, .string name, .string other, .int .i64 role, .int .i64 version, .slice A n c] 46
  have s0 := cw0 0 _ rfl
  have s1 := cw0 1 _ rfl
  have s2 := cw0 2 _ rfl
  have s3 := cw0 3 _ rfl
  have s4 := cw0 4 _ rfl
  have s5 := cw0 5 _ rfl
  have s6 := cw0 6 _ rfl
  have s7 := cw0 7 _ rfl
  have HB := Lib.hid Bw0
  clear cw0 fw0 Bw0
  go_enter Tryd.func24, Tryd.ntmps24
  go_wp2_with (go_at_call 37; refine Calls.mono (refname_any _ (by assumption) _) ?_; rintro e w1 ⟨rfl, rfl⟩)
  all_goals
    go_ret
    refine ⟨congrArg (fun b => Ending.returned (.bool b)) ?_, HB.out⟩
    have hm := HM.out
    clear HM HB s0 s1 s2 s3 s4 s5 s6 s7
    subst hm
    simp_all
set_option maxHeartbeats 4000000 in
set_option maxRecDepth 100000 in
theorem refmay_16 (user folder name other : ByteArray) (role version : Int) (A : Option Addr) (n c : Nat) (hu : user.size ≤ 140737488355328) (hf : folder.size ≤ 140737488355328) (hnm : name.size ≤ 140737488355328) (ho : other.size ≤ 140737488355328) (w : World) :
    Calls Tryd.prog 24 #[.agg #[.int .i64 16, .string user, .string folder, .string name, .string other, .int .i64 role, .int .i64 version, .slice A n c]] w (MayAns (mayR nameOk 16 user folder name other role version n) w) := by
  obtain ⟨M, hM⟩ : ∃ M, mayR nameOk 16 user folder name other role version n = M := ⟨_, rfl⟩
  rw [hM]
  unfold mayR at hM
  simp only [← eqC, ← emptyC] at hM
  have HM := Lib.hid hM
  clear hM
  obtain ⟨w0, hw0, cw0, fw0, Bw0, qw0⟩ := boxed w #[.int .i64 16, .string user, .string folder, .string name, .string other, .int .i64 role, .int .i64 version, .slice A n c] 46
  have s0 := cw0 0 _ rfl
  have s1 := cw0 1 _ rfl
  have s2 := cw0 2 _ rfl
  have s3 := cw0 3 _ rfl
  have s4 := cw0 4 _ rfl
  have s5 := cw0 5 _ rfl
  have s6 := cw0 6 _ rfl
  have s7 := cw0 7 _ rfl
  have HB := Lib.hid Bw0
  clear cw0 fw0 Bw0
  go_enter Tryd.func24, Tryd.ntmps24
  go_wp2_with (go_at_call 37; refine Calls.mono (refname_any _ (by assumption) _) ?_; rintro e w1 ⟨rfl, rfl⟩)
  all_goals
    go_ret
    refine ⟨congrArg (fun b => Ending.returned (.bool b)) ?_, HB.out⟩
    have hm := HM.out
    clear HM HB s0 s1 s2 s3 s4 s5 s6 s7
    subst hm
    simp_all
set_option maxHeartbeats 1000000 in
set_option maxRecDepth 100000 in
theorem refmay_lo (kind : Int) (hk : kind < 1) (user folder name other : ByteArray) (role version : Int) (A : Option Addr) (n c : Nat) (hu : user.size ≤ 140737488355328) (hf : folder.size ≤ 140737488355328) (hnm : name.size ≤ 140737488355328) (ho : other.size ≤ 140737488355328) (w : World) :
    Calls Tryd.prog 24 #[.agg #[.int .i64 kind, .string user, .string folder, .string name, .string other, .int .i64 role, .int .i64 version, .slice A n c]] w (MayAns false w) := by
  obtain ⟨w0, hw0, cw0, fw0, Bw0, qw0⟩ := boxed w #[.int .i64 kind, .string user, .string folder, .string name, .string other, .int .i64 role, .int .i64 version, .slice A n c] 46
  have s0 := cw0 0 _ rfl
  have s1 := cw0 1 _ rfl
  have HB := Lib.hid Bw0
  have HU := Lib.hid hu
  have d1 : decide (kind < 1) = true := decide_eq_true hk
  clear cw0 fw0 Bw0 hk hu hf hnm ho
  go_enter Tryd.func24, Tryd.ntmps24
  go_wp2_with (go_at_call 37; refine Calls.mono (refname_any _ HU.out _) ?_; rintro e w1 ⟨rfl, rfl⟩)
  all_goals
    go_ret
    exact ⟨rfl, HB.out⟩
set_option maxHeartbeats 1000000 in
set_option maxRecDepth 100000 in
theorem refmay_hi (kind : Int) (hk : 16 < kind) (user folder name other : ByteArray) (role version : Int) (A : Option Addr) (n c : Nat) (hu : user.size ≤ 140737488355328) (hf : folder.size ≤ 140737488355328) (hnm : name.size ≤ 140737488355328) (ho : other.size ≤ 140737488355328) (w : World) :
    Calls Tryd.prog 24 #[.agg #[.int .i64 kind, .string user, .string folder, .string name, .string other, .int .i64 role, .int .i64 version, .slice A n c]] w (MayAns false w) := by
  obtain ⟨w0, hw0, cw0, fw0, Bw0, qw0⟩ := boxed w #[.int .i64 kind, .string user, .string folder, .string name, .string other, .int .i64 role, .int .i64 version, .slice A n c] 46
  have s0 := cw0 0 _ rfl
  have s1 := cw0 1 _ rfl
  have HB := Lib.hid Bw0
  have HU := Lib.hid hu
  have d1 : decide (kind < 1) = false := decide_eq_false (by omega)
  have d2 : decide (16 < kind) = true := decide_eq_true hk
  clear cw0 fw0 Bw0 hk hu hf hnm ho
  go_enter Tryd.func24, Tryd.ntmps24
  go_wp2_with (go_at_call 37; refine Calls.mono (refname_any _ HU.out _) ?_; rintro e w1 ⟨rfl, rfl⟩)
  all_goals
    go_ret
    exact ⟨rfl, HB.out⟩
theorem refmay_any (kind : Int) (user folder name other : ByteArray) (role version : Int) (A : Option Addr) (n c : Nat) (hu : user.size ≤ 140737488355328) (hf : folder.size ≤ 140737488355328) (hnm : name.size ≤ 140737488355328) (ho : other.size ≤ 140737488355328) (w : World) :
    Calls Tryd.prog 24 #[.agg #[.int .i64 kind, .string user, .string folder, .string name, .string other, .int .i64 role, .int .i64 version, .slice A n c]] w (MayAns (mayP nameOk kind user folder name other role version n) w) := by
  rw [may_eq nameOk (by rfl) kind user folder name other role version n (by omega)]
  by_cases h1 : kind < 1
  · rw [show mayR nameOk kind user folder name other role version n = false by unfold mayR; simp [show ¬ 1 ≤ kind by omega]]
    exact refmay_lo kind h1 user folder name other role version A n c hu hf hnm ho w
  by_cases h2 : 16 < kind
  · rw [show mayR nameOk kind user folder name other role version n = false by unfold mayR; simp [show ¬ kind ≤ 16 by omega]]
    exact refmay_hi kind h2 user folder name other role version A n c hu hf hnm ho w
  have hk : kind = 1 ∨ kind = 2 ∨ kind = 3 ∨ kind = 4 ∨ kind = 5 ∨ kind = 6 ∨ kind = 7 ∨ kind = 8 ∨ kind = 9 ∨ kind = 10 ∨ kind = 11 ∨ kind = 12 ∨ kind = 13 ∨ kind = 14 ∨ kind = 15 ∨ kind = 16 := by omega
  rcases hk with rfl | rfl | rfl | rfl | rfl | rfl | rfl | rfl | rfl | rfl | rfl | rfl | rfl | rfl | rfl | rfl
  · exact refmay_1 user folder name other role version A n c hu hf hnm ho w
  · exact refmay_2 user folder name other role version A n c hu hf hnm ho w
  · exact refmay_3 user folder name other role version A n c hu hf hnm ho w
  · exact refmay_4 user folder name other role version A n c hu hf hnm ho w
  · exact refmay_5 user folder name other role version A n c hu hf hnm ho w
  · exact refmay_6 user folder name other role version A n c hu hf hnm ho w
  · exact refmay_7 user folder name other role version A n c hu hf hnm ho w
  · exact refmay_8 user folder name other role version A n c hu hf hnm ho w
  · exact refmay_9 user folder name other role version A n c hu hf hnm ho w
  · exact refmay_10 user folder name other role version A n c hu hf hnm ho w
  · exact refmay_11 user folder name other role version A n c hu hf hnm ho w
  · exact refmay_12 user folder name other role version A n c hu hf hnm ho w
  · exact refmay_13 user folder name other role version A n c hu hf hnm ho w
  · exact refmay_14 user folder name other role version A n c hu hf hnm ho w
  · exact refmay_15 user folder name other role version A n c hu hf hnm ho w
  · exact refmay_16 user folder name other role version A n c hu hf hnm ho w
end Go.Proofs.YtalhilelbebfbaaDoor
