/- Layer bound: how many blobs, bytes and homes; what blobs weigh. Conditions: the counts are at most a million. -/
import Derived.Test.YtdddgmmbdofomaaRefB
namespace Go.Proofs.Ytdddgmmbdofomaa
open Go.RowKit Go.Deep

theorem count_any (st : State) (h1 : smallOf st ≤ 1000000) (h2 : largeOf st ≤ 1000000) (cs : List Value) (w : World) (S : Nat → Prop) (h : rState S w cs st) :
    Calls Try.prog 12 #[.agg cs.toArray] w fun e w' => e = .returned (.tuple #[.int .i64 ((smallOf st : Nat) : Int), .int .i64 ((largeOf st : Nat) : Int)]) ∧ Below w.heap.size w w' := by
  have hR := h
  obtain ⟨st_A1, st_c1, st_A2, st_c2, st_A3, st_c3, rfl, st_turn_ok, st_users_l, st_users_m, st_users_n, st_users_s, st_deposits_l, st_deposits_m, st_deposits_n, st_deposits_s, st_folders_l, st_folders_m, st_folders_n, st_folders_s⟩ := open_State h
  have g1 := Lib.hid (good1 st.folders (by unfold smallOf at h1; omega))
  have g2 := Lib.hid (good2 st.folders h2)
  have h1' : min st.folders.length 1 + 2 * st.users.length + st.deposits.length + st.folders.length + sumOf small1 st.folders ≤ 1000000 := h1
  have e1 : smallOf st = min st.folders.length 1 + 2 * st.users.length + st.deposits.length + st.folders.length + sumOf small1 st.folders := rfl
  have E1 := Lib.hid e1
  clear e1
  by_cases hm : st.folders.length ≤ 1
  all_goals
    go_enter Try.func12, Try.ntmps12
    go_wp2_with fail
    refine Calls.mono (sum_any _ (by decide) small1 st g1.out (by omega) _ _ S (rState_keep hR (kept_of (by go_grown)))) ?_
    rintro e w1 ⟨rfl, hb1⟩
    obtain ⟨hc1, hf1⟩ := bcell hb1
    have B1 : Below w.heap.size w w1 := bel_call (by go_grown) hb1
    have z1 := B1.size
    have y1 := hb1.size
    try simp at y1
    try have q1w0 : w.heap.size < w1.heap.size := by omega
    try have q1w1 : w.heap.size + 1 < w1.heap.size := by omega
    try have q1w2 : w.heap.size + 1 + 1 < w1.heap.size := by omega
    try have q1w3 : w.heap.size + 1 + 1 + 1 < w1.heap.size := by omega
    try have q1w4 : w.heap.size + 1 + 1 + 1 + 1 < w1.heap.size := by omega
    try have q1w5 : w.heap.size + 1 + 1 + 1 + 1 + 1 < w1.heap.size := by omega
    go_wp2_with fail
    refine Calls.mono (sum_any _ (by decide) large1 st g2.out h2 _ _ S (rState_keep hR (kept_of (by go_grown)))) ?_
    rintro e w2 ⟨rfl, hb2⟩
    obtain ⟨hc2, hf2⟩ := bcell hb2
    have B2 : Below w.heap.size w w2 := bel_call (by go_grown) hb2
    have z2 := B2.size
    have y2 := hb2.size
    try simp at y2
    try have q2w0 : w.heap.size < w2.heap.size := by omega
    try have q2w1 : w.heap.size + 1 < w2.heap.size := by omega
    try have q2w2 : w.heap.size + 1 + 1 < w2.heap.size := by omega
    try have q2w3 : w.heap.size + 1 + 1 + 1 < w2.heap.size := by omega
    try have q2w4 : w.heap.size + 1 + 1 + 1 + 1 < w2.heap.size := by omega
    try have q2w5 : w.heap.size + 1 + 1 + 1 + 1 + 1 < w2.heap.size := by omega
    go_wp2
    go_ret2
    refine ⟨?_, B2⟩
    rw [E1.out]
    simp [largeOf]
    omega

theorem may_any (n : Int) (w : World) (h : 0 ≤ n ∧ n ≤ 1024) : Calls Try.prog 28 #[.int .i64 n] w fun e w' => e = .returned (.bool true) ∧ w = w' := by
  go_enter Try.func28, Try.ntmps28
  go_wp2
  go_ret
  exact ⟨by simp <;> omega, rfl⟩
theorem blob_any (n : Int) (w : World) (h : 0 ≤ n ∧ n ≤ 1024) : Calls Try.prog 22 #[.int .i64 n] w fun e w' => e = .returned (.int .i64 ((n + 59) / 60)) ∧ w = w' := by
  go_enter Try.func22, Try.ntmps22
  go_wp2_with fail
  refine (may_any n _ h).mono ?_
  rintro e w' ⟨rfl, rfl⟩
  go_wp2
  go_ret
  exact ⟨by simp <;> omega, rfl⟩
theorem takes_any (n : Int) (w : World) (h : 0 ≤ n ∧ n ≤ 1024) : Calls Try.prog 21 #[.int .i64 n] w fun e w' => e = .returned (.int .i64 (1 + (n + 59) / 60)) ∧ w = w' := by
  go_enter Try.func21, Try.ntmps21
  go_wp2_with fail
  refine (blob_any n _ h).mono ?_
  rintro e w' ⟨rfl, rfl⟩
  go_wp2
  go_ret
  exact ⟨by simp, rfl⟩

theorem bytes_any (st : State) (h1 : smallOf st ≤ 1000000) (h2 : largeOf st ≤ 1000000) (cs : List Value) (w : World) (S : Nat → Prop) (h : rState S w cs st) :
    Calls Try.prog 15 #[.agg cs.toArray] w fun e w' => e = .returned (.int .i64 ((120 * smallOf st + 1020 * largeOf st : Nat) : Int)) ∧ Below w.heap.size w w' := by
  have hR := h
  obtain ⟨st_A1, st_c1, st_A2, st_c2, st_A3, st_c3, rfl, st_turn_ok, st_users_l, st_users_m, st_users_n, st_users_s, st_deposits_l, st_deposits_m, st_deposits_n, st_deposits_s, st_folders_l, st_folders_m, st_folders_n, st_folders_s⟩ := open_State h
  go_enter Try.func15, Try.ntmps15
  go_wp2_with fail
  refine Calls.mono (count_any st h1 h2 _ _ S (rState_keep hR (kept_of (by go_grown)))) ?_
  rintro e w1 ⟨rfl, hb1⟩
  obtain ⟨hc1, hf1⟩ := bcell hb1
  have B1 : Below w.heap.size w w1 := bel_call (by go_grown) hb1
  have z1 := B1.size
  have y1 := hb1.size
  try simp at y1
  try have q1w0 : w.heap.size < w1.heap.size := by omega
  try have q1w1 : w.heap.size + 1 < w1.heap.size := by omega
  try have q1w2 : w.heap.size + 1 + 1 < w1.heap.size := by omega
  try have q1w3 : w.heap.size + 1 + 1 + 1 < w1.heap.size := by omega
  try have q1w4 : w.heap.size + 1 + 1 + 1 + 1 < w1.heap.size := by omega
  try have q1w5 : w.heap.size + 1 + 1 + 1 + 1 + 1 < w1.heap.size := by omega
  go_wp2
  go_ret
  exact ⟨by simp, B1⟩
theorem homes_any (st : State) (h1 : smallOf st ≤ 1000000) (h2 : largeOf st ≤ 1000000) (cs : List Value) (w : World) (S : Nat → Prop) (h : rState S w cs st) :
    Calls Try.prog 16 #[.agg cs.toArray] w fun e w' => e = .returned (.int .i64 ((3 * smallOf st + 18 * largeOf st : Nat) : Int)) ∧ Below w.heap.size w w' := by
  have hR := h
  obtain ⟨st_A1, st_c1, st_A2, st_c2, st_A3, st_c3, rfl, st_turn_ok, st_users_l, st_users_m, st_users_n, st_users_s, st_deposits_l, st_deposits_m, st_deposits_n, st_deposits_s, st_folders_l, st_folders_m, st_folders_n, st_folders_s⟩ := open_State h
  go_enter Try.func16, Try.ntmps16
  go_wp2_with fail
  refine Calls.mono (count_any st h1 h2 _ _ S (rState_keep hR (kept_of (by go_grown)))) ?_
  rintro e w1 ⟨rfl, hb1⟩
  obtain ⟨hc1, hf1⟩ := bcell hb1
  have B1 : Below w.heap.size w w1 := bel_call (by go_grown) hb1
  have z1 := B1.size
  have y1 := hb1.size
  try simp at y1
  try have q1w0 : w.heap.size < w1.heap.size := by omega
  try have q1w1 : w.heap.size + 1 < w1.heap.size := by omega
  try have q1w2 : w.heap.size + 1 + 1 < w1.heap.size := by omega
  try have q1w3 : w.heap.size + 1 + 1 + 1 < w1.heap.size := by omega
  try have q1w4 : w.heap.size + 1 + 1 + 1 + 1 < w1.heap.size := by omega
  try have q1w5 : w.heap.size + 1 + 1 + 1 + 1 + 1 < w1.heap.size := by omega
  go_wp2_with fail
  refine (takes_any 120 _ (by omega)).mono ?_
  rintro e w' ⟨rfl, rfl⟩
  go_wp2_with fail
  refine (takes_any 1020 _ (by omega)).mono ?_
  rintro e w' ⟨rfl, rfl⟩
  go_wp2
  go_ret
  exact ⟨by simp, B1⟩
def weightOf (a b : Int) : Int := if a < 0 ∨ b < 0 ∨ 1048576 < a ∨ 1048576 < b then 0 else 6 * a + 21 * b
theorem weight_any (a b : Int) (w : World) : Calls Try.prog 11 #[.int .i64 a, .int .i64 b] w fun e w' => e = .returned (.int .i64 (weightOf a b)) ∧ w = w' := by
  by_cases h1 : a < 0
  · go_enter Try.func11, Try.ntmps11
    go_wp2
    go_ret
    exact ⟨by simp [weightOf, h1], rfl⟩
  by_cases h2 : b < 0
  · go_enter Try.func11, Try.ntmps11
    go_wp2
    go_ret
    exact ⟨by simp [weightOf, h2], rfl⟩
  by_cases h3 : 1048576 < a
  · go_enter Try.func11, Try.ntmps11
    go_wp2
    go_ret
    exact ⟨by simp [weightOf, h3], rfl⟩
  by_cases h4 : 1048576 < b
  · go_enter Try.func11, Try.ntmps11
    go_wp2
    go_ret
    exact ⟨by simp [weightOf, h4], rfl⟩
  · go_enter Try.func11, Try.ntmps11
    go_wp2_with fail
    refine (blob_any 120 _ (by omega)).mono ?_
    rintro e w' ⟨rfl, rfl⟩
    go_wp2_with fail
    refine (blob_any 1020 _ (by omega)).mono ?_
    rintro e w' ⟨rfl, rfl⟩
    go_wp2
    go_ret
    exact ⟨by simp [weightOf]; omega, rfl⟩
end Go.Proofs.Ytdddgmmbdofomaa
