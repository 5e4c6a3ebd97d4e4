/- Layer bound: whether a state fits; the chapter's example. -/
import Derived.Test.YtdddgmmbdofomaaBoundC
namespace Go.Proofs.Ytdddgmmbdofomaa
open Go.RowKit Go.Deep

def fitsOf (st : State) (q r : Int) : Int := if q < ((120 * smallOf st + 1020 * largeOf st : Nat) : Int) then 33 else if r < ((3 * smallOf st + 18 * largeOf st : Nat) : Int) then 32 else 0

theorem fits_any (st : State) (q r : Int) (h1 : smallOf st ≤ 1000000) (h2 : largeOf st ≤ 1000000) (cs : List Value) (w : World) (S : Nat → Prop) (h : rState S w cs st) :
    Calls Try.prog 9 #[.agg cs.toArray, .int .i64 q, .int .i64 r] w fun e w' => e = .returned (.int .i64 (fitsOf st q r)) ∧ Below w.heap.size w w' := by
  have hR := h
  obtain ⟨st_A1, st_c1, st_A2, st_c2, st_A3, st_c3, rfl, st_turn_ok, st_users_l, st_users_m, st_users_n, st_users_s, st_deposits_l, st_deposits_m, st_deposits_n, st_deposits_s, st_folders_l, st_folders_m, st_folders_n, st_folders_s⟩ := open_State h
  have H1 := Lib.hid h1
  have H2 := Lib.hid h2
  clear h1 h2
  by_cases c1 : q < ((120 * smallOf st + 1020 * largeOf st : Nat) : Int)
  · have F := Lib.hid (show fitsOf st q r = 33 from by simp only [fitsOf, if_pos c1])
    go_enter Try.func9, Try.ntmps9
    go_wp2_with fail
    refine Calls.mono (bytes_any st H1.out H2.out _ _ S (rState_keep hR (kept_of (by go_grown)))) ?_
    rintro e w1 ⟨rfl, hb1⟩
    obtain ⟨hc1, hf1⟩ := bcell hb1
    have B1 : Below w.heap.size w w1 := bel_call (by go_grown) hb1
    have z1 := B1.size
    have y1 := hb1.size
    try simp at y1
    try have q1w0 : w.heap.size < w1.heap.size := by omega
    try have q1w1 : w.heap.size + 1 < w1.heap.size := by omega
    try have q1w2 : w.heap.size + 1 + 1 < w1.heap.size := by omega
    try have q1w3 : w.heap.size + 1 + 1 + 1 < w1.heap.size := by omega
    try have q1w4 : w.heap.size + 1 + 1 + 1 + 1 < w1.heap.size := by omega
    try have q1w5 : w.heap.size + 1 + 1 + 1 + 1 + 1 < w1.heap.size := by omega
    go_wp2
    go_ret
    exact ⟨by rw [F.out]; rfl, B1⟩
  · by_cases c2 : r < ((3 * smallOf st + 18 * largeOf st : Nat) : Int)
    · have F := Lib.hid (show fitsOf st q r = 32 from by simp only [fitsOf, if_neg c1, if_pos c2])
      go_enter Try.func9, Try.ntmps9
      go_wp2_with fail
      refine Calls.mono (bytes_any st H1.out H2.out _ _ S (rState_keep hR (kept_of (by go_grown)))) ?_
      rintro e w1 ⟨rfl, hb1⟩
      obtain ⟨hc1, hf1⟩ := bcell hb1
      have B1 : Below w.heap.size w w1 := bel_call (by go_grown) hb1
      have z1 := B1.size
      have y1 := hb1.size
      try simp at y1
      try have q1w0 : w.heap.size < w1.heap.size := by omega
      try have q1w1 : w.heap.size + 1 < w1.heap.size := by omega
      try have q1w2 : w.heap.size + 1 + 1 < w1.heap.size := by omega
      try have q1w3 : w.heap.size + 1 + 1 + 1 < w1.heap.size := by omega
      try have q1w4 : w.heap.size + 1 + 1 + 1 + 1 < w1.heap.size := by omega
      try have q1w5 : w.heap.size + 1 + 1 + 1 + 1 + 1 < w1.heap.size := by omega
      go_wp2_with fail
      refine Calls.mono (homes_any st H1.out H2.out _ _ S (rState_keep hR (kept_of (by go_grown)))) ?_
      rintro e w2 ⟨rfl, hb2⟩
      obtain ⟨hc2, hf2⟩ := bcell hb2
      have B2 : Below w.heap.size w w2 := bel_call (by go_grown) hb2
      have z2 := B2.size
      have y2 := hb2.size
      try simp at y2
      try have q2w0 : w.heap.size < w2.heap.size := by omega
      try have q2w1 : w.heap.size + 1 < w2.heap.size := by omega
      try have q2w2 : w.heap.size + 1 + 1 < w2.heap.size := by omega
      try have q2w3 : w.heap.size + 1 + 1 + 1 < w2.heap.size := by omega
      try have q2w4 : w.heap.size + 1 + 1 + 1 + 1 < w2.heap.size := by omega
      try have q2w5 : w.heap.size + 1 + 1 + 1 + 1 + 1 < w2.heap.size := by omega
      go_wp2
      go_ret
      exact ⟨by rw [F.out]; rfl, B2⟩
    · have F := Lib.hid (show fitsOf st q r = 0 from by simp only [fitsOf, if_neg c1, if_neg c2])
      go_enter Try.func9, Try.ntmps9
      go_wp2_with fail
      refine Calls.mono (bytes_any st H1.out H2.out _ _ S (rState_keep hR (kept_of (by go_grown)))) ?_
      rintro e w1 ⟨rfl, hb1⟩
      obtain ⟨hc1, hf1⟩ := bcell hb1
      have B1 : Below w.heap.size w w1 := bel_call (by go_grown) hb1
      have z1 := B1.size
      have y1 := hb1.size
      try simp at y1
      try have q1w0 : w.heap.size < w1.heap.size := by omega
      try have q1w1 : w.heap.size + 1 < w1.heap.size := by omega
      try have q1w2 : w.heap.size + 1 + 1 < w1.heap.size := by omega
      try have q1w3 : w.heap.size + 1 + 1 + 1 < w1.heap.size := by omega
      try have q1w4 : w.heap.size + 1 + 1 + 1 + 1 < w1.heap.size := by omega
      try have q1w5 : w.heap.size + 1 + 1 + 1 + 1 + 1 < w1.heap.size := by omega
      go_wp2_with fail
      refine Calls.mono (homes_any st H1.out H2.out _ _ S (rState_keep hR (kept_of (by go_grown)))) ?_
      rintro e w2 ⟨rfl, hb2⟩
      obtain ⟨hc2, hf2⟩ := bcell hb2
      have B2 : Below w.heap.size w w2 := bel_call (by go_grown) hb2
      have z2 := B2.size
      have y2 := hb2.size
      try simp at y2
      try have q2w0 : w.heap.size < w2.heap.size := by omega
      try have q2w1 : w.heap.size + 1 < w2.heap.size := by omega
      try have q2w2 : w.heap.size + 1 + 1 < w2.heap.size := by omega
      try have q2w3 : w.heap.size + 1 + 1 + 1 < w2.heap.size := by omega
      try have q2w4 : w.heap.size + 1 + 1 + 1 + 1 < w2.heap.size := by omega
      try have q2w5 : w.heap.size + 1 + 1 + 1 + 1 + 1 < w2.heap.size := by omega
      go_wp2
      go_ret
      exact ⟨by rw [F.out]; rfl, B2⟩

def st0 : State := ⟨0, [⟨⟨#[97]⟩, false⟩], [], []⟩

theorem st0_reads (W : World) (b : Nat) (h0 : W.cell? ⟨b, 0, none⟩ = some (.string ⟨#[97]⟩)) (h1 : W.cell? ⟨b, 1, none⟩ = some (.bool false)) :
    rState (fun _ => True) W [.int .i64 0, .slice (some ⟨b, 0, none⟩) 1 1, .slice none 0 0, .slice none 0 0] st0 := by
  refine ⟨_, _, _, rfl, ⟨by decide, by decide⟩, ?_, Sl_nil _ _ _ _, Sl_nil _ _ _ _⟩
  refine Sl_one [.string ⟨#[97]⟩, .bool false] (by decide) (by decide) trivial rfl (fun j y hj => ?_) ⟨rfl, by decide⟩
  rcases j with _ | _ | j
  · simp at hj; subst hj; exact h0
  · simp at hj; subst hj; exact h1
  · simp at hj

theorem awake_any (w : World) : Calls Try.prog 6 #[] w fun e w' => e = .returned (.bool true) ∧ Below w.heap.size w w' := by
  have a1 : smallOf st0 = 2 := by decide
  have a2 : largeOf st0 = 0 := by decide
  have b1 : smallOf st0 ≤ 1000000 := by omega
  have b2 : largeOf st0 ≤ 1000000 := by omega
  have H1 := Lib.hid b1
  have H2 := Lib.hid b2
  have K1 : 120 * smallOf st0 + 1020 * largeOf st0 = 240 := by rw [a1, a2]
  have K2 : 3 * smallOf st0 + 18 * largeOf st0 = 6 := by rw [a1, a2]
  have F1 : fitsOf st0 239 6 = 33 := by unfold fitsOf; rw [K1, K2]; decide
  have F2 : fitsOf st0 240 5 = 32 := by unfold fitsOf; rw [K1, K2]; decide
  have K1' := Lib.hid K1
  have K2' := Lib.hid K2
  have F1' := Lib.hid F1
  have F2' := Lib.hid F2
  clear a1 a2 b1 b2 K1 K2 F1 F2
  go_enter Try.func6, Try.ntmps6
  go_wp2_with fail
  refine Calls.mono (bytes_any st0 H1.out H2.out _ _ (fun _ => True) (st0_reads _ w.heap.size (by simp) (by simp))) ?_
  rintro e w1 ⟨rfl, hb1⟩
  obtain ⟨hc1, hf1⟩ := bcell hb1
  have B1 : Below w.heap.size w w1 := bel_call (by go_grown) hb1
  have z1 := B1.size
  have y1 := hb1.size
  try simp at y1
  try have q1w0 : w.heap.size < w1.heap.size := by omega
  try have q1w1 : w.heap.size + 1 < w1.heap.size := by omega
  try have q1w2 : w.heap.size + 1 + 1 < w1.heap.size := by omega
  try have q1w3 : w.heap.size + 1 + 1 + 1 < w1.heap.size := by omega
  try have q1w4 : w.heap.size + 1 + 1 + 1 + 1 < w1.heap.size := by omega
  try have q1w5 : w.heap.size + 1 + 1 + 1 + 1 + 1 < w1.heap.size := by omega
  rw [K1'.out]
  go_wp2_with fail
  refine Calls.mono (homes_any st0 H1.out H2.out _ _ (fun _ => True) (st0_reads _ w.heap.size (by go_simp) (by go_cell))) ?_
  rintro e w2 ⟨rfl, hb2⟩
  obtain ⟨hc2, hf2⟩ := bcell hb2
  have B2 : Below w.heap.size w w2 := bel_call (by go_grown) hb2
  have z2 := B2.size
  have y2 := hb2.size
  try simp at y2
  try have q2w0 : w.heap.size < w2.heap.size := by omega
  try have q2w1 : w.heap.size + 1 < w2.heap.size := by omega
  try have q2w2 : w.heap.size + 1 + 1 < w2.heap.size := by omega
  try have q2w3 : w.heap.size + 1 + 1 + 1 < w2.heap.size := by omega
  try have q2w4 : w.heap.size + 1 + 1 + 1 + 1 < w2.heap.size := by omega
  try have q2w5 : w.heap.size + 1 + 1 + 1 + 1 + 1 < w2.heap.size := by omega
  rw [K2'.out]
  go_wp2_with fail
  refine Calls.mono (fits_any st0 _ _ H1.out H2.out _ _ (fun _ => True) (st0_reads _ w.heap.size (by go_simp) (by go_simp))) ?_
  rintro e w3 ⟨rfl, hb3⟩
  obtain ⟨hc3, hf3⟩ := bcell hb3
  have B3 : Below w.heap.size w w3 := bel_call (by go_grown) hb3
  have z3 := B3.size
  have y3 := hb3.size
  try simp at y3
  try have q3w0 : w.heap.size < w3.heap.size := by omega
  try have q3w1 : w.heap.size + 1 < w3.heap.size := by omega
  try have q3w2 : w.heap.size + 1 + 1 < w3.heap.size := by omega
  try have q3w3 : w.heap.size + 1 + 1 + 1 < w3.heap.size := by omega
  try have q3w4 : w.heap.size + 1 + 1 + 1 + 1 < w3.heap.size := by omega
  try have q3w5 : w.heap.size + 1 + 1 + 1 + 1 + 1 < w3.heap.size := by omega
  rw [F1'.out]
  go_wp2_with fail
  refine Calls.mono (fits_any st0 _ _ H1.out H2.out _ _ (fun _ => True) (st0_reads _ w.heap.size (by go_simp) (by go_simp))) ?_
  rintro e w4 ⟨rfl, hb4⟩
  obtain ⟨hc4, hf4⟩ := bcell hb4
  have B4 : Below w.heap.size w w4 := bel_call (by go_grown) hb4
  have z4 := B4.size
  have y4 := hb4.size
  try simp at y4
  try have q4w0 : w.heap.size < w4.heap.size := by omega
  try have q4w1 : w.heap.size + 1 < w4.heap.size := by omega
  try have q4w2 : w.heap.size + 1 + 1 < w4.heap.size := by omega
  try have q4w3 : w.heap.size + 1 + 1 + 1 < w4.heap.size := by omega
  try have q4w4 : w.heap.size + 1 + 1 + 1 + 1 < w4.heap.size := by omega
  try have q4w5 : w.heap.size + 1 + 1 + 1 + 1 + 1 < w4.heap.size := by omega
  rw [F2'.out]
  go_wp2
  go_ret
  exact ⟨rfl, B4⟩
end Go.Proofs.Ytdddgmmbdofomaa
