/- Layer tree: folders as a function of their names: chains, heights, and what each operation makes of them. No program in sight, no condition. -/
import Derived.Handy
import Derived.Lib.Hide
namespace Go.Proofs.YtkapaafbnbnpjaaGreatDoor

abbrev Nm := ByteArray
abbrev Top : Nm := ⟨#[]⟩
/-- A folder's parent, and whether it is gone. -/
abbrev Fs := Nm → Option (Nm × Bool)
def liveB (F : Fs) (s : Nm) : Bool := match F s with | some (_, g) => !g | none => false
def parF (F : Fs) (s : Nm) : Nm := match F s with | some (p, _) => p | none => Top
def chN (F : Fs) : Nat → Nm → List Nm
  | 0, _ => []
  | k + 1, s => if liveB F s then s :: chN F k (parF F s) else []
def ch (F : Fs) (s : Nm) : List Nm := chN F 5 s
structure Inv (F : Fs) : Prop where
  no : liveB F Top = false
  up : ∀ s, liveB F s = true → parF F s = Top ∨ liveB F (parF F s) = true
  deep : ∀ s, (ch F s).length ≤ 4

theorem chN_stop (F : Fs) : ∀ (k : Nat) (s : Nm), (chN F k s).length < k → chN F (k + 1) s = chN F k s
  | 0, _, h => by simp at h
  | k + 1, s, h => by
    rw [chN] at h
    show (if liveB F s then s :: chN F (k + 1) (parF F s) else []) = if liveB F s then s :: chN F k (parF F s) else []
    split
    · rename_i hl
      rw [if_pos hl] at h
      rw [chN_stop F k (parF F s) (by simpa using h)]
    · rfl
theorem chN_mono (F : Fs) : ∀ (k : Nat) (s : Nm), (chN F k s).length ≤ (chN F (k + 1) s).length
  | 0, _ => by simp [chN]
  | k + 1, s => by
    rw [chN, chN]
    split
    · have := chN_mono F k (parF F s)
      simpa using this
    · exact Nat.le_refl _
theorem chN_live (F : Fs) : ∀ (k : Nat) (s x : Nm), x ∈ chN F k s → liveB F x = true
  | 0, _, _, h => by simp [chN] at h
  | k + 1, s, x, h => by
    rw [chN] at h
    split at h
    · rename_i hl
      rcases List.mem_cons.1 h with rfl | h
      · exact hl
      · exact chN_live F k _ x h
    · simp at h
section
variable {F : Fs}
theorem ch_eq (h : Inv F) (s : Nm) : ch F s = if liveB F s then s :: ch F (parF F s) else [] := by
  have h1 : chN F 6 s = chN F 5 s := chN_stop F 5 s (by have := h.deep s; unfold ch at this; omega)
  unfold ch
  rw [← h1, chN]
theorem ch_on (h : Inv F) {s : Nm} (hs : liveB F s = true) : ch F s = s :: ch F (parF F s) := by rw [ch_eq h, if_pos hs]
theorem ch_off (h : Inv F) {s : Nm} (hs : liveB F s = false) : ch F s = [] := by rw [ch_eq h, hs]; rfl
theorem ch_mem_live {s x : Nm} (hx : x ∈ ch F s) : liveB F x = true := chN_live F 5 s x hx
theorem ch_self (h : Inv F) {s : Nm} (hs : liveB F s = true) : s ∈ ch F s := by rw [ch_on h hs]; exact List.mem_cons_self ..
theorem live_of_ch (h : Inv F) {s x : Nm} (hx : x ∈ ch F s) : liveB F s = true := by
  cases hl : liveB F s with
  | true => rfl
  | false => rw [ch_off h hl] at hx; simp at hx
theorem ch_split (h : Inv F) {x : Nm} : ∀ (n : Nat) (s : Nm), (ch F s).length ≤ n → x ∈ ch F s → ∃ pre, ch F s = pre ++ ch F x
  | 0, s, hn, hx => by
    have : ch F s = [] := List.eq_nil_of_length_eq_zero (by omega)
    rw [this] at hx
    simp at hx
  | n + 1, s, hn, hx => by
    have hl := live_of_ch h hx
    rw [ch_on h hl] at hx hn ⊢
    rcases List.mem_cons.1 hx with rfl | hx
    · exact ⟨[], by rw [List.nil_append, ch_on h hl]⟩
    · obtain ⟨pre, hp⟩ := ch_split h n (parF F s) (by simpa using hn) hx
      exact ⟨s :: pre, by rw [hp]; rfl⟩
theorem ch_trans (h : Inv F) {s x y : Nm} (hx : x ∈ ch F s) (hy : y ∈ ch F x) : y ∈ ch F s := by
  obtain ⟨pre, hp⟩ := ch_split h _ s (Nat.le_refl _) hx
  rw [hp]
  exact List.mem_append_right _ hy
theorem ch_le (h : Inv F) {s x : Nm} (hx : x ∈ ch F s) : (ch F x).length ≤ (ch F s).length := by
  obtain ⟨pre, hp⟩ := ch_split h _ s (Nat.le_refl _) hx
  rw [hp, List.length_append]
  omega
theorem ch_len (h : Inv F) {s : Nm} (hs : liveB F s = true) : (ch F s).length = (ch F (parF F s)).length + 1 := by rw [ch_on h hs]; rfl
theorem ch_not (h : Inv F) {s : Nm} (hs : liveB F s = true) : s ∉ ch F (parF F s) := fun hm => by
  have h1 := ch_le h hm
  have h2 := ch_len h hs
  omega
/-- Between a folder and one above it there is a child of the latter. -/
theorem ch_child (h : Inv F) {s : Nm} : ∀ (n : Nat) (x : Nm), (ch F x).length ≤ n → s ∈ ch F x → x ≠ s → ∃ c, liveB F c = true ∧ parF F c = s ∧ c ∈ ch F x
  | 0, x, hn, hx, _ => by
    have : ch F x = [] := List.eq_nil_of_length_eq_zero (by omega)
    rw [this] at hx
    simp at hx
  | n + 1, x, hn, hx, hne => by
    have hl := live_of_ch h hx
    have hx' := hx
    rw [ch_on h hl] at hx'
    rcases List.mem_cons.1 hx' with e | hx'
    · exact absurd e.symm hne
    · by_cases hp : parF F x = s
      · exact ⟨x, hl, hp, ch_self h hl⟩
      · obtain ⟨c, c1, c2, c3⟩ := ch_child h n (parF F x) (by have := ch_len h hl; omega) hx' hp
        refine ⟨c, c1, c2, ?_⟩
        rw [ch_on h hl]
        exact List.mem_cons_of_mem _ c3

/-- How high a folder is. -/
def IsHigh (F : Fs) (s : Nm) (n : Nat) : Prop :=
  (liveB F s = false → n = 0) ∧ (liveB F s = true → (∀ x, s ∈ ch F x → (ch F x).length + 1 ≤ n + (ch F s).length) ∧ ∃ x, s ∈ ch F x ∧ (ch F x).length + 1 = n + (ch F s).length)
theorem IsHigh.one {s : Nm} {n m : Nat} (h : IsHigh F s n) (k : IsHigh F s m) : n = m := by
  cases hl : liveB F s with
  | false => rw [h.1 hl, k.1 hl]
  | true =>
    obtain ⟨a1, x, x1, x2⟩ := h.2 hl
    obtain ⟨b1, y, y1, y2⟩ := k.2 hl
    have := a1 y y1
    have := b1 x x1
    omega
theorem IsHigh.off {s : Nm} (h : liveB F s = false) : IsHigh F s 0 := ⟨fun _ => rfl, fun hl => by rw [h] at hl; cases hl⟩
/-- A folder is one higher than the highest of its children. -/
theorem IsHigh.up (h : Inv F) {s : Nm} (hs : liveB F s = true) {m : Nat} (h1 : ∀ c, liveB F c = true → parF F c = s → ∃ k, IsHigh F c k ∧ k ≤ m) (h2 : m = 0 ∨ ∃ c, liveB F c = true ∧ parF F c = s ∧ IsHigh F c m) : IsHigh F s (m + 1) := by
  refine ⟨fun hl => (by rw [hs] at hl; cases hl), fun _ => ⟨fun x hx => ?_, ?_⟩⟩
  · by_cases e : x = s
    · subst e; omega
    · obtain ⟨c, c1, c2, c3⟩ := ch_child h _ x (Nat.le_refl _) hx e
      obtain ⟨k, k1, k2⟩ := h1 c c1 c2
      have h3 := (k1.2 c1).1 x c3
      have h4 := ch_len h c1
      rw [c2] at h4
      omega
  · rcases h2 with rfl | ⟨c, c1, c2, c3⟩
    · exact ⟨s, ch_self h hs, by omega⟩
    · obtain ⟨_, x, x1, x2⟩ := c3.2 c1
      have h4 := ch_len h c1
      rw [c2] at h4
      refine ⟨x, ch_trans h x1 ?_, by omega⟩
      rw [ch_on h c1, c2]
      exact List.mem_cons_of_mem _ (ch_self h hs)
theorem IsHigh.ge (h : Inv F) {s : Nm} (hs : liveB F s = true) {n : Nat} (hn : IsHigh F s n) : 1 ≤ n ∧ n + (ch F s).length ≤ 5 := by
  obtain ⟨h1, x, x1, x2⟩ := hn.2 hs
  have := h1 s (ch_self h hs)
  have := h.deep x
  omega

def upd (F : Fs) (s : Nm) (v : Nm × Bool) : Fs := fun x => if x = s then some v else F x
theorem live_upd (s x : Nm) (v : Nm × Bool) : liveB (upd F s v) x = if x = s then !v.2 else liveB F x := by
  unfold liveB upd
  by_cases h : x = s <;> simp [h]
theorem par_upd (s x : Nm) (v : Nm × Bool) : parF (upd F s v) x = if x = s then v.1 else parF F x := by
  unfold parF upd
  by_cases h : x = s <;> simp [h]

/-- A folder more. -/
theorem chN_add (h : Inv F) {s p : Nm} (hs : liveB F s = false) (hne : s ≠ Top) : ∀ (k : Nat) (x : Nm), x ≠ s → chN (upd F s (p, false)) k x = chN F k x
  | 0, _, _ => rfl
  | k + 1, x, hx => by
    rw [chN, chN, live_upd, if_neg hx, par_upd, if_neg hx]
    split
    · rename_i hl
      rw [chN_add h hs hne k (parF F x) fun e => ?_]
      rcases h.up x hl with h1 | h1
      · exact hne (by rw [← e, h1])
      · rw [e, hs] at h1; cases h1
    · rfl
theorem Inv.add (h : Inv F) {s p : Nm} (hs : liveB F s = false) (hne : s ≠ Top) (hp : p = Top ∨ liveB F p = true) (hl : (ch F p).length ≤ 3) : Inv (upd F s (p, false)) := by
  have hps : p ≠ s := fun e => by
    rcases hp with h1 | h1
    · exact hne (by rw [← e, h1])
    · rw [e, hs] at h1; cases h1
  refine ⟨by rw [live_upd, if_neg (Ne.symm hne)]; exact h.no, fun x hx => ?_, fun x => ?_⟩
  · rw [live_upd] at hx
    rw [par_upd]
    by_cases e : x = s
    · rw [if_pos e]
      rcases hp with h1 | h1
      · exact .inl h1
      · right; rw [live_upd, if_neg hps]; exact h1
    · rw [if_neg e] at hx ⊢
      rcases h.up x hx with h1 | h1
      · exact .inl h1
      · right
        rw [live_upd, if_neg fun e2 => by rw [e2, hs] at h1; cases h1]
        exact h1
  · by_cases e : x = s
    · subst e
      unfold ch
      rw [chN, live_upd, if_pos rfl, par_upd, if_pos rfl]
      have h1 : (chN F 4 p).length ≤ (chN F 5 p).length := chN_mono F 4 p
      have h2 := chN_add h (p := p) hs hne 4 p hps
      unfold ch at hl
      dsimp only
      rw [h2]
      simp
      omega
    · unfold ch
      rw [chN_add h hs hne 5 x e]
      exact h.deep x
/-- A folder moved. -/
theorem chN_move (h : Inv F) {s p : Nm} (hs : liveB F s = true) : ∀ (k : Nat) (x : Nm), s ∉ ch F x → chN (upd F s (p, false)) k x = chN F k x
  | 0, _, _ => rfl
  | k + 1, x, hx => by
    have hne : x ≠ s := fun e => hx (by rw [e]; exact ch_self h hs)
    rw [chN, chN, live_upd, if_neg hne, par_upd, if_neg hne]
    split
    · rename_i hl
      rw [chN_move h hs k (parF F x) fun hm => hx (by rw [ch_on h hl]; exact List.mem_cons_of_mem _ hm)]
    · rfl
theorem chN_moved (h : Inv F) {s p : Nm} (hs : liveB F s = true) (hsp : s ∉ ch F p) : ∀ (n k : Nat) (x : Nm), (ch F x).length ≤ n → s ∈ ch F x → k ≤ 5 → (chN (upd F s (p, false)) k x).length + (ch F s).length ≤ (ch F x).length + 1 + (ch F p).length
  | 0, _, x, hn, hx, _ => by
    have : ch F x = [] := List.eq_nil_of_length_eq_zero (by omega)
    rw [this] at hx
    simp at hx
  | n + 1, 0, x, hn, hx, _ => by
    have := ch_le h hx
    simp [chN]
    omega
  | n + 1, k + 1, x, hn, hx, hk => by
    rw [chN, live_upd, par_upd]
    by_cases e : x = s
    · subst e
      rw [if_pos rfl, if_pos rfl]
      dsimp only
      rw [chN_move h hs k p hsp]
      have : (chN F k p).length ≤ (chN F 5 p).length := by
        have m1 : (chN F 0 p).length ≤ (chN F 1 p).length := chN_mono F 0 p
        have m2 : (chN F 1 p).length ≤ (chN F 2 p).length := chN_mono F 1 p
        have m3 : (chN F 2 p).length ≤ (chN F 3 p).length := chN_mono F 2 p
        have m4 : (chN F 3 p).length ≤ (chN F 4 p).length := chN_mono F 3 p
        have m5 : (chN F 4 p).length ≤ (chN F 5 p).length := chN_mono F 4 p
        rcases (show k = 0 ∨ k = 1 ∨ k = 2 ∨ k = 3 ∨ k = 4 by omega) with rfl | rfl | rfl | rfl | rfl <;> omega
      unfold ch
      simp
      omega
    · rw [if_neg e, if_neg e]
      have hl := live_of_ch h hx
      rw [if_pos hl]
      have hx' := hx
      rw [ch_on h hl] at hx'
      have hx2 : s ∈ ch F (parF F x) := (List.mem_cons.1 hx').resolve_left fun e2 => e e2.symm
      have := chN_moved h hs hsp n k (parF F x) (by have := ch_len h hl; omega) hx2 (by omega)
      have h4 := ch_len h hl
      simp only [List.length_cons]
      omega
theorem Inv.move (h : Inv F) {s p : Nm} (hs : liveB F s = true) (hp : p = Top ∨ liveB F p = true) (hsp : s ∉ ch F p) {n : Nat} (hn : IsHigh F s n) (hl : (ch F p).length + n ≤ 4) : Inv (upd F s (p, false)) := by
  have hst : s ≠ Top := fun e => by rw [e, h.no] at hs; cases hs
  have lv : ∀ x, liveB (upd F s (p, false)) x = liveB F x := fun x => by
    rw [live_upd]
    by_cases e : x = s
    · rw [if_pos e, e, hs]; rfl
    · rw [if_neg e]
  refine ⟨by rw [lv]; exact h.no, fun x hx => ?_, fun x => ?_⟩
  · rw [lv] at hx
    rw [par_upd, lv]
    by_cases e : x = s
    · rw [if_pos e]; exact hp
    · rw [if_neg e]; exact h.up x hx
  · by_cases e : s ∈ ch F x
    · have h1 := chN_moved h hs hsp _ 5 x (Nat.le_refl _) e (Nat.le_refl _)
      have h2 := (hn.2 hs).1 x e
      unfold ch at h1 h2 hl ⊢
      omega
    · unfold ch
      rw [chN_move h hs 5 x e]
      exact h.deep x
/-- A folder taken away. -/
theorem chN_gone (h : Inv F) {s q : Nm} (hc : ∀ x, liveB F x = true → parF F x ≠ s) : ∀ (k : Nat) (x : Nm), x ≠ s → chN (upd F s (q, true)) k x = chN F k x
  | 0, _, _ => rfl
  | k + 1, x, hx => by
    rw [chN, chN, live_upd, if_neg hx, par_upd, if_neg hx]
    split
    · rename_i hl
      rw [chN_gone h hc k (parF F x) (hc x hl)]
    · rfl
theorem Inv.gone (h : Inv F) {s q : Nm} (hs : liveB F s = true) (hc : ∀ x, liveB F x = true → parF F x ≠ s) : Inv (upd F s (q, true)) := by
  have hst : s ≠ Top := fun e => by rw [e, h.no] at hs; cases hs
  refine ⟨by rw [live_upd, if_neg (Ne.symm hst)]; exact h.no, fun x hx => ?_, fun x => ?_⟩
  · rw [live_upd] at hx
    by_cases e : x = s
    · rw [if_pos e] at hx; cases hx
    · rw [if_neg e] at hx
      rw [par_upd, if_neg e, live_upd, if_neg (hc x hx)]
      exact h.up x hx
  · by_cases e : x = s
    · subst e
      unfold ch
      rw [chN, live_upd, if_pos rfl]
      simp
    · unfold ch
      rw [chN_gone h hc 5 x e]
      exact h.deep x
theorem Inv.start : Inv (fun _ => none) := ⟨rfl, fun s hs => by simp [liveB] at hs, fun s => by simp [ch, chN, liveB]⟩
end
end Go.Proofs.YtkapaafbnbnpjaaGreatDoor
