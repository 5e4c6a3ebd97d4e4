/- Layer bound: whether a state keeps to the limits. No condition but that the folders are at most a million. -/
import Derived.Test.YtdddgmmbdofomaaBoundB
namespace Go.Proofs.Ytdddgmmbdofomaa
open Go.RowKit Go.Deep

def idxOf {α : Type} (p : α → Bool) : List α → Nat → Int
  | [], _ => -1
  | x :: l, k => if p x then k else idxOf p l (k + 1)
theorem idxOf_any {α : Type} (p : α → Bool) (l : List α) : decide (0 ≤ idxOf p l 0) = l.any p := by
  have h : ∀ (l : List α) (k : Nat), decide (0 ≤ idxOf p l k) = l.any p := by
    intro l
    induction l with
    | nil => intro k; rfl
    | cons x l ih =>
      intro k
      rw [idxOf, List.any_cons]
      cases hx : p x
      · simp only [Bool.false_or]; exact ih (k + 1)
      · simp
  exact h l 0

def GoodManifest (p : Manifest → Bool) (l : List Manifest) : Prop :=
  ∀ (x : Manifest) (cs : List Value) (w : World) (S : Nat → Prop), rManifest S w cs x → x ∈ l → Calls Try.prog 30 #[.agg cs.toArray] w fun e w' => e = .returned (.bool (p x)) ∧ Below w.heap.size w w'
theorem indexManifest_any (p : Manifest → Bool) (l : List Manifest) (hp : GoodManifest p l) (v : Value) (w : World) (S : Nat → Prop) (h : Sl 8 rManifest S w v l) :
    Calls Try.prog 35 #[v, .func (.func 30) #[] #[]] w fun e w' => e = .returned (.int .i64 (idxOf p l 0)) ∧ Below w.heap.size w w' := by
  have P : Hid (GoodManifest p l) := hp
  clear hp
  obtain ⟨A, c, rfl, hl, hc, hn, hs⟩ := h
  unfold maxLen at hc
  go_enter Try.func35, Try.ntmps35
  go_wp2
  go_loopw [8] (fun i wr => ∃ (k : Nat), k ≤ l.length ∧ i = .int .i64 k ∧ idxOf p (l.drop k) k = idxOf p l 0 ∧ Below w.heap.size w wr) (fun i _ => l.length - (intOf i).toNat)
  case atStart => exact ⟨0, by omega, by go_num, by simp, by go_grown⟩
  case round =>
    obtain ⟨k, hk, rfl, E, hbel⟩ := hrel
    have hz := hbel.size
    by_cases hlt : k < l.length
    · obtain ⟨x, x_b, x_o, x_A2, x_c2, x_A4, x_c4, x_k, x_d, x_m, rfl, x_l, x_S, x_0, x_1, x_2, x_3, x_4, x_5, x_6, x_7, x_R, x_folder_le, x_seq_ok, x_prev_l, x_prev_m, x_prev_n, x_prev_s, x_parent_le, x_members_l, x_members_m, x_members_n, x_members_s, x_cut_ok, x_who_le⟩ := get_Manifest hs hlt (kept_of hbel)
      rw [x_d] at E
      clear x_k x_d
      go_wp2_with fail
      refine Calls.mono (P.out x _ _ S x_R x_m) ?_
      rintro e w1 ⟨rfl, hb1⟩
      cases hpx : p x
      · have EH := Lib.hid (show idxOf p (l.drop (k + 1)) (k + 1) = idxOf p l 0 by rw [← E, idxOf, hpx]; rfl)
        clear E
        go_wp2
        go_roundw
        case rel => exact ⟨k + 1, by omega, by go_num, EH.out, bel_call hbel hb1⟩
        case measure => simp [intOf]; omega
      · have EH := Lib.hid (show (k : Int) = idxOf p l 0 by rw [← E, idxOf, hpx]; rfl)
        clear E
        go_wp2
        go_ret
        exact ⟨by rw [← EH.out]; rfl, bel_call hbel hb1⟩
    · obtain rfl : k = l.length := by omega
      rw [List.drop_length] at E
      have EH := Lib.hid E
      clear E
      go_wp2
      go_ret
      exact ⟨by rw [← EH.out]; rfl, hbel⟩
theorem containsManifest_any (p : Manifest → Bool) (l : List Manifest) (hp : GoodManifest p l) (v : Value) (w : World) (S : Nat → Prop) (h : Sl 8 rManifest S w v l) :
    Calls Try.prog 29 #[v, .func (.func 30) #[] #[]] w fun e w' => e = .returned (.bool (l.any p)) ∧ Below w.heap.size w w' := by
  have P : Hid (GoodManifest p l) := hp
  clear hp
  have F := Lib.hid (idxOf_any p l)
  go_enter Try.func29, Try.ntmps29
  go_wp2_with fail
  refine Calls.mono (indexManifest_any p l P.out v _ S h) ?_
  rintro e w1 ⟨rfl, hb1⟩
  go_wp2
  go_ret
  exact ⟨ret_bool F.out, hb1⟩

def GoodEpoch (p : Epoch → Bool) (l : List Epoch) : Prop :=
  ∀ (x : Epoch) (cs : List Value) (w : World) (S : Nat → Prop), rEpoch S w cs x → x ∈ l → Calls Try.prog 32 #[.agg cs.toArray] w fun e w' => e = .returned (.bool (p x)) ∧ Below w.heap.size w w'
theorem indexEpoch_any (p : Epoch → Bool) (l : List Epoch) (hp : GoodEpoch p l) (v : Value) (w : World) (S : Nat → Prop) (h : Sl 5 rEpoch S w v l) :
    Calls Try.prog 36 #[v, .func (.func 32) #[] #[]] w fun e w' => e = .returned (.int .i64 (idxOf p l 0)) ∧ Below w.heap.size w w' := by
  have P : Hid (GoodEpoch p l) := hp
  clear hp
  obtain ⟨A, c, rfl, hl, hc, hn, hs⟩ := h
  unfold maxLen at hc
  go_enter Try.func36, Try.ntmps36
  go_wp2
  go_loopw [8] (fun i wr => ∃ (k : Nat), k ≤ l.length ∧ i = .int .i64 k ∧ idxOf p (l.drop k) k = idxOf p l 0 ∧ Below w.heap.size w wr) (fun i _ => l.length - (intOf i).toNat)
  case atStart => exact ⟨0, by omega, by go_num, by simp, by go_grown⟩
  case round =>
    obtain ⟨k, hk, rfl, E, hbel⟩ := hrel
    have hz := hbel.size
    by_cases hlt : k < l.length
    · obtain ⟨x, x_b, x_o, x_A3, x_c3, x_k, x_d, x_m, rfl, x_l, x_S, x_0, x_1, x_2, x_3, x_4, x_R, x_place_ok, x_frm_ok, x_seq_ok, x_chain_l, x_chain_m, x_chain_n, x_chain_s, x_who_le⟩ := get_Epoch hs hlt (kept_of hbel)
      rw [x_d] at E
      clear x_k x_d
      go_wp2_with fail
      refine Calls.mono (P.out x _ _ S x_R x_m) ?_
      rintro e w1 ⟨rfl, hb1⟩
      cases hpx : p x
      · have EH := Lib.hid (show idxOf p (l.drop (k + 1)) (k + 1) = idxOf p l 0 by rw [← E, idxOf, hpx]; rfl)
        clear E
        go_wp2
        go_roundw
        case rel => exact ⟨k + 1, by omega, by go_num, EH.out, bel_call hbel hb1⟩
        case measure => simp [intOf]; omega
      · have EH := Lib.hid (show (k : Int) = idxOf p l 0 by rw [← E, idxOf, hpx]; rfl)
        clear E
        go_wp2
        go_ret
        exact ⟨by rw [← EH.out]; rfl, bel_call hbel hb1⟩
    · obtain rfl : k = l.length := by omega
      rw [List.drop_length] at E
      have EH := Lib.hid E
      clear E
      go_wp2
      go_ret
      exact ⟨by rw [← EH.out]; rfl, hbel⟩
theorem containsEpoch_any (p : Epoch → Bool) (l : List Epoch) (hp : GoodEpoch p l) (v : Value) (w : World) (S : Nat → Prop) (h : Sl 5 rEpoch S w v l) :
    Calls Try.prog 31 #[v, .func (.func 32) #[] #[]] w fun e w' => e = .returned (.bool (l.any p)) ∧ Below w.heap.size w w' := by
  have P : Hid (GoodEpoch p l) := hp
  clear hp
  have F := Lib.hid (idxOf_any p l)
  go_enter Try.func31, Try.ntmps31
  go_wp2_with fail
  refine Calls.mono (indexEpoch_any p l P.out v _ S h) ?_
  rintro e w1 ⟨rfl, hb1⟩
  go_wp2
  go_ret
  exact ⟨ret_bool F.out, hb1⟩

def GoodItem (p : Item → Bool) (l : List Item) : Prop :=
  ∀ (x : Item) (cs : List Value) (w : World) (S : Nat → Prop), rItem S w cs x → x ∈ l → Calls Try.prog 34 #[.agg cs.toArray] w fun e w' => e = .returned (.bool (p x)) ∧ Below w.heap.size w w'
theorem indexItem_any (p : Item → Bool) (l : List Item) (hp : GoodItem p l) (v : Value) (w : World) (S : Nat → Prop) (h : Sl 2 rItem S w v l) :
    Calls Try.prog 37 #[v, .func (.func 34) #[] #[]] w fun e w' => e = .returned (.int .i64 (idxOf p l 0)) ∧ Below w.heap.size w w' := by
  have P : Hid (GoodItem p l) := hp
  clear hp
  obtain ⟨A, c, rfl, hl, hc, hn, hs⟩ := h
  unfold maxLen at hc
  go_enter Try.func37, Try.ntmps37
  go_wp2
  go_loopw [8] (fun i wr => ∃ (k : Nat), k ≤ l.length ∧ i = .int .i64 k ∧ idxOf p (l.drop k) k = idxOf p l 0 ∧ Below w.heap.size w wr) (fun i _ => l.length - (intOf i).toNat)
  case atStart => exact ⟨0, by omega, by go_num, by simp, by go_grown⟩
  case round =>
    obtain ⟨k, hk, rfl, E, hbel⟩ := hrel
    have hz := hbel.size
    by_cases hlt : k < l.length
    · obtain ⟨x, x_b, x_o, x_A1, x_c1, x_k, x_d, x_m, rfl, x_l, x_S, x_0, x_1, x_R, x_name_le, x_versions_l, x_versions_m, x_versions_n, x_versions_s⟩ := get_Item hs hlt (kept_of hbel)
      rw [x_d] at E
      clear x_k x_d
      go_wp2_with fail
      refine Calls.mono (P.out x _ _ S x_R x_m) ?_
      rintro e w1 ⟨rfl, hb1⟩
      cases hpx : p x
      · have EH := Lib.hid (show idxOf p (l.drop (k + 1)) (k + 1) = idxOf p l 0 by rw [← E, idxOf, hpx]; rfl)
        clear E
        go_wp2
        go_roundw
        case rel => exact ⟨k + 1, by omega, by go_num, EH.out, bel_call hbel hb1⟩
        case measure => simp [intOf]; omega
      · have EH := Lib.hid (show (k : Int) = idxOf p l 0 by rw [← E, idxOf, hpx]; rfl)
        clear E
        go_wp2
        go_ret
        exact ⟨by rw [← EH.out]; rfl, bel_call hbel hb1⟩
    · obtain rfl : k = l.length := by omega
      rw [List.drop_length] at E
      have EH := Lib.hid E
      clear E
      go_wp2
      go_ret
      exact ⟨by rw [← EH.out]; rfl, hbel⟩
theorem containsItem_any (p : Item → Bool) (l : List Item) (hp : GoodItem p l) (v : Value) (w : World) (S : Nat → Prop) (h : Sl 2 rItem S w v l) :
    Calls Try.prog 33 #[v, .func (.func 34) #[] #[]] w fun e w' => e = .returned (.bool (l.any p)) ∧ Below w.heap.size w w' := by
  have P : Hid (GoodItem p l) := hp
  clear hp
  have F := Lib.hid (idxOf_any p l)
  go_enter Try.func33, Try.ntmps33
  go_wp2_with fail
  refine Calls.mono (indexItem_any p l P.out v _ S h) ?_
  rintro e w1 ⟨rfl, hb1⟩
  go_wp2
  go_ret
  exact ⟨ret_bool F.out, hb1⟩


def pMan (x : Manifest) : Bool := decide (8 < x.members.length)
def pEp (x : Epoch) : Bool := decide (x.place < 1) || decide (4 < x.place)
def pIt (x : Item) : Bool := decide (x.versions.length < 1) || decide (256 < x.versions.length)
theorem goodMan (l : List Manifest) : GoodManifest pMan l := by
  intro x cs w S h _
  obtain ⟨x_A2, x_c2, x_A4, x_c4, rfl, x_folder_le, x_seq_ok, x_prev_l, x_prev_m, x_prev_n, x_prev_s, x_parent_le, x_members_l, x_members_m, x_members_n, x_members_s, x_cut_ok, x_who_le⟩ := open_Manifest h
  go_enter Try.func30, Try.ntmps30
  go_wp2
  go_ret
  exact ⟨ret_bool (by unfold pMan; exact decide_eq_decide.2 (by omega)), by go_grown⟩
theorem goodEp (l : List Epoch) : GoodEpoch pEp l := by
  intro x cs w S h _
  obtain ⟨x_A3, x_c3, rfl, x_place_ok, x_frm_ok, x_seq_ok, x_chain_l, x_chain_m, x_chain_n, x_chain_s, x_who_le⟩ := open_Epoch h
  by_cases c : x.place < 1
  · have F := Lib.hid (show pEp x = true by simp [pEp, c])
    go_enter Try.func32, Try.ntmps32
    go_wp2
    go_ret
    exact ⟨ret_bool (by rw [F.out]), by go_grown⟩
  · have F := Lib.hid (show pEp x = decide (4 < x.place) by simp [pEp, c])
    go_enter Try.func32, Try.ntmps32
    go_wp2
    go_ret
    exact ⟨ret_bool (by rw [F.out]), by go_grown⟩
theorem goodIt (l : List Item) : GoodItem pIt l := by
  intro x cs w S h _
  obtain ⟨x_A1, x_c1, rfl, x_name_le, x_versions_l, x_versions_m, x_versions_n, x_versions_s⟩ := open_Item h
  by_cases c : x.versions.length < 1
  · have F := Lib.hid (show pIt x = true by simp [pIt, c])
    go_enter Try.func34, Try.ntmps34
    go_wp2
    go_ret
    exact ⟨ret_bool (by rw [F.out]), by go_grown⟩
  · have F := Lib.hid (show pIt x = decide (256 < x.versions.length) by simp [pIt, c])
    go_enter Try.func34, Try.ntmps34
    go_wp2
    go_ret
    exact ⟨ret_bool (by rw [F.out, Bool.eq_iff_iff]; simp; omega), by go_grown⟩

def withinF (f : Folder) : Bool := if f.manifests.length < 1 then false else if f.epochs.length < 1 then false else if 32 < f.items.length then false else
  if f.manifests.any pMan then false else if f.epochs.any pEp then false else !f.items.any pIt
theorem Sl_at {α : Type} {sz : Nat} {R : Rp α} {S : Nat → Prop} {w : World} {A : Option Addr} {c : Nat} {l : List α} (h1 : l.length ≤ c) (h2 : c ≤ 9223372036854775807) (h3 : l.length ≤ 140737488355328) (h : SlAt sz R S w A l) : Sl sz R S w (.slice A l.length c) l :=
  ⟨A, c, rfl, h1, by simpa [maxLen] using h2, h3, h⟩
theorem within_any (f : Folder) (cs : List Value) (w : World) (S : Nat → Prop) (h : rFolder S w cs f) :
    Calls Try.prog 27 #[.agg cs.toArray] w fun e w' => e = .returned (.bool (withinF f)) ∧ Below w.heap.size w w' := by
  obtain ⟨f_A2, f_c2, f_A3, f_c3, f_A4, f_c4, f_A5, f_c5, f_A6, f_c6, rfl, f_name_le, f_turn_ok, f_manifests_l, f_manifests_m, f_manifests_n, f_manifests_s, f_epochs_l, f_epochs_m, f_epochs_n, f_epochs_s, f_items_l, f_items_m, f_items_n, f_items_s, f_wraps_l, f_wraps_m, f_wraps_n, f_wraps_s, f_links_l, f_links_m, f_links_n, f_links_s⟩ := open_Folder h
  have T1 := Lib.hid (Sl_at f_manifests_l f_manifests_m f_manifests_n f_manifests_s)
  have T2 := Lib.hid (Sl_at f_epochs_l f_epochs_m f_epochs_n f_epochs_s)
  have T3 := Lib.hid (Sl_at f_items_l f_items_m f_items_n f_items_s)
  by_cases c1 : f.manifests.length < 1
  · have F := Lib.hid (show withinF f = false by unfold withinF; rw [if_pos c1])
    go_enter Try.func27, Try.ntmps27
    go_wp2
    go_ret
    exact ⟨ret_bool (by rw [F.out]), by go_grown⟩
  by_cases c2 : f.epochs.length < 1
  · have F := Lib.hid (show withinF f = false by unfold withinF; rw [if_neg c1, if_pos c2])
    go_enter Try.func27, Try.ntmps27
    go_wp2
    go_ret
    exact ⟨ret_bool (by rw [F.out]), by go_grown⟩
  by_cases c3 : 32 < f.items.length
  · have F := Lib.hid (show withinF f = false by unfold withinF; rw [if_neg c1, if_neg c2, if_pos c3])
    go_enter Try.func27, Try.ntmps27
    go_wp2
    go_ret
    exact ⟨ret_bool (by rw [F.out]), by go_grown⟩
  have F0 : withinF f = if f.manifests.any pMan then false else if f.epochs.any pEp then false else !f.items.any pIt := by unfold withinF; rw [if_neg c1, if_neg c2, if_neg c3]
  cases a1 : f.manifests.any pMan
  · cases a2 : f.epochs.any pEp
    · have F := Lib.hid (show withinF f = !f.items.any pIt by rw [F0, a1, a2]; rfl)
      have a1' := Lib.hid a1
      have a2' := Lib.hid a2
      clear a1 a2 F0
      go_enter Try.func27, Try.ntmps27
      go_wp2_with fail
      refine Calls.mono (containsManifest_any pMan _ (goodMan _) _ _ S (T1.out.keep rManifest_ok (by decide) (kept_of (by go_grown)))) ?_
      rintro e w1 ⟨rfl, hb1⟩
      obtain ⟨hc1, hf1⟩ := bcell hb1
      have B1 : Below w.heap.size w w1 := bel_call (by go_grown) hb1
      have z1 := B1.size
      have y1 := hb1.size
      try simp at y1
      try have q1w0 : w.heap.size < w1.heap.size := by omega
      try have q1w1 : w.heap.size + 1 < w1.heap.size := by omega
      try have q1w2 : w.heap.size + 1 + 1 < w1.heap.size := by omega
      try have q1w3 : w.heap.size + 1 + 1 + 1 < w1.heap.size := by omega
      try have q1w4 : w.heap.size + 1 + 1 + 1 + 1 < w1.heap.size := by omega
      try have q1w5 : w.heap.size + 1 + 1 + 1 + 1 + 1 < w1.heap.size := by omega
      rw [a1'.out]
      go_wp2_with fail
      refine Calls.mono (containsEpoch_any pEp _ (goodEp _) _ _ S (T2.out.keep rEpoch_ok (by decide) (kept_of (bel_call (by go_grown) hb1)))) ?_
      rintro e w2 ⟨rfl, hb2⟩
      obtain ⟨hc2, hf2⟩ := bcell hb2
      have B2 : Below w.heap.size w w2 := bel_call (by go_grown) hb2
      have z2 := B2.size
      have y2 := hb2.size
      try simp at y2
      try have q2w0 : w.heap.size < w2.heap.size := by omega
      try have q2w1 : w.heap.size + 1 < w2.heap.size := by omega
      try have q2w2 : w.heap.size + 1 + 1 < w2.heap.size := by omega
      try have q2w3 : w.heap.size + 1 + 1 + 1 < w2.heap.size := by omega
      try have q2w4 : w.heap.size + 1 + 1 + 1 + 1 < w2.heap.size := by omega
      try have q2w5 : w.heap.size + 1 + 1 + 1 + 1 + 1 < w2.heap.size := by omega
      rw [a2'.out]
      go_wp2_with fail
      refine Calls.mono (containsItem_any pIt _ (goodIt _) _ _ S (T3.out.keep rItem_ok (by decide) (kept_of B2))) ?_
      rintro e w3 ⟨rfl, hb3⟩
      obtain ⟨hc3, hf3⟩ := bcell hb3
      have B3 : Below w.heap.size w w3 := bel_call (by go_grown) hb3
      have z3 := B3.size
      have y3 := hb3.size
      try simp at y3
      try have q3w0 : w.heap.size < w3.heap.size := by omega
      try have q3w1 : w.heap.size + 1 < w3.heap.size := by omega
      try have q3w2 : w.heap.size + 1 + 1 < w3.heap.size := by omega
      try have q3w3 : w.heap.size + 1 + 1 + 1 < w3.heap.size := by omega
      try have q3w4 : w.heap.size + 1 + 1 + 1 + 1 < w3.heap.size := by omega
      try have q3w5 : w.heap.size + 1 + 1 + 1 + 1 + 1 < w3.heap.size := by omega
      go_wp2
      go_ret
      exact ⟨ret_bool (by rw [F.out]), B3⟩
    · have F := Lib.hid (show withinF f = false by rw [F0, a1, a2]; rfl)
      have a1' := Lib.hid a1
      have a2' := Lib.hid a2
      clear a1 a2 F0
      go_enter Try.func27, Try.ntmps27
      go_wp2_with fail
      refine Calls.mono (containsManifest_any pMan _ (goodMan _) _ _ S (T1.out.keep rManifest_ok (by decide) (kept_of (by go_grown)))) ?_
      rintro e w1 ⟨rfl, hb1⟩
      obtain ⟨hc1, hf1⟩ := bcell hb1
      have B1 : Below w.heap.size w w1 := bel_call (by go_grown) hb1
      have z1 := B1.size
      have y1 := hb1.size
      try simp at y1
      try have q1w0 : w.heap.size < w1.heap.size := by omega
      try have q1w1 : w.heap.size + 1 < w1.heap.size := by omega
      try have q1w2 : w.heap.size + 1 + 1 < w1.heap.size := by omega
      try have q1w3 : w.heap.size + 1 + 1 + 1 < w1.heap.size := by omega
      try have q1w4 : w.heap.size + 1 + 1 + 1 + 1 < w1.heap.size := by omega
      try have q1w5 : w.heap.size + 1 + 1 + 1 + 1 + 1 < w1.heap.size := by omega
      rw [a1'.out]
      go_wp2_with fail
      refine Calls.mono (containsEpoch_any pEp _ (goodEp _) _ _ S (T2.out.keep rEpoch_ok (by decide) (kept_of (bel_call (by go_grown) hb1)))) ?_
      rintro e w2 ⟨rfl, hb2⟩
      obtain ⟨hc2, hf2⟩ := bcell hb2
      have B2 : Below w.heap.size w w2 := bel_call (by go_grown) hb2
      have z2 := B2.size
      have y2 := hb2.size
      try simp at y2
      try have q2w0 : w.heap.size < w2.heap.size := by omega
      try have q2w1 : w.heap.size + 1 < w2.heap.size := by omega
      try have q2w2 : w.heap.size + 1 + 1 < w2.heap.size := by omega
      try have q2w3 : w.heap.size + 1 + 1 + 1 < w2.heap.size := by omega
      try have q2w4 : w.heap.size + 1 + 1 + 1 + 1 < w2.heap.size := by omega
      try have q2w5 : w.heap.size + 1 + 1 + 1 + 1 + 1 < w2.heap.size := by omega
      rw [a2'.out]
      go_wp2
      go_ret
      exact ⟨ret_bool (by rw [F.out]), B2⟩
  · have F := Lib.hid (show withinF f = false by rw [F0, a1]; rfl)
    have a1' := Lib.hid a1
    clear a1 F0
    go_enter Try.func27, Try.ntmps27
    go_wp2_with fail
    refine Calls.mono (containsManifest_any pMan _ (goodMan _) _ _ S (T1.out.keep rManifest_ok (by decide) (kept_of (by go_grown)))) ?_
    rintro e w1 ⟨rfl, hb1⟩
    obtain ⟨hc1, hf1⟩ := bcell hb1
    have B1 : Below w.heap.size w w1 := bel_call (by go_grown) hb1
    have z1 := B1.size
    have y1 := hb1.size
    try simp at y1
    try have q1w0 : w.heap.size < w1.heap.size := by omega
    try have q1w1 : w.heap.size + 1 < w1.heap.size := by omega
    try have q1w2 : w.heap.size + 1 + 1 < w1.heap.size := by omega
    try have q1w3 : w.heap.size + 1 + 1 + 1 < w1.heap.size := by omega
    try have q1w4 : w.heap.size + 1 + 1 + 1 + 1 < w1.heap.size := by omega
    try have q1w5 : w.heap.size + 1 + 1 + 1 + 1 + 1 < w1.heap.size := by omega
    rw [a1'.out]
    go_wp2
    go_ret
    exact ⟨ret_bool (by rw [F.out]), B1⟩

def bad1 (f : Folder) : Nat := if withinF f then 0 else 1
theorem goodBad (l : List Folder) : GoodOne 26 bad1 l := by
  intro f cs w S h _
  have hR := h
  obtain ⟨f_A2, f_c2, f_A3, f_c3, f_A4, f_c4, f_A5, f_c5, f_A6, f_c6, rfl, f_name_le, f_turn_ok, f_manifests_l, f_manifests_m, f_manifests_n, f_manifests_s, f_epochs_l, f_epochs_m, f_epochs_n, f_epochs_s, f_items_l, f_items_m, f_items_n, f_items_s, f_wraps_l, f_wraps_m, f_wraps_n, f_wraps_s, f_links_l, f_links_m, f_links_n, f_links_s⟩ := open_Folder h
  cases a : withinF f
  · have F := Lib.hid (show bad1 f = 1 by simp [bad1, a])
    have a' := Lib.hid a
    clear a
    go_enter Try.func26, Try.ntmps26
    go_wp2_with fail
    refine Calls.mono (within_any f _ _ S (rFolder_keep hR (kept_of (by go_grown)))) ?_
    rintro e w1 ⟨rfl, hb1⟩
    obtain ⟨hc1, hf1⟩ := bcell hb1
    have B1 : Below w.heap.size w w1 := bel_call (by go_grown) hb1
    have z1 := B1.size
    have y1 := hb1.size
    try simp at y1
    try have q1w0 : w.heap.size < w1.heap.size := by omega
    try have q1w1 : w.heap.size + 1 < w1.heap.size := by omega
    try have q1w2 : w.heap.size + 1 + 1 < w1.heap.size := by omega
    try have q1w3 : w.heap.size + 1 + 1 + 1 < w1.heap.size := by omega
    try have q1w4 : w.heap.size + 1 + 1 + 1 + 1 < w1.heap.size := by omega
    try have q1w5 : w.heap.size + 1 + 1 + 1 + 1 + 1 < w1.heap.size := by omega
    rw [a'.out]
    go_wp2
    go_ret
    exact ⟨by rw [F.out]; rfl, B1⟩
  · have F := Lib.hid (show bad1 f = 0 by simp [bad1, a])
    have a' := Lib.hid a
    clear a
    go_enter Try.func26, Try.ntmps26
    go_wp2_with fail
    refine Calls.mono (within_any f _ _ S (rFolder_keep hR (kept_of (by go_grown)))) ?_
    rintro e w1 ⟨rfl, hb1⟩
    obtain ⟨hc1, hf1⟩ := bcell hb1
    have B1 : Below w.heap.size w w1 := bel_call (by go_grown) hb1
    have z1 := B1.size
    have y1 := hb1.size
    try simp at y1
    try have q1w0 : w.heap.size < w1.heap.size := by omega
    try have q1w1 : w.heap.size + 1 < w1.heap.size := by omega
    try have q1w2 : w.heap.size + 1 + 1 < w1.heap.size := by omega
    try have q1w3 : w.heap.size + 1 + 1 + 1 < w1.heap.size := by omega
    try have q1w4 : w.heap.size + 1 + 1 + 1 + 1 < w1.heap.size := by omega
    try have q1w5 : w.heap.size + 1 + 1 + 1 + 1 + 1 < w1.heap.size := by omega
    rw [a'.out]
    go_wp2
    go_ret
    exact ⟨by rw [F.out]; rfl, B1⟩
def withinOf (st : State) : Bool := decide (st.users.length ≤ 16) && decide (st.folders.length ≤ 64) && decide (sumOf bad1 st.folders = 0)
theorem Within_any (st : State) (hb : sumOf bad1 st.folders ≤ 1000000) (cs : List Value) (w : World) (S : Nat → Prop) (h : rState S w cs st) :
    Calls Try.prog 18 #[.agg cs.toArray] w fun e w' => e = .returned (.bool (withinOf st)) ∧ Below w.heap.size w w' := by
  have hR := h
  obtain ⟨st_A1, st_c1, st_A2, st_c2, st_A3, st_c3, rfl, st_turn_ok, st_users_l, st_users_m, st_users_n, st_users_s, st_deposits_l, st_deposits_m, st_deposits_n, st_deposits_s, st_folders_l, st_folders_m, st_folders_n, st_folders_s⟩ := open_State h
  have HB := Lib.hid hb
  by_cases c1 : st.users.length ≤ 16
  · by_cases c2 : st.folders.length ≤ 64
    · have F := Lib.hid (show withinOf st = decide (sumOf bad1 st.folders = 0) by simp [withinOf, c1, c2])
      go_enter Try.func18, Try.ntmps18
      go_wp2_with fail
      refine Calls.mono (sum_any _ (by decide) bad1 st (goodBad _) HB.out _ _ S (rState_keep hR (kept_of (by go_grown)))) ?_
      rintro e w1 ⟨rfl, hb1⟩
      obtain ⟨hc1, hf1⟩ := bcell hb1
      have B1 : Below w.heap.size w w1 := bel_call (by go_grown) hb1
      have z1 := B1.size
      have y1 := hb1.size
      try simp at y1
      try have q1w0 : w.heap.size < w1.heap.size := by omega
      try have q1w1 : w.heap.size + 1 < w1.heap.size := by omega
      try have q1w2 : w.heap.size + 1 + 1 < w1.heap.size := by omega
      try have q1w3 : w.heap.size + 1 + 1 + 1 < w1.heap.size := by omega
      try have q1w4 : w.heap.size + 1 + 1 + 1 + 1 < w1.heap.size := by omega
      try have q1w5 : w.heap.size + 1 + 1 + 1 + 1 + 1 < w1.heap.size := by omega
      go_wp2
      go_ret
      exact ⟨ret_bool (by rw [F.out]; rw [Bool.eq_iff_iff]; simp), B1⟩
    · have F := Lib.hid (show withinOf st = false by simp [withinOf, c1, c2])
      go_enter Try.func18, Try.ntmps18
      go_wp2_with fail
      refine Calls.mono (sum_any _ (by decide) bad1 st (goodBad _) HB.out _ _ S (rState_keep hR (kept_of (by go_grown)))) ?_
      rintro e w1 ⟨rfl, hb1⟩
      obtain ⟨hc1, hf1⟩ := bcell hb1
      have B1 : Below w.heap.size w w1 := bel_call (by go_grown) hb1
      have z1 := B1.size
      have y1 := hb1.size
      try simp at y1
      try have q1w0 : w.heap.size < w1.heap.size := by omega
      try have q1w1 : w.heap.size + 1 < w1.heap.size := by omega
      try have q1w2 : w.heap.size + 1 + 1 < w1.heap.size := by omega
      try have q1w3 : w.heap.size + 1 + 1 + 1 < w1.heap.size := by omega
      try have q1w4 : w.heap.size + 1 + 1 + 1 + 1 < w1.heap.size := by omega
      try have q1w5 : w.heap.size + 1 + 1 + 1 + 1 + 1 < w1.heap.size := by omega
      go_wp2
      go_ret
      exact ⟨ret_bool (by rw [F.out]), B1⟩
  · have F := Lib.hid (show withinOf st = false by simp [withinOf, c1])
    go_enter Try.func18, Try.ntmps18
    go_wp2_with fail
    refine Calls.mono (sum_any _ (by decide) bad1 st (goodBad _) HB.out _ _ S (rState_keep hR (kept_of (by go_grown)))) ?_
    rintro e w1 ⟨rfl, hb1⟩
    obtain ⟨hc1, hf1⟩ := bcell hb1
    have B1 : Below w.heap.size w w1 := bel_call (by go_grown) hb1
    have z1 := B1.size
    have y1 := hb1.size
    try simp at y1
    try have q1w0 : w.heap.size < w1.heap.size := by omega
    try have q1w1 : w.heap.size + 1 < w1.heap.size := by omega
    try have q1w2 : w.heap.size + 1 + 1 < w1.heap.size := by omega
    try have q1w3 : w.heap.size + 1 + 1 + 1 < w1.heap.size := by omega
    try have q1w4 : w.heap.size + 1 + 1 + 1 + 1 < w1.heap.size := by omega
    try have q1w5 : w.heap.size + 1 + 1 + 1 + 1 + 1 < w1.heap.size := by omega
    go_wp2
    go_ret
    exact ⟨ret_bool (by rw [F.out]), B1⟩

end Go.Proofs.Ytdddgmmbdofomaa
