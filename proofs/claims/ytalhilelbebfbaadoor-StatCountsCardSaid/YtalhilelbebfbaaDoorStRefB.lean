/- Layer stat: the document's Counts. Condition: at most a hundred answers. -/
import Derived.Test.YtalhilelbebfbaaDoorStRef
import Derived.Test.YtalhilelbebfbaaDoorStPlain
namespace Go.Proofs.YtalhilelbebfbaaDoor
open Go.RowKit Go.Deep Go.Maps

theorem ins_done (g : Int → Int) (e n : Int) : ∀ ks : List Int, e ∉ ks → insC (ks.map fun x => ⟨x, g x⟩) true e n = ks.map fun x => ⟨x, g x⟩
  | [], _ => rfl
  | k :: ks, h => by
    have h1 : k ≠ e := fun he => h (by rw [he]; exact List.mem_cons_self ..)
    rw [List.map_cons, insC, if_neg h1, if_neg (by simp), ins_done g e n ks fun he => h (List.mem_cons_of_mem _ he)]
def newF (ks : List Int) (g : Int → Int) (e n x : Int) : Int := if x = e then (if e ∈ ks then wrap64 (g e + n) else n) else g x
theorem ins_map (g : Int → Int) (e n : Int) : ∀ ks : List Int, ks.Pairwise (· < ·) →
    ∃ ks' : List Int, insC (ks.map fun x => ⟨x, g x⟩) false e n = ks'.map (fun x => ⟨x, newF ks g e n x⟩) ∧ ks'.Pairwise (· < ·) ∧ ∀ x, x ∈ ks' ↔ x ∈ ks ∨ x = e
  | [], _ => ⟨[e], by simp [insC, newF], by simp, fun x => by simp⟩
  | k :: ks, hp => by
    obtain ⟨hk, hp'⟩ := List.pairwise_cons.1 hp
    by_cases h1 : k = e
    · subst h1
      have hn : k ∉ ks := fun h => by have := hk k h; omega
      refine ⟨k :: ks, ?_, hp, fun x => by simp; omega⟩
      rw [List.map_cons, insC, if_pos rfl, ins_done g k n ks hn, List.map_cons]
      congr 1
      · simp [newF]
      · refine List.map_congr_left fun x hx => ?_
        have : x ≠ k := fun h => hn (h ▸ hx)
        simp [newF, this]
    · rcases Int.lt_or_gt_of_ne h1 with hlt | hgt
      · obtain ⟨ks', e1, p1, m1⟩ := ins_map g e n ks hp'
        refine ⟨k :: ks', ?_, List.pairwise_cons.2 ⟨fun x hx => ?_, p1⟩, fun x => ?_⟩
        · rw [List.map_cons, insC, if_neg h1, if_neg (by simp; omega), e1, List.map_cons]
          have hm : e ∈ k :: ks ↔ e ∈ ks := by simp [Ne.symm h1]
          congr 1
          · simp [newF, h1]
          · refine List.map_congr_left fun x _ => ?_
            simp only [newF, hm]
        · rcases (m1 x).1 hx with h | h
          · exact hk x h
          · omega
        · rw [List.mem_cons, m1 x, List.mem_cons]
          constructor
          · rintro (h | h | h)
            · exact .inl (.inl h)
            · exact .inl (.inr h)
            · exact .inr h
          · rintro ((h | h) | h)
            · exact .inl h
            · exact .inr (.inl h)
            · exact .inr (.inr h)
      · have hn : e ∉ k :: ks := fun h => by
          rcases List.mem_cons.1 h with h | h
          · omega
          · have := hk e h; omega
        have hn2 : e ∉ ks := fun h => hn (List.mem_cons_of_mem _ h)
        refine ⟨e :: k :: ks, ?_, List.pairwise_cons.2 ⟨fun x hx => ?_, hp⟩, fun x => ?_⟩
        · rw [List.map_cons, insC, if_neg h1, if_pos ⟨rfl, by dsimp only; omega⟩, ins_done g e n ks hn2]
          rw [List.map_cons, List.map_cons]
          congr 1
          · simp only [newF, if_neg hn, if_pos]
          · congr 1
            · simp [newF, h1]
            · refine List.map_congr_left fun x hx => ?_
              have : x ≠ e := fun h => hn2 (h ▸ hx)
              simp [newF, this]
        · rcases List.mem_cons.1 hx with h | h
          · omega
          · have := hk x h; omega
        · rw [List.mem_cons]
          exact Or.comm

theorem ins_is {L : List Int} {l : List Count} (h : IsCounts (cntOf L) (· ∈ L) l) (hL : L.length ≤ 1000) (e : Int) : IsCounts (cntOf (L ++ [e])) (· ∈ L ++ [e]) (insC l false e 1) := by
  obtain ⟨ks, rfl, p, m⟩ := h
  obtain ⟨ks', e1, p1, m1⟩ := ins_map (cntOf L) e 1 ks p
  refine ⟨ks', ?_, p1, fun x => by rw [m1 x, m x]; simp⟩
  rw [e1]
  refine List.map_congr_left fun x _ => ?_
  have hb := cnt_le L e
  have hw : wrap64 (cntOf L e + 1) = cntOf L e + 1 := by unfold wrap64; omega
  rw [newF, hw, cnt_append]
  by_cases hx : x = e
  · subst hx
    have h1 : cntOf [x] x = 1 := by simp [cntOf]
    rw [if_pos rfl, h1]
    by_cases hm : x ∈ ks
    · rw [if_pos hm]
    · rw [if_neg hm]
      have h0 : cntOf L x = 0 := by
        rw [m x] at hm
        simp only [cntOf, List.count_eq_zero.2 hm]
        rfl
      rw [h0]
      rfl
  · have h0 : cntOf [e] x = 0 := by
      have : List.count x [e] = 0 := List.count_eq_zero.2 (by simpa using hx)
      simp only [cntOf, this]
      rfl
    rw [if_neg hx, h0, Int.add_zero]

set_option maxRecDepth 100000 in
theorem refcounts_any (L : List Int) (hL : L.length ≤ 100) (v : Value) (w : World) (S : Nat → Prop) (h : Sl 7 rAns S w v L) :
    Calls Tryd.prog 9 #[v] w fun e w' => (∃ u R, e = .returned u ∧ Sl 2 rCount (fun _ => True) w' u R ∧ IsCounts (cntOf L) (· ∈ L) R) ∧ Below w.heap.size w w' := by
  obtain ⟨A, cp, rfl, hl, hcp, hn, hs⟩ := h
  unfold maxLen at hcp
  go_enter Tryd.func9, Tryd.ntmps9
  go_wp2
  go_loopw [3, 4] (fun s i wr => ∃ (k : Nat) (R : List Count), k ≤ L.length ∧ i = .int .i64 k ∧ Hid (Sl 2 rCount (fun _ => True) wr s R) ∧ Hid (IsCounts (cntOf (L.take k)) (· ∈ L.take k) R) ∧ Below w.heap.size w wr) (fun _ i _ => L.length - (RowKit.intOf i).toNat)
  case atStart => exact ⟨0, [], by omega, by go_num, Sl_nil _ _ _ _, ⟨[], rfl, List.Pairwise.nil, fun e => by simp⟩, by go_grown⟩
  case round =>
    obtain ⟨k, R, hk, rfl, HS, HI, hbel⟩ := hrel
    have hRl : R.length ≤ 100 := by
      have := counts_len HI.out
      rw [List.length_take] at this
      omega
    by_cases hlt : k < L.length
    · obtain ⟨x, hx, _, _⟩ := at_k hlt
      obtain ⟨b, o, ys, rfl, _, _, hc, an, sn, A3, A4, A5, A6, n3, c3, n4, c4, n5, c5, n6, c6, rfl, hxI⟩ := hs k x hx
      have q0 : wr.cell? ⟨b, o + k * 7, none⟩ = some (.int .i64 x) := (hbel.cell (p := ⟨b, o + (k * 7 + 0), none⟩) (cell_lt (hc 0 _ rfl))).trans (hc 0 _ rfl)
      have HT := Lib.hid (show L.take (k + 1) = L.take k ++ [x] by rw [List.take_add_one, hx]; rfl)
      have cr := Lib.hid (refcount_any R (by omega) x 1 hxI ⟨by decide, by decide⟩ _ wr (fun _ => True) HS.out)
      have HI2 := Lib.hid (ins_is HI.out (by rw [List.length_take]; omega) x)
      clear hx hc
      go_wp2_with (go_at_call 19; refine Calls.mono cr.out ?_; rintro e w2 ⟨⟨u, rfl, SU⟩, B2⟩; have SU' := Lib.hid SU; have B2' := bel_call hbel B2; clear SU)
      go_roundw
      case rel => exact ⟨k + 1, _, by omega, by go_num, SU', by rw [HT.out]; exact HI2, B2'⟩
      case measure => simp [RowKit.intOf]; omega
    · obtain rfl : k = L.length := by omega
      go_wp2
      go_ret
      exact ⟨⟨_, R, rfl, HS.out, by have := HI.out; rw [List.take_length] at this; exact this⟩, hbel⟩
end Go.Proofs.YtalhilelbebfbaaDoor
