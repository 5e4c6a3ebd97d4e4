/- Layer tree: the document's High. Conditions: as for Children. -/
import Derived.Test.YthcmlakifdoneaaTrRefC
namespace Go.Proofs.Ythcmlakifdoneaa
open Go.RowKit Go.Deep

def KidsUp (F : Fs) (l : List Nm) (m : Nat) : Prop := (∀ c ∈ l, ∃ k, IsHigh F c k ∧ k ≤ m) ∧ (m = 0 ∨ ∃ c ∈ l, IsHigh F c m)
theorem KidsUp.step {F : Fs} {l : List Nm} {m : Nat} (h : KidsUp F l m) {c : Nm} {k : Nat} (hk : IsHigh F c k) : KidsUp F (l ++ [c]) (if m < k then k else m) := by
  obtain ⟨h1, h2⟩ := h
  by_cases hm : m < k
  · rw [if_pos hm]
    refine ⟨fun x hx => ?_, .inr ⟨c, by simp, hk⟩⟩
    rcases List.mem_append.1 hx with hx | hx
    · obtain ⟨q, q1, q2⟩ := h1 x hx
      exact ⟨q, q1, by omega⟩
    · obtain rfl : x = c := by simpa using hx
      exact ⟨k, hk, Nat.le_refl _⟩
  · rw [if_neg hm]
    refine ⟨fun x hx => ?_, ?_⟩
    · rcases List.mem_append.1 hx with hx | hx
      · exact h1 x hx
      · obtain rfl : x = c := by simpa using hx
        exact ⟨k, hk, by omega⟩
    · rcases h2 with h2 | ⟨x, x1, x2⟩
      · exact .inl h2
      · exact .inr ⟨x, List.mem_append_left _ x1, x2⟩
theorem KidsUp.done {F : Fs} (hI : Inv F) {s : Nm} (hs : liveB F s = true) {R : List Nm} (hR : IsNames (fun x => liveB F x = true ∧ parF F x = s) R) {m : Nat} (h : KidsUp F R m) : IsHigh F s (m + 1) :=
  IsHigh.up hI hs (fun c c1 c2 => h.1 c ((hR.2 c).2 ⟨c1, c2⟩)) (h.2.imp id fun ⟨c, c1, c2⟩ => ⟨c, ((hR.2 c).1 c1).1, ((hR.2 c).1 c1).2, c2⟩)
theorem high_le {F : Fs} (hI : Inv F) {s : Nm} {k : Nat} (h : IsHigh F s k) : k ≤ 4 := by
  cases hl : liveB F s with
  | false => rw [h.1 hl]; omega
  | true =>
    have := (IsHigh.ge hI hl h).2
    have h2 := ch_len hI hl
    omega
set_option maxHeartbeats 2000000 in
set_option maxRecDepth 100000 in
theorem refhigh_any {r : Nat} {v : Value} {N : List Node} (hI : Inv (fN N)) : ∀ (d : Nat) {w : World} (s : Nm), RTreeS w r v N → 5 ≤ (ch (fN N) s).length + d → Calls Try.prog 27 #[.pointer (some ⟨r, 0, none⟩), .string s] w fun e w' => (∃ k : Nat, e = .returned (.int .i64 k) ∧ IsHigh (fN N) s k) ∧ Below w.heap.size w w'
  | 0, w, s, h, hd => by have := hI.deep s; omega
  | d + 1, w, s, h, hd => by
    have ih := Lib.hid (fun (W : World) (c : Nm) (hW : RTreeS W r v N) (hc : 5 ≤ (ch (fN N) c).length + d) => refhigh_any hI d c hW hc)
    have HR := Lib.hid h
    have hat := Lib.hid (refat_any h s)
    have HD := Lib.hid hd
    clear h hd
    cases hl : liveB (fN N) s with
    | false =>
      have HL := Lib.hid hl
      have HI := Lib.hid (IsHigh.off hl)
      clear hl ih
      go_enter Try.func27, Try.ntmps27
      go_wp2_with (go_at_call 17; refine Calls.mono hat.out ?_; rintro e w1 ⟨⟨i0, rfl, ha⟩, hw⟩; obtain rfl : w = w1 := hw.symm; obtain rfl := ha.off HL.out; clear hw ha)
      go_ret
      exact ⟨⟨0, rfl, HI.out⟩, by go_grown⟩
    | true =>
      have HL := Lib.hid hl
      clear hl
      go_enter Try.func27, Try.ntmps27
      go_wp2_with (first
        | (go_at_call 17; refine Calls.mono hat.out ?_; rintro e w1 ⟨⟨i0, rfl, ha⟩, hw⟩; obtain rfl : w = w1 := hw.symm; obtain ⟨q, _, rfl, _⟩ := ha.on HL.out; have hq0 : decide ((q : Int) < 0) = false := decide_eq_false (by omega); clear hw ha)
        | (go_at_call 25; refine Calls.mono (refchildren_any HR.out hI s) ?_; rintro e w2 ⟨⟨u, R, rfl, S2, IN⟩, B2⟩; have HN := Lib.hid IN; obtain ⟨A2, c2, rfl, l2, m2, n2, s2⟩ := S2; unfold maxLen at m2; clear IN))
      clear hat
      go_loopw [5, 7] (fun hi i wr => ∃ (k m : Nat), k ≤ R.length ∧ m ≤ 4 ∧ i = .int .i64 k ∧ hi = .int .i64 m ∧ Hid (KidsUp (fN N) (R.take k) m) ∧ Below w2.heap.size w2 wr) (fun _ i _ => R.length - (RowKit.intOf i).toNat)
      case atStart => exact ⟨0, 0, by omega, by omega, by go_num, by go_num, ⟨fun x hx => by simp at hx, .inl rfl⟩, by go_grown⟩
      case round =>
        obtain ⟨k, m, hk, hm4, rfl, rfl, HU, hbel⟩ := hrel
        by_cases hlt : k < R.length
        · obtain ⟨x, b, o, hx, _, hm, rfl, q⟩ := get_str s2 hlt (kept_of hbel)
          have hin := (HN.out.2 x).1 hm
          have hlen := ch_len hI hin.1
          rw [hin.2] at hlen
          have hcl := ih.out wr x (HR.out.below (bel_call B2 hbel)) (by have := HD.out; omega)
          have HX := Lib.hid hx
          clear hx hm hin hlen
          go_wp2_with fail
          refine Calls.mono hcl ?_
          rintro e w3 ⟨⟨q3, rfl, h3⟩, B3⟩
          have hq4 := high_le hI h3
          have HT := Lib.hid (show KidsUp (fN N) (R.take (k + 1)) (if m < q3 then q3 else m) by rw [List.take_add_one, HX.out]; exact HU.out.step h3)
          clear h3 hcl q
          by_cases hmq : m < q3
          · have HT2 := Lib.hid (show KidsUp (fN N) (R.take (k + 1)) q3 by have := HT.out; rwa [if_pos hmq] at this)
            have hd1 : decide (m < q3) = true := decide_eq_true hmq
            go_wp2
            go_roundw
            case rel => exact ⟨k + 1, q3, by omega, hq4, by go_num, by go_num, HT2, bel_call hbel B3⟩
            case measure => simp [RowKit.intOf]; omega
          · have HT2 := Lib.hid (show KidsUp (fN N) (R.take (k + 1)) m by have := HT.out; rwa [if_neg hmq] at this)
            have hd1 : decide (m < q3) = false := decide_eq_false hmq
            go_wp2
            go_roundw
            case rel => exact ⟨k + 1, m, by omega, hm4, by go_num, by go_num, HT2, bel_call hbel B3⟩
            case measure => simp [RowKit.intOf]; omega
        · obtain rfl : k = R.length := by omega
          have HH := Lib.hid (show IsHigh (fN N) s (m + 1) from KidsUp.done hI HL.out HN.out (by have := HU.out; rwa [List.take_length] at this))
          go_wp2
          go_ret
          exact ⟨⟨m + 1, by simp, HH.out⟩, bel_call B2 hbel⟩
end Go.Proofs.Ythcmlakifdoneaa
