/- What is done to a tree: how its cells read; the chapter's example; which plays are gone through. No condition. -/
import Derived.Test.YthcmlakifdoneaaTrRefE
import Derived.Test.YthcmlakifdoneaaArgs
import Derived.Test.YthcmlakifdoneaaLaw
namespace Go.Proofs.Ythcmlakifdoneaa
open Go.RowKit Go.Deep Go.ChangeShapes Go.WideShapes

structure TDo where
  kind : Int
  name : ByteArray
  parent : ByteArray

def rTDo : Rp TDo := fun S w cs x => cs = [.int .i64 x.kind, .string x.name, .string x.parent] ∧ I64 x.kind ∧ x.name.size ≤ 140737488355328 ∧ x.parent.size ≤ 140737488355328
theorem rTDo_len {S : Nat → Prop} {w : World} {cs : List Value} {x : TDo} (h : rTDo S w cs x) : cs.length = 3 := by
  obtain ⟨rfl, c0, c1, c2⟩ := h
  rfl
theorem rTDo_keep {S S' : Nat → Prop} {w w' : World} {cs : List Value} {x : TDo} (h : rTDo S w cs x) (k : Kept S S' w w') : rTDo S' w' cs x := by
  obtain ⟨e, c0, c1, c2⟩ := h
  exact ⟨e, c0, c1, c2⟩
theorem rTDo_one {S : Nat → Prop} {w : World} {cs : List Value} {x : TDo} (h : rTDo S w cs x) : ∀ u ∈ cs, u.oneCell' = true := by
  obtain ⟨e, c0, c1, c2⟩ := h
  intro u hu
  rw [e] at hu
  simp only [List.mem_cons, List.not_mem_nil, or_false] at hu
  rcases hu with rfl | rfl | rfl <;> rfl
theorem rTDo_ok : RpOk 3 rTDo := ⟨rTDo_len, rTDo_keep, rTDo_one⟩
theorem get_TDo {S S' : Nat → Prop} {w wr : World} {A : Option Addr} {l : List TDo} {k : Nat} (s : SlAt 3 rTDo S w A l) (hk : k < l.length) (hb : Kept S S' w wr) :
    ∃ x b o, l[k]? = some x ∧ x ∈ l ∧ A = some ⟨b, o, none⟩ ∧ wr.cell? ⟨b, o + k * 3, none⟩ = some (.int .i64 x.kind) ∧ wr.cell? ⟨b, o + k * 3 + 1, none⟩ = some (.string x.name) ∧ wr.cell? ⟨b, o + k * 3 + 2, none⟩ = some (.string x.parent) := by
  obtain ⟨x, hx, hd, hm⟩ := at_k hk
  obtain ⟨b, o, ys, hA, hS, _, hc, rfl, _⟩ := s k _ hx
  have c0' : wr.cell? ⟨b, o + k * 3, none⟩ = _ := cell_kept (p := ⟨b, o + (k * 3 + 0), none⟩) hb hS (hc 0 _ rfl)
  have c1' : wr.cell? ⟨b, o + k * 3 + 1, none⟩ = _ := cell_kept (p := ⟨b, o + (k * 3 + 1), none⟩) hb hS (hc 1 _ rfl)
  have c2' : wr.cell? ⟨b, o + k * 3 + 2, none⟩ = _ := cell_kept (p := ⟨b, o + (k * 3 + 2), none⟩) hb hS (hc 2 _ rfl)
  exact ⟨x, b, o, hx, hm, hA, c0', c1', c2'⟩
theorem rdTDo {w : World} : Rd Try.prog w 33 rTDo := by
  intro H enc base spare held fuel cs x h hz
  obtain ⟨hl, n, hf⟩ := rd_fields Try.underlying33 (by kernel_rfl) (by kernel_rfl) h hz
  match cs, hl with
  | [c0, c1, c2], _ =>
    obtain ⟨y0, t0, z0⟩ := hf 0 _ rfl
    obtain ⟨a0, (e0 : c0 = _), b0⟩ := rd1_int Try.underlying3 t0 z0
    obtain ⟨y1, t1, z1⟩ := hf 1 _ rfl
    obtain ⟨a1, (e1 : c1 = _), b1⟩ := rd1_str Try.underlying9 t1 z1
    obtain ⟨y2, t2, z2⟩ := hf 2 _ rfl
    obtain ⟨a2, (e2 : c2 = _), b2⟩ := rd1_str Try.underlying9 t2 z2
    subst e0 e1 e2
    exact ⟨⟨a0, a1, a2⟩, ⟨rfl, b0, b1, b2⟩⟩

def shortB (d : TDo) : Bool := decide (d.name.size ≤ 20) && decide (d.parent.size ≤ 20)
def fewB (L : List TDo) : Bool := L.all shortB && decide (L.length ≤ 40)
theorem fewB_yes {L : List TDo} (h : fewB L = true) : L.length ≤ 40 ∧ ∀ d ∈ L, d.name.size ≤ 20 ∧ d.parent.size ≤ 20 := by
  unfold fewB shortB at h
  simp only [Bool.and_eq_true, List.all_eq_true, decide_eq_true_eq] at h
  exact ⟨h.2, h.1⟩
theorem few_any (L : List TDo) (v : Value) (w : World) (S : Nat → Prop) (h : Sl 3 rTDo S w v L) : Calls Try.prog 6 #[v] w fun e w' => e = .returned (.bool (fewB L)) ∧ Below w.heap.size w w' := by
  obtain ⟨A, c, rfl, hl, hc, hn, hs⟩ := h
  unfold maxLen at hc
  go_enter Try.func6, Try.ntmps6
  go_wp2
  go_loopw [7] (fun i wr => ∃ k : Nat, k ≤ L.length ∧ i = .int .i64 k ∧ Hid (L.all shortB = (L.drop k).all shortB) ∧ Below w.heap.size w wr) (fun i _ => L.length - (RowKit.intOf i).toNat)
  case atStart => exact ⟨0, by omega, by go_num, by show _ = _; rfl, by go_grown⟩
  case round =>
    obtain ⟨k, hk, rfl, HE, hbel⟩ := hrel
    have hzb := hbel.size
    by_cases hlt : k < L.length
    · obtain ⟨x, b, o, hx, _, rfl, x0, x1, x2⟩ := get_TDo hs hlt (kept_of hbel)
      have hd : L.drop k = x :: L.drop (k + 1) := by
        have := List.drop_eq_getElem_cons hlt
        rw [(List.getElem?_eq_some_iff.1 hx).2] at this
        exact this
      by_cases h1 : x.name.size ≤ 20
      · have d1 : decide ((20 : Int) < (x.name.size : Int)) = false := decide_eq_false (by omega)
        by_cases h2 : x.parent.size ≤ 20
        · have d2 : decide ((20 : Int) < (x.parent.size : Int)) = false := decide_eq_false (by omega)
          have HE2 := Lib.hid (show L.all shortB = (L.drop (k + 1)).all shortB by rw [HE.out, hd, List.all_cons]; simp [shortB, h1, h2])
          clear hx hd
          go_wp2
          go_roundw
          case rel => exact ⟨k + 1, by omega, by go_num, HE2, by go_grown⟩
          case measure => simp [RowKit.intOf]; omega
        · have d2 : decide ((20 : Int) < (x.parent.size : Int)) = true := decide_eq_true (by omega)
          have HE2 := Lib.hid (show fewB L = false by unfold fewB; rw [HE.out, hd, List.all_cons]; simp [shortB, h2])
          clear hx hd
          go_wp2
          go_ret
          exact ⟨ret_bool HE2.out.symm, by go_grown⟩
      · have d1 : decide ((20 : Int) < (x.name.size : Int)) = true := decide_eq_true (by omega)
        have HE2 := Lib.hid (show fewB L = false by unfold fewB; rw [HE.out, hd, List.all_cons]; simp [shortB, h1])
        clear hx hd
        go_wp2
        go_ret
        exact ⟨ret_bool HE2.out.symm, by go_grown⟩
    · obtain rfl : k = L.length := by omega
      have HE2 := Lib.hid (show fewB L = decide (L.length ≤ 40) by unfold fewB; rw [HE.out, List.drop_length]; rfl)
      go_wp2
      go_ret
      exact ⟨ret_bool (by rw [HE2.out, decide_eq_decide]; omega), by go_grown⟩

/-! The chapter's example. -/
abbrev nA : Nm := ⟨#[97]⟩
abbrev nB : Nm := ⟨#[98]⟩
def F1 : Fs := upd (fun _ => none) nA (Top, false)
def F2 : Fs := upd F1 nB (nA, false)
theorem ok_A : nameOk nA = true := by decide
theorem ok_B : nameOk nB = true := by decide
theorem add_A : addE (fun _ => none) nA Top = 0 := by rw [addE, ok_A]; rfl
theorem inv_1 : Inv F1 := Inv.start.add rfl (by decide) (.inl rfl) (by decide)
theorem ch_1 : ch F1 nA = [nA] := by decide
theorem add_B : addE F1 nB nA = 0 := by rw [addE, ok_B]; decide
theorem inv_2 : Inv F2 := inv_1.add (by decide) (by decide) (.inr (by decide)) (by rw [ch_1]; decide)
theorem ch_2 : ch F2 nB = [nB, nA] := by decide
theorem Small.upd {F : Fs} (h : Small F) {s p : Nm} (g : Bool) (hs : s.size ≤ 1000) (hp : p.size ≤ 1000) : Small (upd F s (p, g)) := by
  refine ⟨fun x => ?_, fun x hx => ?_⟩
  · rw [par_upd]
    split
    · exact hp
    · exact h.par x
  · by_cases e : x = s
    · rw [e]; exact hs
    · refine h.key x ?_
      have : Go.Proofs.Ythcmlakifdoneaa.upd F s (p, g) x = F x := by unfold Go.Proofs.Ythcmlakifdoneaa.upd; rw [if_neg e]
      rwa [this] at hx
theorem Small.start : Small fun _ => none := ⟨fun _ => (by show Top.size ≤ 1000; decide), fun _ h => by cases h⟩
set_option maxRecDepth 100000 in
theorem awake_any (w : World) : Calls Try.prog 5 #[] w fun e w' => e = .returned (.bool true) ∧ Below w.heap.size w w' := by
  go_enter Try.func5, Try.ntmps5
  go_wp2_with fail
  refine Calls.mono (new_any w) ?_
  rintro e w1 ⟨⟨t, m, rfl, hs, ht, hm, _, _⟩, B1⟩
  have HS := Lib.hid hs
  have HT := Lib.hid (And.intro ht hm)
  clear hs ht hm
  go_wp2_with fail
  refine Calls.mono (add_any HS.out Inv.start Small.start (by omega) nA Top (by decide) (by decide)) ?_
  rintro e w2 ⟨rfl, ⟨n2, D2, hn2, hs2⟩, b2⟩
  have e1 : addF (fun _ => none) nA Top = F1 := by rw [addF, add_A]; rfl
  rw [e1] at hs2
  have HS2 := Lib.hid hs2
  have HB2 := Lib.hid (ButB.below B1 B1.size (by rintro x rfl; exact HT.out.2) b2)
  have hn2' : n2 ≤ 1 := by omega
  clear hs2 b2 e1 hn2
  have h1 := add_A
  go_wp2_with fail
  refine Calls.mono (add_any HS2.out inv_1 (Small.start.upd false (by decide) (by decide)) (by omega) nB nA (by decide) (by decide)) ?_
  rintro e w3 ⟨rfl, ⟨n3, D3, hn3, hs3⟩, b3⟩
  have e2 : addF F1 nB nA = F2 := by rw [addF, add_B]; rfl
  rw [e2] at hs3
  have HS3 := Lib.hid hs3
  have HB3 := Lib.hid (ButB.below HB2.out HB2.out.size (by rintro x rfl; exact HT.out.2) b3)
  clear hs3 b3 e2 hn3
  have h2 := add_B
  go_wp2_with fail
  refine Calls.mono (chain_any HS3.out inv_2 ((Small.start.upd false (by decide) (by decide)).upd false (by decide) (by decide)).par nB (by decide)) ?_
  rintro e w4 ⟨⟨u, rfl, S4⟩, B4⟩
  rw [ch_2] at S4
  have HU := Lib.hid S4
  have HB4 := Lib.hid (bel_call HB3.out B4)
  clear S4 B4
  go_wp2_with fail
  obtain ⟨W5, hW5, c5, f5, B5, q5⟩ := boxed w4 #[.string nB, .string nA] 9
  rw [hW5]
  have hsl : Sl 1 rStr (fun _ => True) W5 (.slice (some ⟨w4.heap.size, 0, none⟩) 2 2) [nB, nA] := by
    refine Sl_of rfl (by decide) (by decide) (by decide) trivial fun i x hx => ?_
    rcases i with _ | _ | i
    · obtain rfl : nB = x := by simpa using hx
      refine ⟨_, rfl, fun j y hj => ?_, rfl, by decide⟩
      have hj0 : j = 0 := by have := (List.getElem?_eq_some_iff.1 hj).1; simpa using this
      subst hj0
      exact c5 _ _ hj
    · obtain rfl : nA = x := by simpa using hx
      refine ⟨_, rfl, fun j y hj => ?_, rfl, by decide⟩
      have hj0 : j = 0 := by have := (List.getElem?_eq_some_iff.1 hj).1; simpa using this
      subst hj0
      exact c5 _ _ hj
    · simp at hx
  refine Calls.mono (same_any _ _ _ _ W5 (fun _ => True) (fun _ => True) (HU.out.keep rStr_ok (by decide) (kept_of B5)) hsl rfl) ?_
  rintro e w6 ⟨rfl, B6⟩
  clear hsl c5 f5 hW5
  go_wp2
  go_ret
  exact ⟨rfl, bel_call HB4.out (bel_call B5 B6)⟩
end Go.Proofs.Ythcmlakifdoneaa
