/- StatAdd: for every input the law returns true and leaves its arguments as they were. No condition. -/
import Derived.Test.YtmkgiaheeebbbaaStPlain
import Derived.Test.YtmkgiaheeebbbaaStSame
import Derived.Test.YtmkgiaheeebbbaaArgs
import Derived.Test.YtmkgiaheeebbbaaLaw
namespace Go.Proofs.Ytmkgiaheeebbbaa
open Go.ChangeShapes Go.WideShapes Go.ChangeAt Go.RowKit Go.Deep Go.Maps

theorem awk_counts : IsCounts (cntOf [0, 40, 0]) (· ∈ ([0, 40, 0] : List Int)) [⟨0, 2⟩, ⟨40, 1⟩] :=
  ⟨[0, 40], rfl, by decide, fun e => by simp only [List.mem_cons, List.not_mem_nil, or_false]; omega⟩

set_option maxRecDepth 100000 in
theorem awake_any (w : World) : Calls Try.prog 5 #[] w fun e w' => e = .returned (.bool true) ∧ Below w.heap.size w w' := by
  go_enter Try.func5, Try.ntmps5
  go_wp2_with fail
  obtain ⟨W1, hW1, c1, f1, B1, q1⟩ := boxed w #[.int .i64 0, .int .i64 0, .string ⟨#[]⟩, .slice none 0 0, .slice none 0 0, .slice none 0 0, .slice none 0 0, .int .i64 40, .int .i64 0, .string ⟨#[]⟩, .slice none 0 0, .slice none 0 0, .slice none 0 0, .slice none 0 0, .int .i64 0, .int .i64 0, .string ⟨#[]⟩, .slice none 0 0, .slice none 0 0, .slice none 0 0, .slice none 0 0] 39
  rw [hW1]
  have hsl : Sl 7 rAns (fun _ => True) W1 (.slice (some ⟨w.heap.size, 0, none⟩) 3 3) [0, 40, 0] := by
    refine Sl_of rfl (by decide) (by decide) (by decide) trivial fun i x hx => ?_
    rcases i with _ | _ | _ | i
    · obtain rfl : (0 : Int) = x := by simpa using hx
      refine ⟨_, rfl, fun j y hj => ?_, ⟨0, ⟨#[]⟩, none, none, none, none, 0, 0, 0, 0, 0, 0, 0, 0, rfl, ⟨by decide, by decide⟩⟩⟩
      have hj7 := (List.getElem?_eq_some_iff.1 hj).1
      refine c1 _ _ ?_
      rcases (show j = 0 ∨ j = 1 ∨ j = 2 ∨ j = 3 ∨ j = 4 ∨ j = 5 ∨ j = 6 by simp at hj7; omega) with rfl | rfl | rfl | rfl | rfl | rfl | rfl <;> exact hj
    · obtain rfl : (40 : Int) = x := by simpa using hx
      refine ⟨_, rfl, fun j y hj => ?_, ⟨0, ⟨#[]⟩, none, none, none, none, 0, 0, 0, 0, 0, 0, 0, 0, rfl, ⟨by decide, by decide⟩⟩⟩
      have hj7 := (List.getElem?_eq_some_iff.1 hj).1
      refine c1 _ _ ?_
      rcases (show j = 0 ∨ j = 1 ∨ j = 2 ∨ j = 3 ∨ j = 4 ∨ j = 5 ∨ j = 6 by simp at hj7; omega) with rfl | rfl | rfl | rfl | rfl | rfl | rfl <;> exact hj
    · obtain rfl : (0 : Int) = x := by simpa using hx
      refine ⟨_, rfl, fun j y hj => ?_, ⟨0, ⟨#[]⟩, none, none, none, none, 0, 0, 0, 0, 0, 0, 0, 0, rfl, ⟨by decide, by decide⟩⟩⟩
      have hj7 := (List.getElem?_eq_some_iff.1 hj).1
      refine c1 _ _ ?_
      rcases (show j = 0 ∨ j = 1 ∨ j = 2 ∨ j = 3 ∨ j = 4 ∨ j = 5 ∨ j = 6 by simp at hj7; omega) with rfl | rfl | rfl | rfl | rfl | rfl | rfl <;> exact hj
    · simp at hx
  refine Calls.mono (counts_any [0, 40, 0] (by decide) _ W1 _ hsl) ?_
  rintro e w2 ⟨⟨u, R, rfl, SU, IC⟩, B2⟩
  obtain rfl : R = [⟨0, 2⟩, ⟨40, 1⟩] := IC.ext awk_counts (fun _ => Iff.rfl) fun _ _ => rfl
  clear IC hsl c1 f1 hW1
  have B12 := bel_call B1 B2
  have hz := B12.size
  have SU' := Lib.hid SU
  clear SU
  go_wp2_with fail
  obtain ⟨W3, hW3, c3, f3, B3, q3⟩ := boxed w2 #[.int .i64 0, .int .i64 2, .int .i64 40, .int .i64 1] 28
  rw [hW3]
  have hsl3 : Sl 2 rCount (fun _ => True) W3 (.slice (some ⟨w2.heap.size, 0, none⟩) 2 2) [⟨0, 2⟩, ⟨40, 1⟩] := by
    refine Sl_of rfl (by decide) (by decide) (by decide) trivial fun i x hx => ?_
    rcases i with _ | _ | i
    · obtain rfl : (⟨0, 2⟩ : Count) = x := by simpa using hx
      refine ⟨_, rfl, fun j y hj => ?_, ⟨rfl, ⟨by decide, by decide⟩, ⟨by decide, by decide⟩⟩⟩
      have hj7 := (List.getElem?_eq_some_iff.1 hj).1
      refine c3 _ _ ?_
      rcases (show j = 0 ∨ j = 1 by simp at hj7; omega) with rfl | rfl <;> exact hj
    · obtain rfl : (⟨40, 1⟩ : Count) = x := by simpa using hx
      refine ⟨_, rfl, fun j y hj => ?_, ⟨rfl, ⟨by decide, by decide⟩, ⟨by decide, by decide⟩⟩⟩
      have hj7 := (List.getElem?_eq_some_iff.1 hj).1
      refine c3 _ _ ?_
      rcases (show j = 0 ∨ j = 1 by simp at hj7; omega) with rfl | rfl <;> exact hj
    · simp at hx
  refine Calls.mono (same_any _ _ _ _ W3 (fun _ => True) (fun _ => True) (SU'.out.keep rCount_ok (by decide) (kept_of B3)) hsl3 rfl) ?_
  rintro e w4 ⟨rfl, B4⟩
  clear hsl3 c3 f3 hW3
  go_wp2
  go_ret
  exact ⟨rfl, bel_call B12 (bel_call B3 B4)⟩

set_option maxHeartbeats 2000000 in
set_option maxRecDepth 100000 in
theorem walk_statAdd (w : World) (La : List Int) (va : Value) (ha : Sl 7 rAns (fun _ => True) w va La) (Lb : List Int) (vb : Value) (hb : Sl 7 rAns (fun _ => True) w vb Lb) :
    Calls Try.prog 3 #[va, vb] w fun e w' => e = .returned (.bool true) ∧ Below w.heap.size w w' := by
  have HA := Lib.hid ha
  have HB := Lib.hid hb
  obtain ⟨Aa, ca, rfl, hal, hac, han, has⟩ := ha
  obtain ⟨Ab, cb, rfl, hbl, hbc, hbn, hbs⟩ := hb
  unfold maxLen at hac hbc
  by_cases hA40 : 40 < La.length
  · go_enter Try.func3, Try.ntmps3
    go_wp2_with (go_at_call 5; refine Calls.mono (awake_any _) ?_; rintro e w1 ⟨rfl, B1⟩)
    go_ret
    exact ⟨rfl, B1⟩
  by_cases hB40 : 40 < Lb.length
  · go_enter Try.func3, Try.ntmps3
    go_wp2_with (go_at_call 5; refine Calls.mono (awake_any _) ?_; rintro e w1 ⟨rfl, B1⟩)
    go_ret
    exact ⟨rfl, B1⟩
  have dA : decide ((40 : Int) < (La.length : Int)) = false := decide_eq_false (by omega)
  have dB : decide ((40 : Int) < (Lb.length : Int)) = false := decide_eq_false (by omega)
  obtain ⟨iA, hiA, hzA, h1A, h2A⟩ := info_parts (show (Try.prog.info? 39).map (fun i => (i.zero, i.size, i.bytes)) = some (some (.agg #[.int .i64 0, .int .i64 0, .string ⟨#[]⟩, .slice none 0 0, .slice none 0 0, .slice none 0 0, .slice none 0 0]), 7, 128) from by kernel_rfl)
  go_enter Try.func3, Try.ntmps3
  go_wp2_with (first
    | (go_at_call 5; refine Calls.mono (awake_any _) ?_; rintro e w1 ⟨rfl, B1⟩; have hz1 := B1.size)
    | (at_builtin; (refine wpList_grow (R := rAns) _ rfl (.tmp 19) (.tmp 20) 22 rfl 39 iA _ 7 128 Try.underlying22 hiA hzA h1A h2A rfl (by decide) rAns_ok w1.heap.size (by simp) _ ([] : List Int) rfl (Grow.empty (B := fun _ => False) (heap_alloc_new w1 _) (Nat.le_refl _)) _ _ _ rfl La rfl (has.keep rAns_ok (by decide) (kept_free (bel_call B1 ((Below.refl _ _).alloc (Nat.le_refl _) _)) (fun _ h => h.elim) fun b hb => by have := Option.some.inj (show some w1.heap.size = some b from hb); omega)) (by rw [List.length_nil]; omega) (by decide) ?_); intro v2 w2 g2 gg2 go2; obtain ⟨A2, n2, c2, rfl, hn2⟩ := g2.shape'; have G2 := Lib.hid g2; have B2 := Below.grown ((Below.refl _ w1).alloc (Nat.le_refl _) (.cells #[] 39)) gg2 (by simp) (fun b hb => by have := Option.some.inj (show some w1.heap.size = some b from hb); omega); have hz2 := B2.size; clear g2 gg2 go2 hn2)
    | (at_builtin; refine wpList_grow (R := rAns) _ rfl (.tmp 21) (.tmp 22) 22 rfl 39 iA _ 7 128 Try.underlying22 hiA hzA h1A h2A rfl (by decide) rAns_ok w1.heap.size (by omega) _ _ rfl G2.out _ _ _ rfl Lb rfl (hbs.keep rAns_ok (by decide) (kept_free (bel_call B1 B2) (fun _ h => h.elim) fun b hb => by have := (G2.out.base_le b hb).1; omega)) (by rw [List.nil_append]; omega) (by decide) ?_; intro v3 w3 g3 gg3 go3; obtain ⟨A3, n3, c3, rfl, hn3⟩ := g3.shape'; have G3 := Lib.hid g3; have B3 := Below.grown B2 gg3 hz2 (fun b hb => (G2.out.base_le b hb).1); have hz3 := B3.size; clear g3 gg3 go3 hn3))
  have hXl : (La ++ Lb).length ≤ 80 := by rw [List.length_append]; omega
  refine Calls.mono (counts_any (La ++ Lb) (by omega) _ w3 (fun _ => True) (by simpa using Own.sl rAns_ok G3.out)) ?_
  rintro e w4 ⟨⟨u5, R5, rfl, S5, I5⟩, B4⟩
  have hR5l := counts_len I5
  have HN5 := Lib.hid (counts_n I5)
  have HS5 := Lib.hid (nsum_counts I5)
  have I5' := Lib.hid I5
  have S5' := Lib.hid S5
  have BW4 := bel_call (bel_call B1 B3) B4
  have hz4 := BW4.size
  clear I5 hz1 hz2 hz3 B2 G2 G3
  obtain ⟨A5, c5, rfl, h5l, h5c, h5n, h5s⟩ := S5
  unfold maxLen at h5c
  go_wp2
  go_loopw [6, 27] (fun s6 i wr => ∃ (k : Nat) (m : Int), k ≤ R5.length ∧ i = .int .i64 k ∧ s6 = .int .i64 m ∧ Hid (m = nsum (R5.take k)) ∧ Below w4.heap.size w4 wr) (fun _ i _ => R5.length - (RowKit.intOf i).toNat)
  case atStart => exact ⟨0, 0, by omega, by go_num, by first | rfl | go_num, by show _ = _; rfl, by go_grown⟩
  case round =>
    obtain ⟨k, m, hk, rfl, rfl, HM, hbel⟩ := hrel
    have hzb := hbel.size
    by_cases hlt : k < R5.length
    · obtain ⟨x, b, o, hx, _, hxm, rfl, hb, _, x0, x1, _, hn1, hn2⟩ := get_Count h5s hlt (kept_of hbel)
      have HT := Lib.hid (show nsum (R5.take (k + 1)) = nsum (R5.take k) + x.n by rw [List.take_add_one, hx]; exact nsum_snoc _ _)
      have hmb : 0 ≤ m ∧ m ≤ 8000 := by
        have h1 := nsum_le (R5.take k) fun c hc => by have := HN5.out c (List.mem_of_mem_take hc); omega
        have h2 : (R5.take k).length ≤ 80 := by rw [List.length_take]; omega
        rw [HM.out]
        omega
      have hxn := HN5.out x hxm
      have hwr : IntKind.i64.wrap (m + x.n) = m + x.n := IntWalk.i64_in _ (by omega)
      clear hx hxm
      go_wp2
      go_roundw
      case rel => exact ⟨k + 1, m + x.n, by omega, by go_num, by first | rfl | go_num, by show _ = _; rw [HT.out, HM.out], by go_grown⟩
      case measure => simp [RowKit.intOf]; omega
    · obtain rfl : k = R5.length := by omega
      have hmX : m = (La.length : Int) + Lb.length := by
        have := HM.out
        rw [List.take_length, HS5.out, List.length_append] at this
        omega
      subst hmX
      have BW := bel_call BW4 hbel
      have hwl : IntKind.i64.wrap ((La.length : Int) + Lb.length) = (La.length : Int) + Lb.length := IntWalk.i64_in _ (by omega)
      go_wp2_with fail
      refine Calls.mono (counts_any La (by omega) _ wr (fun _ => True) (HA.out.keep rAns_ok (by decide) (kept_of BW))) ?_
      rintro e wA ⟨⟨ua, Ra, rfl, SA, IA⟩, BA⟩
      have SA' := Lib.hid SA
      have IA' := Lib.hid IA
      have BWA := bel_call BW BA
      clear SA IA
      go_wp2_with fail
      refine Calls.mono (counts_any Lb (by omega) _ wA (fun _ => True) (HB.out.keep rAns_ok (by decide) (kept_of BWA))) ?_
      rintro e wB ⟨⟨ub, Rb, rfl, SB, IB⟩, BB⟩
      have SB' := Lib.hid SB
      have IB' := Lib.hid IB
      have BWB := bel_call BWA BB
      clear SB IB
      have la1 := counts_len IA'.out
      have lb1 := counts_len IB'.out
      have na1 := Lib.hid (counts_n IA'.out)
      have nb1 := Lib.hid (counts_n IB'.out)
      go_wp2_with fail
      refine Calls.mono (add_any Ra Rb (by omega) (by omega) (fun c hc => by
        rcases List.mem_append.1 hc with hc | hc
        · have := na1.out c hc; omega
        · have := nb1.out c hc; omega) _ _ wB (fun _ => True) (fun _ => True) (SA'.out.keep rCount_ok (by decide) (kept_of BB)) SB'.out) ?_
      rintro e wC ⟨⟨uc, Rc, rfl, SC, IC⟩, BC⟩
      have eC : R5 = Rc := together (fun e => cnt_append La Lb e) (fun e => List.mem_append) I5'.out IA'.out IB'.out IC
      have BWC := bel_call BWB BC
      have S5C := S5'.out.keep rCount_ok (by decide) (kept_of (S := fun _ => True) (bel_call hbel (bel_call BA (bel_call BB BC))))
      have SC' := Lib.hid SC
      have S5C' := Lib.hid S5C
      have EC := Lib.hid eC
      clear SC IC S5C eC
      go_wp2_with fail
      refine Calls.mono (same_any R5 Rc _ _ wC (fun _ => True) (fun _ => True) S5C'.out SC'.out EC.out) ?_
      rintro e wD ⟨rfl, BD⟩
      have BWD := bel_call BWC BD
      clear SC' S5C' EC
      go_wp2_with fail
      refine Calls.mono (counts_any Lb (by omega) _ wD (fun _ => True) (HB.out.keep rAns_ok (by decide) (kept_of BWD))) ?_
      rintro e wE ⟨⟨ue, Re, rfl, SE, IE⟩, BE⟩
      have SE' := Lib.hid SE
      have IE' := Lib.hid IE
      have BWE := bel_call BWD BE
      clear SE IE
      go_wp2_with fail
      refine Calls.mono (counts_any La (by omega) _ wE (fun _ => True) (HA.out.keep rAns_ok (by decide) (kept_of BWE))) ?_
      rintro e wF ⟨⟨uf, Rf, rfl, SF, IF⟩, BF⟩
      have SF' := Lib.hid SF
      have IF' := Lib.hid IF
      have BWF := bel_call BWE BF
      clear SF IF
      have le1 := counts_len IE'.out
      have lf1 := counts_len IF'.out
      have ne1 := Lib.hid (counts_n IE'.out)
      have nf1 := Lib.hid (counts_n IF'.out)
      go_wp2_with fail
      refine Calls.mono (add_any Re Rf (by omega) (by omega) (fun c hc => by
        rcases List.mem_append.1 hc with hc | hc
        · have := ne1.out c hc; omega
        · have := nf1.out c hc; omega) _ _ wF (fun _ => True) (fun _ => True) (SE'.out.keep rCount_ok (by decide) (kept_of BF)) SF'.out) ?_
      rintro e wG ⟨⟨ug, Rg, rfl, SG, IG⟩, BG⟩
      have eG : R5 = Rg := together (fun e => by rw [cnt_append La Lb e]; omega) (fun e => by rw [List.mem_append]; exact Or.comm) I5'.out IE'.out IF'.out IG
      have BWG := bel_call BWF BG
      have S5G := S5'.out.keep rCount_ok (by decide) (kept_of (S := fun _ => True) (bel_call hbel (bel_call BA (bel_call BB (bel_call BC (bel_call BD (bel_call BE (bel_call BF BG))))))))
      have SG' := Lib.hid SG
      have S5G' := Lib.hid S5G
      have EG := Lib.hid eG
      clear SG IG S5G eG
      go_wp2_with fail
      refine Calls.mono (same_any R5 Rg _ _ wG (fun _ => True) (fun _ => True) S5G'.out SG'.out EG.out) ?_
      rintro e wH ⟨rfl, BH⟩
      have BWH := bel_call BWG BH
      clear SG' S5G' EG
      go_wp2
      go_ret
      exact ⟨rfl, BWH⟩

set_option maxRecDepth 100000 in
theorem lifted_statAdd (os : Os) (started : os.Started) (H : Type) (enc : TypeId × Value → H) :
    ReturnsInHanded {} Try.checked os 3 .any (Rows.statAddSpec.pre6 enc Try.prog Try.f3 Rows.statAddRow.domain false) (Rows.statAddSpec.post enc Try.prog Try.f3 false true false false) := by
  refine returnsInHanded_of_change_sized (C := Try.checked) law_own started (by kernel_rfl) Try.func3
    (ChangeSpec.witness6 (enc := enc) (C := Try.checked) false ⟨#[], #[.slice none 0 0, .slice none 0 0], []⟩ 8 (by kernel_rfl) (by kernel_rfl) (by kernel_rfl) (by kernel_rfl)) ?_
  intro W base args ds gs before hval0 hW hcnd hsz0 _
  have hval : ∀ (j : Nat) t v, Try.f3.params[j]? = some t → args[j]? = some v → Value.okWide Try.prog W .any base t v := hval0
  have hW' := hW
  obtain ⟨p, q, hA0, hV, rfl, hfz, hnd⟩ := hW
  have hA : DataW.TrodAll enc Try.prog W 0 (fun _ => true) true Try.f3.params.toList args.toList ds p := hA0
  rw [Try.params3] at hA hval
  obtain ⟨v0, vs0, d0, ds0, p0, q0, hargs, rfl, rfl, h0, r0⟩ := trodAll_cons hA
  obtain ⟨v1, vs1, d1, ds1, p1, q1, rfl, rfl, rfl, h1, r1⟩ := trodAll_cons r0
  obtain ⟨rfl, rfl, rfl⟩ := trodAll_nil r1
  obtain rfl : args = #[v0, v1] := by cases args; simp_all
  obtain ⟨rfl, rfl⟩ := trodVars_none hV
  clear hargs
  obtain ⟨fu0, hf0⟩ := h0
  obtain ⟨a0, hx0⟩ := rdv_sl Try.underlying22 (rd_slice Try.underlying22 (by kernel_rfl) (of_decide_eq_true (by kernel_rfl)) (by decide) rdAns (rAns_ok).len) (hval 0 22 v0 rfl rfl) hf0 (fun q hq => by simpa using List.all_eq_true.1 hsz0 q (DataW.weights_mem_each (j := 0) rfl rfl q hq))
  obtain ⟨fu1, hf1⟩ := h1
  obtain ⟨a1, hx1⟩ := rdv_sl Try.underlying22 (rd_slice Try.underlying22 (by kernel_rfl) (of_decide_eq_true (by kernel_rfl)) (by decide) rdAns (rAns_ok).len) (hval 1 22 v1 rfl rfl) hf1 (fun q hq => by simpa using List.all_eq_true.1 hsz0 q (DataW.weights_mem_each (j := 1) rfl rfl q hq))
  refine (walk_statAdd W a0 _ hx0 a1 _ hx1).mono fun e W' ⟨he, hg⟩ => ?_
  subst he
  exact ⟨_, rfl, law_post hW' rfl rfl rfl Try.underlying4 law_laid (by kernel_rfl) hg⟩

theorem statAdd_holds : Rows.StatAddSaid :=
  OpenClaim.holds_of_wide 3 Try.f3 rfl rfl rfl rfl rfl rfl rfl ⟨rfl, rfl, rfl, rfl, rfl⟩ rfl rfl rfl rfl rfl (by kernel_rfl) Try.func3 (by kernel_rfl)
    (of_decide_eq_true (by kernel_rfl)) (by unfold Func.isWrapper; first | (rw [if_pos (by decide +kernel)]; kernel_rfl) | (rw [if_neg (by decide +kernel)]; exact ⟨rfl, rfl⟩))
    (fun os started H enc _ => lifted_statAdd os started H enc)
end Go.Proofs.Ytmkgiaheeebbbaa
