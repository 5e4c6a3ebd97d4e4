/- ShowHistory: for every input the law returns true and leaves its argument as it was; the tables that its row lists are tied to the program's text. No condition. -/
import Derived.Test.YtkndlhlhcpppgaaDoorHiC
import Derived.Test.YtkndlhlhcpppgaaDoorLaw
import Derived.Test.YtkndlhlhcpppgaaDoorArgs
import Derived.Test.YtkndlhlhcpppgaaDoorCards
import Derived.Test.YtkndlhlhcpppgaaDoorTie
import Derived.LaidMore
import Derived.Lay
import Derived.SevenTiedAt
import Derived.Stop.Joined
namespace Go.Proofs.YtkndlhlhcpppgaaDoor
open Go.ChangeShapes Go.WideShapes Go.ChangeAt Go.RowKit Go.Deep

theorem pow_of {W : World} (hL : laidMetH Tryd.prog Rows.showHistoryRow.laid W) : Pow W := by
  rw [MakeChecks.laidMetH_plain _ _ _ (by kernel_rfl)] at hL
  obtain ⟨ps, ⟨_, _, _, _, _, _, _, _, _, _, ⟨_, _, _, _, _, _, _, _, _, _, ⟨g', t', cs, fuel, p, q, hg', ht', hvar, hd, _, _⟩, _⟩, _⟩, _⟩ := hL
  obtain rfl := Option.some.inj ((show (Tryd.prog.globals[g']?).map (·.type) = some 92 from by
    have h1 : Tryd.prog.globalNamed powName = some g' := hg'
    have h2 : (Tryd.prog.globalNamed powName).bind (fun g => (Tryd.prog.globals[g]?).map (·.type)) = some 92 := by kernel_rfl
    rw [h1] at h2
    exact h2).symm.trans ht')
  have hd' : DataW.trod _ Tryd.prog W _ _ _ fuel 92 cs.toList = some (Lib.tabData .u64 Lib.pow10Tab, p) := hd
  show W.var? Tryd.prog _ = _
  have hv : W.var? Tryd.prog powName = some cs := hvar
  rw [hv, ← Lib.cells_of_tab Tryd.underlying92 Tryd.underlying68 (by kernel_rfl) (by kernel_rfl) hd']

set_option maxHeartbeats 2000000 in
theorem walk_showHistory (w : World) (l : List Past) (v : Value) (h : Sl 4 rPast (fun _ => True) w v l) (hp : Pow w) :
    Calls Tryd.prog 4 #[v] w fun e w' => e = .returned (.bool true) ∧ Below w.heap.size w w' := by
  have H := Lib.hid h
  have HP := Lib.hid hp
  clear hp
  obtain ⟨A, cp, rfl, hl, hcp, hn, hs⟩ := h
  unfold maxLen at hcp
  by_cases h20 : l.length ≤ 20
  · go_enter Tryd.func4, Tryd.ntmps4
    go_wp2_with (go_at_call 5; refine Calls.mono (awake_any _) ?_; rintro e w1 ⟨rfl, B1⟩)
    have hz1 := B1.size
    go_loopw [12] (fun i wr => ∃ k : Nat, k ≤ l.length ∧ i = .int .i64 k ∧ Hid (∀ p ∈ l.take k, I64 p.number ∧ I64 p.epoch ∧ p.who.size ≤ 20) ∧ Below w.heap.size w wr) (fun i _ => l.length - (intOf i).toNat)
    case atStart => exact ⟨0, by omega, by go_num, fun p hp => by simp at hp, B1⟩
    case round =>
      obtain ⟨k, hk, rfl, HI, hbel⟩ := hrel
      have hzb := hbel.size
      by_cases hlt : k < l.length
      · obtain ⟨x, b, o, hx, _, hm, rfl, hb, _, x0, x1, x2, x3, _, hn1, hn2, hz⟩ := get_Past hs hlt (kept_of hbel)
        by_cases hw20 : x.who.size ≤ 20
        · have HI2 : Hid (∀ p ∈ l.take (k + 1), I64 p.number ∧ I64 p.epoch ∧ p.who.size ≤ 20) := fun p hp => by
            rw [List.take_add_one, hx] at hp
            rcases List.mem_append.1 hp with hp | hp
            · exact HI.out p hp
            · obtain rfl : p = x := by simpa using hp
              exact ⟨hn1, hn2, hw20⟩
          clear hx hm
          go_wp2
          go_roundw
          case rel => exact ⟨k + 1, by omega, by go_num, HI2, by go_grown⟩
          case measure => simp [intOf]; omega
        · clear hx hm
          go_wp2
          go_ret
          exact ⟨rfl, by go_grown⟩
      · obtain rfl : k = l.length := by omega
        have hall : ∀ p ∈ l, I64 p.number ∧ I64 p.epoch ∧ p.who.size ≤ 20 := by
          have := HI.out
          rw [List.take_length] at this
          exact this
        have ch := history_any l h20 hall _ wr (fun _ => True) (H.out.keep rPast_ok (by decide) (kept_of hbel)) (HP.out.below hbel)
        have cr := fun W (hW : Below wr.heap.size wr W) => refhistory_any l h20 hall _ W (fun _ => True) (H.out.keep rPast_ok (by decide) (kept_of (bel_call hbel hW)))
        have CH := Lib.hid ch
        have CR := Lib.hid cr
        clear hall ch cr
        go_wp2_with (first
          | (go_at_call 12; refine Calls.mono CH.out ?_; rintro e w3 ⟨⟨u, rfl, SU⟩, B3⟩; have SU' := Lib.hid SU; clear SU)
          | (go_at_call 13; refine Calls.mono (CR.out _ B3) ?_; rintro e w4 ⟨⟨u2, rfl, SU2⟩, B4⟩; have B4' := bel_call B3 B4; have SU2' := Lib.hid SU2; clear SU2)
          | (go_at_call 8; refine Calls.mono (same_any _ _ _ _ _ (fun _ => True) (fun _ => True) (SU'.out.keep rStr_ok (by decide) (kept_of B4)) SU2'.out) ?_; rw [decide_eq_true rfl]; rintro e w5 ⟨rfl, B5⟩; have B5' := bel_call hbel (bel_call B4' B5)))
        go_ret
        exact ⟨rfl, B5'⟩
  · go_enter Tryd.func4, Tryd.ntmps4
    go_wp2_with (go_at_call 5; refine Calls.mono (awake_any _) ?_; rintro e w1 ⟨rfl, B1⟩)
    go_ret
    exact ⟨rfl, B1⟩

set_option maxRecDepth 100000 in
theorem lifted_showHistory (os : Os) (started : os.Started) (H : Type) (enc : TypeId × Value → H) :
    ReturnsInHanded {} Tryd.checked os 4 .any (fun w args => (Rows.showHistorySpec.pre enc Tryd.prog Tryd.f4 Rows.showHistoryRow.domain false w args ∧ laidMetH Tryd.prog Rows.showHistoryRow.laid w) ∧ sizedMet enc Tryd.prog Tryd.f4 (OpenSpec.ofChange Rows.showHistorySpec) false w args) (Rows.showHistorySpec.post enc Tryd.prog Tryd.f4 false true false false) := by
  refine returnsInHanded_of_change_and (C := Tryd.checked) (X := fun w _ => laidMetH Tryd.prog Rows.showHistoryRow.laid w) (fun _ _ _ hh h => h.of_heap hh) law_own started (by kernel_rfl) Tryd.func4
    (ChangeSpec.witness_shaped (enc := enc) (C := Tryd.checked) (os := os) (X := fun w _ => laidMetH Tryd.prog Rows.showHistoryRow.laid w) false (World.laidAll Tryd.prog os Rows.showHistoryRow.laid) #[.slice none 0 0] 8 (World.laidAll_os _ _ _)
      (World.shaped_of_ZipB (by kernel_rfl) (by kernel_rfl)) (by kernel_rfl) (by kernel_rfl) (by kernel_rfl)
      (by rw [MakeChecks.laidMetH_plain _ _ _ (by kernel_rfl)]; exact laidMet_laidAll _ (by kernel_rfl) (by kernel_rfl))) ?_
  intro W base args ds gs before hval0 hW hcnd hsz0 hL _
  have hval : ∀ (j : Nat) t v, Tryd.f4.params[j]? = some t → args[j]? = some v → Value.okWide Tryd.prog W .any base t v := hval0
  have hW' := hW
  obtain ⟨p, q, hA0, hV, rfl, hfz, hnd⟩ := hW
  have hA : DataW.TrodAll enc Tryd.prog W 0 (fun _ => true) true Tryd.f4.params.toList args.toList ds p := hA0
  rw [Tryd.params4] at hA hval
  obtain ⟨v0, vs0, d0, ds0, p0, q0, hargs, rfl, rfl, h0, r0⟩ := trodAll_cons hA
  obtain ⟨rfl, rfl, rfl⟩ := trodAll_nil r0
  obtain rfl : args = #[v0] := by cases args; simp_all
  obtain ⟨rfl, rfl⟩ := trodVars_none hV
  clear hargs
  obtain ⟨fu0, hf0⟩ := h0
  obtain ⟨a0, hx0⟩ := rdv_sl Tryd.underlying30 (rd_slice Tryd.underlying30 (by kernel_rfl) (of_decide_eq_true (by kernel_rfl)) (by decide) rdPast (rPast_ok).len) (hval 0 30 v0 rfl rfl) hf0 (fun q hq => by simpa using List.all_eq_true.1 hsz0 q (DataW.weights_mem_each (j := 0) rfl rfl q hq))
  refine (walk_showHistory W a0 _ hx0 (pow_of hL)).mono fun e W' ⟨he, hg⟩ => ?_
  subst he
  exact ⟨_, rfl, law_post hW' rfl rfl rfl Tryd.underlying4 law_laid (by kernel_rfl) hg⟩

theorem showHistory_row_holds : Rows.ShowHistorySaid :=
  OpenClaim.holds_of_wide 4 Tryd.f4 rfl rfl rfl rfl rfl rfl rfl ⟨rfl, rfl, rfl, rfl, rfl⟩ rfl rfl rfl rfl rfl (by kernel_rfl) Tryd.func4 (by kernel_rfl)
    (of_decide_eq_true (by kernel_rfl)) (by unfold Func.isWrapper; first | (rw [if_pos (by decide +kernel)]; kernel_rfl) | (rw [if_neg (by decide +kernel)]; exact ⟨rfl, rfl⟩))
    (fun os started H enc _ => lifted_showHistory os started H enc)
theorem showHistory_holds : Rows.ShowHistoryCardSaid :=
  Claim7.holds_tied_plain_at .later [] [.data, .data, .data, .data, .pinned] true (true, "eb6c9155a630e0490960f95932e49c78addc0211aee0c373658149258c9f530a") false showHistory_row_holds (fun _ h => by cases h) (by kernel_rfl) (fun _ h => by cases h) showHistory_row_tie rfl ⟨rfl, rfl⟩ (by kernel_rfl) rfl
    (fun f fn hf hfn => by
      obtain rfl : f = 4 := Option.some.inj ((show Tryd.prog.funcNamed Rows.showHistoryRow.func = some 4 by kernel_rfl).symm.trans hf) |>.symm
      obtain rfl : fn = Tryd.f4 := (Option.some.inj (Tryd.func4.symm.trans hfn)).symm
      exact ⟨by kernel_rfl, fun j t ht => by
        rw [Tryd.params4] at ht
        have hm : t ∈ [30] := by simpa using Array.mem_of_getElem? ht
        have hall : ([30].all fun u => !Tryd.prog.wantsStandIn u) = true := by kernel_rfl
        exact (show Tryd.prog.wantsStandIn t = false by simpa using List.all_eq_true.1 hall t hm)⟩)
    (by kernel_rfl)
end Go.Proofs.YtkndlhlhcpppgaaDoor
