/- ShowEach, second form: for every input that holds together at most 1048576 values and letters the law returns true and leaves its argument as it was; the tables that its row lists are tied to the program's text. Condition: that bound. -/
import Derived.Test.YtkapaafbnbnpjaaGreatDoorSeLaw
import Derived.Test.YtkapaafbnbnpjaaGreatDoorSeBulk
import Derived.Test.YtkapaafbnbnpjaaGreatDoorLaw
import Derived.Test.YtkapaafbnbnpjaaGreatDoorArgs
import Derived.Test.YtkapaafbnbnpjaaGreatDoorCards
import Derived.Test.YtkapaafbnbnpjaaGreatDoorTie
import Derived.LaidMore
import Derived.Lay
import Derived.SevenTiedAt
import Derived.Stop.Joined
import Derived.Deep.DeepHandedRow
namespace Go.Proofs.YtkapaafbnbnpjaaGreatDoor
open Go.ChangeShapes Go.WideShapes Go.ChangeAt Go.RowKit Go.Deep

theorem pow_of {W : World} (hL : laidMetH Tryz.prog Rows.showEachUptoRow.laid W) : Pow W := by
  rw [MakeChecks.laidMetH_plain _ _ _ (by kernel_rfl)] at hL
  obtain ⟨ps, ⟨_, _, _, _, _, _, _, _, _, _, ⟨_, _, _, _, _, _, _, _, _, _, ⟨g', t', cs, fuel, p, q, hg', ht', hvar, hd, _, _⟩, _⟩, _⟩, _⟩ := hL
  obtain rfl := Option.some.inj ((show (Tryz.prog.globals[g']?).map (·.type) = some 163 from by
    have h1 : Tryz.prog.globalNamed powName = some g' := hg'
    have h2 : (Tryz.prog.globalNamed powName).bind (fun g => (Tryz.prog.globals[g]?).map (·.type)) = some 163 := by kernel_rfl
    rw [h1] at h2
    exact h2).symm.trans ht')
  have hd' : DataW.trod _ Tryz.prog W _ _ _ fuel 163 cs.toList = some (Lib.tabData .u64 Lib.pow10Tab, p) := hd
  show W.var? Tryz.prog _ = _
  have hv : W.var? Tryz.prog powName = some cs := hvar
  rw [hv, ← Lib.cells_of_tab Tryz.underlying163 Tryz.underlying120 (by kernel_rfl) (by kernel_rfl) hd']

def witArgs : Array Value := #[.agg #[.int .i64 0, .slice none 0 0, .slice none 0 0, .slice none 0 0]]
theorem wit_reads (os : Os) {H : Type} (enc : TypeId × Value → H) : ∃ places, DataW.whole enc Tryz.prog ((World.laidAll Tryz.prog os Rows.showEachUptoRow.laid).forCall (fun _ _ => 0) ⟨#[], witArgs, []⟩).memory Tryz.f3.params.toList Rows.showEachSpec.vars false witArgs.toList 8 = some ([.agg [.lit (.int .i64 0), .nil, .nil, .nil]], [], places) :=
  ⟨[], by kernel_rfl⟩
set_option maxRecDepth 100000 in
theorem lifted_showEach (os : Os) (started : os.Started) (H : Type) (enc : TypeId × Value → H) (F : Stop.Interp) :
    ReturnsInHanded {} Tryz.checked os 3 .any ((Rows.OpenSpec.upto Rows.showEachSpec).preRow enc Tryz.prog Tryz.f3 Rows.showEachUptoRow.domain false Rows.showEachUptoRow.laid) (((Rows.OpenSpec.upto Rows.showEachSpec).at F).post enc Tryz.prog Tryz.f3 false true false false) := by
  obtain ⟨places, hx⟩ := wit_reads os enc
  have hok : Input.okWideB Tryz.prog ((World.laidAll Tryz.prog os Rows.showEachUptoRow.laid).forCall (fun _ _ => 0) ⟨#[], witArgs, []⟩) 3 ⟨#[], witArgs, []⟩ = true := by kernel_rfl
  refine returnsInHanded_of_row (C := Tryz.checked) (s := Rows.OpenSpec.upto Rows.showEachSpec) law_own started (by kernel_rfl) Tryz.func3
    ⟨World.laidAll Tryz.prog os Rows.showEachUptoRow.laid, fun _ _ => 0, ⟨#[], witArgs, []⟩, World.laidAll_os _ _ _, World.shaped_of_ZipB (by kernel_rfl) (by kernel_rfl), (Input.okWide_of_okWideB (base := 0) hok).1, (Input.okWide_of_okWideB hok).2,
      OpenSpec.preRow_of_cond 8 hx (by kernel_rfl) (fun k hk => by cases hk; kernel_rfl) (by kernel_rfl) (by rw [MakeChecks.laidMetH_plain _ _ _ (by kernel_rfl)]; exact laidMet_laidAll _ (by kernel_rfl) (by kernel_rfl)), by
        simp only [Assume.holds]
        exact ⟨by simp, by simp, fun _ => Modest.zero, by simp, by simp⟩⟩ ?_
  intro W base args ds gs before hval0 hW _ hcond hsz0 hL _ _
  have hval : ∀ (j : Nat) t v, Tryz.f3.params[j]? = some t → args[j]? = some v → Value.okWide Tryz.prog W .any base t v := hval0
  have hW' := hW
  obtain ⟨p, q, hA0, hV, rfl, hfz, hnd⟩ := hW
  have hA : DataW.TrodAll enc Tryz.prog W 0 (fun _ => true) true Tryz.f3.params.toList args.toList ds p := hA0
  rw [Tryz.params3] at hA hval
  obtain ⟨v0, vs0, d0, ds0, p0, q0, hargs, rfl, rfl, h0, r0⟩ := trodAll_cons hA
  obtain ⟨rfl, rfl, rfl⟩ := trodAll_nil r0
  obtain rfl : args = #[v0] := by cases args; simp_all
  obtain ⟨rfl, rfl⟩ := trodVars_none hV
  clear hargs
  obtain ⟨cs0, rfl, _⟩ := okWide_struct Tryz.underlying26 (hval 0 26 v0 rfl rfl)
  obtain ⟨fu0, hf0⟩ := h0
  obtain ⟨a0, hx0⟩ := rdState hf0 (fun q hq => by simpa using List.all_eq_true.1 hsz0 q (DataW.weights_mem_each (j := 0) rfl rfl q hq))
  obtain ⟨l0, rfl⟩ : ∃ l : List Value, cs0 = l.toArray := ⟨cs0.toList, by simp⟩
  have hbulk : Rows.uptoBulk d0 ≤ 1048576 := by
    have h := of_decide_eq_true (hcond _ rfl)
    simp only [List.append_nil, Rows.uptoBulkAll] at h
    omega
  have hx1 : rState (fun _ => True) W l0 a0 := by simpa [Value.cells] using hx0
  have hf1 : DataW.trod enc Tryz.prog W 0 (fun _ => true) true fu0 26 l0 = some (d0, p0) := by simpa [Value.cells] using hf0
  refine (walk_showEach W a0 (by_of_bulk hf1 hbulk hx1) _ hx1 (pow_of hL)).mono fun e W' ⟨he, hg⟩ => ?_
  subst he
  exact ⟨_, rfl, law_post hW' rfl rfl rfl Tryz.underlying4 law_laid (by kernel_rfl) hg⟩

theorem showEach_row_holds : Rows.ShowEachUptoSaid :=
  OpenClaim.holds_of_cond 3 Tryz.f3 rfl rfl rfl rfl rfl rfl rfl ⟨rfl, rfl, rfl, rfl, rfl⟩ rfl rfl rfl rfl rfl (by kernel_rfl) Tryz.func3 (by kernel_rfl)
    (of_decide_eq_true (by kernel_rfl)) (by unfold Func.isWrapper; first | (rw [if_pos (by decide +kernel)]; kernel_rfl) | (rw [if_neg (by decide +kernel)]; exact ⟨rfl, rfl⟩))
    (fun os started H enc _ F => by rw [OpenClaim.pre_eq_preRow]; exact lifted_showEach os started H enc F)
theorem showEach_holds : Rows.ShowEachUptoCardSaid :=
  Claim7.holds_tied_plain_at .later [] _ _ _ _ showEach_row_holds (fun _ h => by cases h) (by kernel_rfl) (fun _ h => by cases h) showEachUpto_row_tie rfl ⟨rfl, rfl⟩ (by kernel_rfl) rfl
    (fun f fn hf hfn => by
      obtain rfl : f = 3 := Option.some.inj ((show Tryz.prog.funcNamed Rows.showEachUptoRow.func = some 3 by kernel_rfl).symm.trans hf) |>.symm
      obtain rfl : fn = Tryz.f3 := (Option.some.inj (Tryz.func3.symm.trans hfn)).symm
      exact ⟨by kernel_rfl, fun j t ht => by
        rw [Tryz.params3] at ht
        have hm : t ∈ [26] := by simpa using Array.mem_of_getElem? ht
        have hall : ([26].all fun u => !Tryz.prog.wantsStandIn u) = true := by kernel_rfl
        exact (show Tryz.prog.wantsStandIn t = false by simpa using List.all_eq_true.1 hall t hm)⟩)
    (by kernel_rfl)
end Go.Proofs.YtkapaafbnbnpjaaGreatDoor
