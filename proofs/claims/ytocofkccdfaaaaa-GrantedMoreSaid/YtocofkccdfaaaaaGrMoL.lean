/- GrantedMore: for every input the law returns true and leaves its arguments as they were. No condition. -/
import Derived.Test.YtocofkccdfaaaaaGrMo
import Derived.Test.YtocofkccdfaaaaaArgs
import Derived.Test.YtocofkccdfaaaaaLaw
namespace Go.Proofs.Ytocofkccdfaaaaa
open Go.ChangeShapes Go.WideShapes Go.ChangeAt Go.RowKit Go.Deep

/-- A struct's parts, each read by itself. -/
theorem rd_parts {P : Program} {w : World} {t : TypeId} {fs : Array Go.Field} (ht : P.underlying t = some (.struct fs))
    {H : Type} {enc : TypeId × Value → H} {base : Nat} {spare : Nat → Bool} {held : Bool} {fuel : Nat} {cs : List Value} {x : DataW H × List MemPlace}
    (h : DataW.trod enc P w base spare held fuel t cs = some x) (hz : Sized P t x.1) :
    cs.length = P.cellsOf t ∧ ∃ n, ∀ (j : Nat) (f : Go.Field), fs[j]? = some f → ∃ y, DataW.trod enc P w base spare held n f.type ((cs.drop f.offset).take (P.cellsOf f.type)) = some y ∧ Sized P f.type y.1 := by
  obtain ⟨xs, n, _, hx, hl, hxl, hf⟩ := DataW.trod_struct ht h
  subst hx
  refine ⟨hl, n, fun j f hj => ?_⟩
  have hjl : j < fs.size := (Array.getElem?_eq_some_iff.1 hj).1
  have h1 := hf j f hj
  rw [List.getElem?_eq_getElem (by omega)] at h1
  refine ⟨_, h1, fun m hm => hz m ?_⟩
  simp only [DataW.weights, ht]
  exact DataW.weights_mem_each (j := j) (t := f.type) (by simp [hj]) (by simp [List.getElem?_eq_getElem (show j < xs.length by omega)]) m hm
def rMore : Rp (Wrap × Link × Pair) := fun S w cs m => ∃ c1 c2 c3, cs = c1 ++ (c2 ++ c3) ∧ rWrap S w c1 m.1 ∧ rLink S w c2 m.2.1 ∧ rPair S w c3 m.2.2
set_option maxRecDepth 100000 in
theorem rdMore {w : World} : Rd Try.prog w 34 rMore := by
  intro H enc base spare held fuel cs x h hz
  obtain ⟨hl, n, hf⟩ := rd_parts Try.underlying34 h hz
  rw [show Try.prog.cellsOf 34 = 8 from by kernel_rfl] at hl
  match cs, hl with
  | [c0, c1, c2, c3, c4, c5, c6, c7], _ =>
    obtain ⟨y0, t0, z0⟩ := hf 0 _ rfl
    obtain ⟨y1, t1, z1⟩ := hf 1 _ rfl
    obtain ⟨y2, t2, z2⟩ := hf 2 _ rfl
    change DataW.trod enc _ w base spare held n 28 (List.take (Try.prog.cellsOf 28) (List.drop 0 [c0, c1, c2, c3, c4, c5, c6, c7])) = some y0 at t0
    rw [show Try.prog.cellsOf 28 = 3 from by kernel_rfl] at t0
    change DataW.trod enc _ w base spare held n 30 (List.take (Try.prog.cellsOf 30) (List.drop 3 [c0, c1, c2, c3, c4, c5, c6, c7])) = some y1 at t1
    rw [show Try.prog.cellsOf 30 = 3 from by kernel_rfl] at t1
    change DataW.trod enc _ w base spare held n 32 (List.take (Try.prog.cellsOf 32) (List.drop 6 [c0, c1, c2, c3, c4, c5, c6, c7])) = some y2 at t2
    rw [show Try.prog.cellsOf 32 = 2 from by kernel_rfl] at t2
    obtain ⟨a0, r0⟩ := rdWrap t0 z0
    obtain ⟨a1, r1⟩ := rdLink t1 z1
    obtain ⟨a2, r2⟩ := rdPair t2 z2
    exact ⟨(a0, a1, a2), _, _, _, rfl, r0, r1, r2⟩
theorem walk_grantedMoreL (w : World) (st : State) (cs : List Value) (h : rState (fun _ => True) w cs st) (name : Nm) (wn : name.size ≤ 140737488355328) (m : Wrap × Link × Pair) (cm : List Value) (hm : rMore (fun _ => True) w cm m) :
    Calls Try.prog 3 #[.agg cs.toArray, .string name, .agg cm.toArray] w fun e w' => e = .returned (.bool true) ∧ Below w.heap.size w w' := by
  obtain ⟨c1, c2, c3, rfl, ⟨rfl, h1, h2⟩, ⟨rfl, h3, h4, h5⟩, ⟨rfl, h6, h7⟩⟩ := hm
  exact walk_grantedMore w st cs h name wn m.1 m.2.1 m.2.2 h1 h2 h3 h4 h5 h6 h7

set_option maxRecDepth 100000 in
theorem lifted_grantedMore (os : Os) (started : os.Started) (H : Type) (enc : TypeId × Value → H) :
    ReturnsInHanded {} Try.checked os 3 .any (Rows.grantedMoreSpec.pre6 enc Try.prog Try.f3 Rows.grantedMoreRow.domain false) (Rows.grantedMoreSpec.post enc Try.prog Try.f3 false true false false) := by
  refine returnsInHanded_of_change_sized (C := Try.checked) law_own started (by kernel_rfl) Try.func3
    (ChangeSpec.witness6 (enc := enc) (C := Try.checked) false ⟨#[], #[.agg #[.int .i64 0, .slice none 0 0, .slice none 0 0, .slice none 0 0], .string ⟨#[]⟩, .agg #[.string ⟨#[]⟩, .int .i64 0, .bool false, .int .i64 0, .string ⟨#[]⟩, .int .i64 0, .string ⟨#[]⟩, .string ⟨#[]⟩]], []⟩ 8 (by kernel_rfl) (by kernel_rfl) (by kernel_rfl) (by kernel_rfl)) ?_
  intro W base args ds gs before hval0 hW hcnd hsz0 _
  have hval : ∀ (j : Nat) t v, Try.f3.params[j]? = some t → args[j]? = some v → Value.okWide Try.prog W .any base t v := hval0
  have hW' := hW
  obtain ⟨p, q, hA0, hV, rfl, hfz, hnd⟩ := hW
  have hA : DataW.TrodAll enc Try.prog W 0 (fun _ => true) true Try.f3.params.toList args.toList ds p := hA0
  rw [Try.params3] at hA hval
  obtain ⟨v0, vs0, d0, ds0, p0, q0, hargs, rfl, rfl, h0, r0⟩ := trodAll_cons hA
  obtain ⟨v1, vs1, d1, ds1, p1, q1, rfl, rfl, rfl, h1, r1⟩ := trodAll_cons r0
  obtain ⟨v2, vs2, d2, ds2, p2, q2, rfl, rfl, rfl, h2, r2⟩ := trodAll_cons r1
  obtain ⟨rfl, rfl, rfl⟩ := trodAll_nil r2
  obtain rfl : args = #[v0, v1, v2] := by cases args; simp_all
  obtain ⟨rfl, rfl⟩ := trodVars_none hV
  clear hargs
  obtain ⟨cs0, rfl, _⟩ := okWide_struct Try.underlying26 (hval 0 26 v0 rfl rfl)
  obtain ⟨fu0, hf0⟩ := h0
  obtain ⟨a0, hx0⟩ := rdState hf0 (fun q hq => by simpa using List.all_eq_true.1 hsz0 q (DataW.weights_mem_each (j := 0) rfl rfl q hq))
  obtain ⟨l0, rfl⟩ : ∃ l : List Value, cs0 = l.toArray := ⟨cs0.toList, by simp⟩
  rw [show (Value.agg l0.toArray).cells.toList = l0 from by simp [Value.cells]] at hx0
  obtain ⟨fu1, hf1⟩ := h1
  obtain ⟨a1, rfl, w1⟩ := rdv_str Try.underlying9 (hval 1 9 v1 rfl rfl) hf1 (fun q hq => by simpa using List.all_eq_true.1 hsz0 q (DataW.weights_mem_each (j := 1) rfl rfl q hq))
  obtain ⟨cs2, rfl, _⟩ := okWide_struct Try.underlying34 (hval 2 34 v2 rfl rfl)
  obtain ⟨fu2, hf2⟩ := h2
  obtain ⟨a2, hx2⟩ := rdMore hf2 (fun q hq => by simpa using List.all_eq_true.1 hsz0 q (DataW.weights_mem_each (j := 2) rfl rfl q hq))
  obtain ⟨l2, rfl⟩ : ∃ l : List Value, cs2 = l.toArray := ⟨cs2.toList, by simp⟩
  rw [show (Value.agg l2.toArray).cells.toList = l2 from by simp [Value.cells]] at hx2
  refine (walk_grantedMoreL W a0 _ hx0 a1 w1 a2 _ hx2).mono fun e W' ⟨he, hg⟩ => ?_
  subst he
  exact ⟨_, rfl, law_post hW' rfl rfl rfl Try.underlying4 law_laid (by kernel_rfl) hg⟩

theorem grantedMore_holds : Rows.GrantedMoreSaid :=
  OpenClaim.holds_of_wide 3 Try.f3 rfl rfl rfl rfl rfl rfl rfl ⟨rfl, rfl, rfl, rfl, rfl⟩ rfl rfl rfl rfl rfl (by kernel_rfl) Try.func3 (by kernel_rfl)
    (of_decide_eq_true (by kernel_rfl)) (by unfold Func.isWrapper; first | (rw [if_pos (by decide +kernel)]; kernel_rfl) | (rw [if_neg (by decide +kernel)]; exact ⟨rfl, rfl⟩))
    (fun os started H enc _ => lifted_grantedMore os started H enc)
end Go.Proofs.Ytocofkccdfaaaaa
