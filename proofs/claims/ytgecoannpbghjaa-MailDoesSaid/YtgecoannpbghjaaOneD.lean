/- Layer mail: what is done to the boxes, whatever it is. Condition: the state. -/
import Derived.Test.YtgecoannpbghjaaOneB
import Derived.Test.YtgecoannpbghjaaOneC
namespace Go.Proofs.Ytgecoannpbghjaa
open Go.RowKit Go.Deep Go.Conc

theorem one_any {w0 w : World} {pb pw : Nat} (h : After w0 pb pw w) (d : IDo) (hv : I64 d.v) (cb cw : Nat) (hcb : 3 ≤ cb) (hcw : 3 ≤ cw) :
    Calls Try.prog 16 #[.slice (some ⟨pb, 0, none⟩) 3 cb, .slice (some ⟨pw, 0, none⟩) 3 cw, .agg #[.int .i64 d.kind, .int .i64 d.a, .int .i64 d.b, .int .i64 d.v]] w fun e w' => e = .returned (.bool true) ∧ After w0 pb pw w' := by
  obtain ⟨ab, h, h3, he⟩ := h
  rcases h1 : (d.kind == 1) with _ | _
  · rcases h2 : (d.kind == 2) with _ | _
    · rcases h4 : (d.kind == 3) with _ | _
      · rcases h5 : (d.kind == 4) with _ | _
        · exact one_first h h3 he d hv cb cw hcb hcw h1 h2 h4 h5
        · exact one_drain h h3 he d hv cb cw hcb hcw h1 h2 h4 h5
      · exact one_move h h3 he d hv cb cw hcb hcw h1 h2 h4
    · exact one_take h h3 he d hv cb cw hcb hcw h1 h2
  · exact one_put h h3 he d hv cb cw hcb hcw h1
end Go.Proofs.Ytgecoannpbghjaa
