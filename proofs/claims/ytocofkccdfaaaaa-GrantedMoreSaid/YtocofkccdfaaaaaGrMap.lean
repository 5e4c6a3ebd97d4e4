/- Layer lattice at granted's nodes: a node as a map's key; a map that tells where each node stands. Condition: a name is at most a thousand bytes long. -/
import Derived.Test.YtocofkccdfaaaaaGrPlain
import Derived.Test.YtocofkccdfaaaaaRowD
import Derived.Test.YtocofkccdfaaaaaButB
import Derived.Test.YtocofkccdfaaaaaLaw
import Derived.Maps.OwnSet
import Derived.DeepKeys4
namespace Go.Proofs.Ytocofkccdfaaaaa
open Go.RowKit Go.Deep Go.Maps

def vG (x : GN) : Value := .agg #[.bool x.1, .string x.2.1, .int .i64 x.2.2]
def cG (x : GN) : List Value := [.bool x.1, .string x.2.1, .int .i64 x.2.2]
structure OkG (x : GN) : Prop where
  size : x.2.1.size ≤ 1000
  num : I64 x.2.2
def kG (x : GN) : Lit := .string (Go.keyBytes [.bool x.1, .string x.2.1.data.toList, .int .i64 x.2.2])
theorem cG_inj {x y : GN} (h : cG x = cG y) : x = y := by
  obtain ⟨a, b, c⟩ := x
  obtain ⟨a', b', c'⟩ := y
  simpa [cG] using h
theorem vG_inj {x y : GN} (h : vG x = vG y) : x = y := by
  obtain ⟨a, b, c⟩ := x
  obtain ⟨a', b', c'⟩ := y
  simpa [vG] using h
theorem cG_len (x : GN) : (cG x).length = 3 := rfl
theorem cG_one (x : GN) : ∀ u ∈ cG x, u.oneCell' = true := by
  intro u hu
  simp only [cG, List.mem_cons, List.not_mem_nil, or_false] at hu
  rcases hu with rfl | rfl | rfl <;> rfl
theorem isKey_kG (x : GN) : WideAt.IsKeyLit (kG x) := by simp [kG, WideAt.IsKeyLit]
theorem keyNode : Keyed Try.prog 86 := Keyed.of_law (deep_law_laid law_laid (m := 3) (by omega) (of_decide_eq_true (by kernel_rfl)) (by kernel_rfl) (by kernel_rfl))
theorem keyG {x : GN} (h : OkG x) : keyOf Try.prog 86 (vG x) = some (kG x) := by
  obtain ⟨a, b, c⟩ := x
  obtain ⟨h1, h2⟩ := h
  dsimp only at h1 h2
  obtain ⟨d, hd⟩ : ∃ d, Try.prog.types.size + 1 = d + 1 + 1 := ⟨Try.prog.types.size - 1, by have : 0 < Try.prog.types.size := of_decide_eq_true (by kernel_rfl); omega⟩
  have k1 : Try.prog.keyType 86 = true := by kernel_rfl
  have k2 : (vG (a, b, c)).formed Try.prog 86 = true := by
    have : Try.prog.cellsOf 86 = 3 := by kernel_rfl
    simp [Value.formed, Try.underlying86, this, vG]
  have c0 : Try.prog.cellsOf 86 = 3 := by kernel_rfl
  have c1 : Try.prog.cellsOf 4 = 1 := by kernel_rfl
  have c2 : Try.prog.cellsOf 9 = 1 := by kernel_rfl
  have c3 : Try.prog.cellsOf 3 = 1 := by kernel_rfl
  have hs : b.size ≤ maxLen := by unfold maxLen; omega
  unfold keyOf
  rw [Try.underlying86, hd]
  simp only [k1, k2, Bool.and_true, if_true]
  have h3 : IntKind.i64.min ≤ c ∧ c ≤ 9223372036854775807 := h2
  simp [Program.keyLits, Try.underlying86, Try.underlying4, Try.underlying9, Try.underlying3, c0, c1, c2, c3, vG, Value.cells, hs, Lit.wf, kG, h3]
theorem kG_inj {x y : GN} (hx : OkG x) (hy : OkG y) (h : kG x = kG y) : x = y := vG_inj (keyNode.inj (keyG hx) (h ▸ keyG hy))
theorem zeroInt (w : World) : (zeroValue 3).run Try.prog w = .ok (.int .i64 0) w := by kernel_rfl

/-- A map that tells where each node stands. -/
structure Idx (D : DataW Unit) (ns : List GN) : Prop where
  isMap : IsMap D
  ok : ∀ x ∈ ns, OkG x
  has : ∀ x, OkG x → (Maps.has D (kG x) = true ↔ x ∈ ns)
  val : ∀ (i : Nat) x, ns[i]? = some x → ∀ zd, D.atKey (kG x) zd = .lit (.int .i64 i)
theorem Idx.start : Idx (.map []) [] := ⟨isMap_empty, fun x h => (by cases h), fun x _ => (by simp [Maps.has]), fun i x h => (by simp at h)⟩
theorem Idx.put {D : DataW Unit} {ns : List GN} (h : Idx D ns) {x : GN} (hx : OkG x) (hn : x ∉ ns) : Idx (D.put (kG x) (.lit (.int .i64 ns.length))) (ns ++ [x]) := by
  refine ⟨h.isMap.put _ _, fun y hy => ?_, fun y hy => ?_, fun i y hi zd => ?_⟩
  · rcases List.mem_append.1 hy with hy | hy
    · exact h.ok y hy
    · rw [List.mem_singleton.1 hy]; exact hx
  · by_cases e : y = x
    · subst e
      rw [has_put_same h.isMap (isKey_kG _)]
      simp
    · rw [has_put_other fun e2 => e (kG_inj hy hx e2), h.has y hy, List.mem_append, List.mem_singleton]
      exact ⟨.inl, fun h => h.resolve_right e⟩
  · rcases Nat.lt_or_ge i ns.length with hl | hl
    · rw [List.getElem?_append_left hl] at hi
      have hm := List.mem_of_getElem? hi
      rw [atKey_put_other fun e2 => hn (kG_inj (h.ok y hm) hx e2 ▸ hm)]
      exact h.val i y hi zd
    · rw [List.getElem?_append_right hl] at hi
      have hil : i - ns.length = 0 := by have := (List.getElem?_eq_some_iff.1 hi).1; simp at this; omega
      rw [hil] at hi
      obtain rfl : x = y := by simpa using hi
      obtain rfl : i = ns.length := by omega
      exact atKey_put_same h.isMap (isKey_kG _) _ _
/-- What a look-up gives. -/
theorem Idx.look {D : DataW Unit} {ns : List GN} (h : Idx D ns) {x : GN} (hx : OkG x) {c : Int} (hc : D.atKey (kG x) (.lit (.int .i64 0)) = .lit (.int .i64 c)) :
    (Maps.has D (kG x) = true ∧ ∃ i : Nat, ns[i]? = some x ∧ c = i) ∨ (Maps.has D (kG x) = false ∧ x ∉ ns) := by
  by_cases e : x ∈ ns
  · left
    obtain ⟨i, hi⟩ := List.getElem?_of_mem e
    refine ⟨(h.has x hx).2 e, i, hi, ?_⟩
    rw [h.val i x hi] at hc
    simpa using hc.symm
  · right
    exact ⟨by rw [← Bool.not_eq_true]; exact fun h2 => e ((h.has x hx).1 h2), e⟩
end Go.Proofs.Ytocofkccdfaaaaa
