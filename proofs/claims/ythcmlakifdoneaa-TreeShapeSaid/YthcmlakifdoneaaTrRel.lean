/- Layer tree: a map of folders, read as a function of their names. No condition but those that each lemma names. -/
import Derived.Test.YthcmlakifdoneaaTrList
import Derived.Test.YthcmlakifdoneaaBlk
import Derived.Maps.OwnSet
import Derived.Maps.RangeWalk
import Derived.Sort.EncStr
namespace Go.Proofs.Ythcmlakifdoneaa
open Go.RowKit Go.Deep Go.Maps

/-- What a folder reads as: one list of bytes. -/
def encN (p : Nm) (g : Bool) : DataW Unit := .lit (.string ((if g then 1 else 0) :: p.data.toList))
def nodeElem : Value → Option (DataW Unit × List MemPlace)
  | .agg cs => match cs.toList with
    | [.string p, .bool g] => some (encN p g, [])
    | _ => none
  | _ => none
theorem nodeElem_mk (p : Nm) (g : Bool) : nodeElem (.agg #[.string p, .bool g]) = some (encN p g, []) := rfl
theorem nodeElem_inv {v : Value} {z : DataW Unit × List MemPlace} (h : nodeElem v = some z) : ∃ c : Nm × Bool, v = .agg #[.string c.1, .bool c.2] ∧ z = (encN c.1 c.2, []) := by
  unfold nodeElem at h
  split at h
  · rename_i cs
    split at h
    · rename_i p g hl
      refine ⟨(p, g), ?_, (Option.some.inj h).symm⟩
      have : cs = #[.string p, .bool g] := by
        apply Array.ext'
        exact hl
      rw [this]
    · cases h
  · cases h
theorem encN_inj {p q : Nm} {g k : Bool} (h : encN p g = encN q k) : p = q ∧ g = k := by
  unfold encN at h
  simp only [DataW.lit.injEq, Lit.string.injEq, List.cons.injEq] at h
  refine ⟨ByteArray.ext (Array.toList_inj.1 h.2), ?_⟩
  cases g <;> cases k <;> simp_all
def kS (s : Nm) : Lit := .string s.data.toList
theorem kS_inj {a b : Nm} : kS a = kS b ↔ a = b := by
  unfold kS
  rw [Lit.string.injEq]
  exact ⟨fun h => ByteArray.ext (Array.toList_inj.1 h), fun h => by rw [h]⟩

structure TIs (D : DataW Unit) (F : Fs) : Prop where
  isMap : IsMap D
  has : ∀ s, Maps.has D (kS s) = (F s).isSome
  val : ∀ s v, F s = some v → ∃ p', (v.2 = false → p' = v.1) ∧ ∀ zd, D.atKey (kS s) zd = encN p' v.2
theorem TIs.start : TIs (.map []) fun _ => none := ⟨isMap_empty, fun s => by simp [Maps.has], fun s v h => by cases h⟩
theorem TIs.put {D : DataW Unit} {F : Fs} (h : TIs D F) (s p q : Nm) (g : Bool) (hpq : g = false → q = p) : TIs (D.put (kS s) (encN q g)) (upd F s (p, g)) := by
  refine ⟨h.isMap.put _ _, fun x => ?_, fun x v hv => ?_⟩
  · unfold upd
    by_cases e : x = s
    · subst e
      rw [if_pos rfl, has_put_same h.isMap (by simp [kS, WideAt.IsKeyLit])]
      rfl
    · rw [if_neg e, has_put_other fun e2 => e (kS_inj.1 e2)]
      exact h.has x
  · unfold upd at hv
    by_cases e : x = s
    · subst e
      rw [if_pos rfl] at hv
      obtain rfl := Option.some.inj hv
      exact ⟨q, hpq, fun zd => atKey_put_same h.isMap (by simp [kS, WideAt.IsKeyLit]) _ _⟩
    · rw [if_neg e] at hv
      obtain ⟨p', h1, h2⟩ := h.val x v hv
      exact ⟨p', h1, fun zd => by rw [atKey_put_other fun e2 => e (kS_inj.1 e2)]; exact h2 zd⟩
/-- What a look-up gives. -/
theorem TIs.look {D : DataW Unit} {F : Fs} (h : TIs D F) (s : Nm) {c : Nm} {g : Bool} (hc : encN c g = D.atKey (kS s) (encN Top false)) : (Maps.has D (kS s) && !g) = liveB F s ∧ (liveB F s = true → c = parF F s) := by
  have hh := h.has s
  unfold liveB parF
  cases hf : F s with
  | none =>
    rw [hf] at hh
    rw [hh]
    simp
  | some v =>
    obtain ⟨p', h1, h2⟩ := h.val s v hf
    rw [h2] at hc
    obtain ⟨e1, e2⟩ := encN_inj hc
    rw [hf] at hh
    rw [hh, e2]
    refine ⟨by simp, fun hl => ?_⟩
    simp at hl
    rw [e1, h1 hl]

/-- A tree in memory: its cell, and its map of at most n folders. -/
structure TreeS (w : World) (t m n : Nat) (D : DataW Unit) (F : Fs) : Prop where
  cell : w.heap[t]? = some (.cells #[.map (some m)] 49 (0, 0))
  own : w.ownsMap Try.prog 9 nodeElem m n D
  rel : TIs D F
  ne : t ≠ m
theorem ownN_of {w w' : World} {b n : Nat} {D : DataW Unit} (h : w.ownsMap Try.prog 9 nodeElem b n D) (e : w'.heap[b]? = w.heap[b]?) : w'.ownsMap Try.prog 9 nodeElem b n D := by
  obtain ⟨es, clock, h1, h2⟩ := h
  exact ⟨es, clock, e.trans h1, h2⟩
theorem TreeS.of {w w' : World} {t m n : Nat} {D : DataW Unit} {F : Fs} (h : TreeS w t m n D F) (k : ∀ x, x = t ∨ x = m → w'.heap[x]? = w.heap[x]?) : TreeS w' t m n D F :=
  ⟨(k t (.inl rfl)).trans h.cell, ownN_of h.own (k m (.inr rfl)), h.rel, h.ne⟩
theorem TreeS.lt {w : World} {t m n : Nat} {D : DataW Unit} {F : Fs} (h : TreeS w t m n D F) : ∀ x, x = t ∨ x = m → x < w.heap.size := by
  rintro x (rfl | rfl)
  · exact blk_lt h.cell
  · exact h.own.lt
theorem TreeS.below {w w' : World} {t m n : Nat} {D : DataW Unit} {F : Fs} (h : TreeS w t m n D F) (k : Below w.heap.size w w') : TreeS w' t m n D F := h.of fun x hx => k.block x (h.lt x hx)
theorem TreeS.len {w : World} {t m n : Nat} {D : DataW Unit} {F : Fs} (h : TreeS w t m n D F) : Maps.size D ≤ n := h.own.size_le

theorem keyN : Keyed Try.prog 9 := string_keyed Try.underlying9
theorem zeroN (w : World) : (zeroValue 51).run Try.prog w = .ok (.agg #[.string ⟨#[]⟩, .bool false]) w := by kernel_rfl
theorem key_mk {s : Nm} (h : s.size ≤ 1000) : keyOf Try.prog 9 (.string s) = some (kS s) := WideMaps.keyOf_string_mk Try.underlying9 (by unfold maxLen; omega)
theorem field_node (c : Nm) (g : Bool) (w : World) : (Instr.field 51 (.agg #[.string c, .bool g]) 0).run Try.prog w = .ok (.string c) w := by kernel_rfl
section
variable {P : Program} (w : World) {ops : Array Oper} {rest : List Oper} {o : Oper} {a : Act} {Q : Exit → Act → World → Prop}
/-- 'n, ok := m[s]'. -/
theorem wpList_look_node_ok (hg : o.guard = none) (m x : Operand) (t : TypeId) (hop : o.op = Op.lookup t m x true) (k e : TypeId) (K : Keyed P k) (ht : P.underlying t = some (.map k e)) (hz : (zeroValue e).run P w = .ok (.agg #[.string ⟨#[]⟩, .bool false]) w) (b n : Nat) (D : DataW Unit)
    (hm : a.eval m = .map (some b)) (hown : w.ownsMap P k nodeElem b n D) (key : Value) (kl : Lit) (hx : a.eval x = key) (hkey : keyOf P k key = some kl)
    (hK : ∀ (c : Nm) (g : Bool), encN c g = D.atKey kl (encN Top false) → wpList P ops Q rest (a.put o.dst (.tuple #[.agg #[.string c, .bool g], .bool (Maps.has D kl)])) w) : wpList P ops Q (o :: rest) a w :=
  wpList_lookup_own_ok w hg m x t hop k e K ht nodeElem hz (encN Top false) [] (nodeElem_mk _ _) b n D hm hown key kl hx hkey (fun v ps hv => by
    obtain ⟨c, rfl, hc⟩ := nodeElem_inv hv
    exact hK c.1 c.2 (congrArg Prod.fst hc).symm)
/-- 'm[s]'. -/
theorem wpList_look_node (hg : o.guard = none) (m x : Operand) (t : TypeId) (hop : o.op = Op.lookup t m x false) (k e : TypeId) (K : Keyed P k) (ht : P.underlying t = some (.map k e)) (hz : (zeroValue e).run P w = .ok (.agg #[.string ⟨#[]⟩, .bool false]) w) (b n : Nat) (D : DataW Unit)
    (hm : a.eval m = .map (some b)) (hown : w.ownsMap P k nodeElem b n D) (key : Value) (kl : Lit) (hx : a.eval x = key) (hkey : keyOf P k key = some kl)
    (hK : ∀ (c : Nm) (g : Bool), encN c g = D.atKey kl (encN Top false) → wpList P ops Q rest (a.put o.dst (.agg #[.string c, .bool g])) w) : wpList P ops Q (o :: rest) a w := by
  refine wpList_plain hg fun K' hK' => ?_
  obtain ⟨v, ps, hrun, hv⟩ := hown.lookup K ht hz (nodeElem_mk Top false) hkey
  obtain ⟨c, rfl, hc⟩ := nodeElem_inv hv
  unfold Oper.wp
  simp [execOp, hop, hm, hx, hrun, Result.andThen]
  exact hK' _ _ (hK c.1 c.2 (congrArg Prod.fst hc).symm)
end
end Go.Proofs.Ythcmlakifdoneaa
