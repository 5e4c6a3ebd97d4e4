/- Layer stat: slices.Sorted of maps.Keys of a map of the call's own, texts its keys. Condition: at most a thousand keys. -/
import Derived.Test.YtalhilelbebfbaaDoorStUsL
import Derived.Test.YtalhilelbebfbaaDoorTrList
import Derived.StringKeys
namespace Go.Proofs.YtalhilelbebfbaaDoor
open Go.RowKit Go.Deep Go.Shelf Go.Maps Go.Sort

theorem keyS : Keyed Tryd.prog 9 := string_keyed Tryd.underlying9
theorem keysS_any (mb : Option Nat) (w : World) : Calls Tryd.prog 23 #[.map mb] w fun e w' =>
    e = .returned (.func (.func 36) #[] #[.pointer (some ⟨w.heap.size, 0, none⟩)]) ∧ w' = w.alloc (.cells #[.map mb] 53) :=
  (callsIn_wide (n := 5)).1 (AnyZ.keys_in layKs Fence.wide 5 trivial rfl mb w)
theorem sortsU (m : Nat) : AnyZ.SortsIn Tryd.prog layT_ren Fence.wide m :=
  ⟨fun blk off cap ss W hH hblk hsz => callsIn_wide.2 (AnyM.slices_Sort_string layU blk off cap ss W hH hblk hsz),
   fun p cap W => callsIn_wide.2 (AnyM.slices_Sort_string_none layU p cap W)⟩
set_option maxHeartbeats 1000000 in
theorem sortedS_raw (b n : Nat) (D : DataW Unit) (w : World) (hown : w.ownsMap Tryd.prog 9 (plainElem Tryd.prog 3) b n D) (hs : Maps.size D ≤ 1000) (Bm : Nat) (hBm : Bm < w.heap.size) (hm : w.cell? ⟨Bm, 0, none⟩ = some (.map (some b))) :
    Calls Tryd.prog 22 #[.func (.func 36) #[] #[.pointer (some ⟨Bm, 0, none⟩)]] w fun e w' =>
      ∃ (v : Value) (ss : List (List UInt8)), e = .returned v ∧ ss.Perm (strKeys D) ∧ w'.ownsRow w.heap.size 9 1 v ss.length ((ss.mergeSort (fun x y => decide (x ≤ y))).map encStr) ∧ (v = .slice none 0 0 ↔ ss = []) ∧ Below w.heap.size w w' := by
  have hseq : SeqGives Fence.wide 2 Tryd.prog 36 #[.pointer (some ⟨Bm, 0, none⟩)] encStr (fun ss => ss.Perm (strKeys D)) (Maps.size D) w :=
    AnyZ.keys_gives (ρ := layKs_ren) { layKs with } Fence.wide _ trivial rfl (by omega) Bm b n D _ hBm hm hown
  exact (callsIn_wide (n := 5)).1 (AnyZ.sorted_in layT Fence.wide 5 trivial trivial trivial trivial rfl (by omega) (sortsU _) (enters_of Tryd.func35 (by kernel_rfl) rfl) 36 #[.pointer (some ⟨Bm, 0, none⟩)] trivial (enters_of Tryd.func36 (by kernel_rfl) rfl) _ _ (by unfold maxLen; omega) (by omega) _ hseq)

/-! What a map with texts as keys holds. -/
structure MapIsS (D : DataW Unit) (K : Nm → Prop) : Prop where
  isMap : IsMap D
  key : ∀ s : Nm, has D (.string s.data.toList) = true ↔ K s
theorem MapIsS.start : MapIsS (.map []) (fun _ => False) := ⟨isMap_empty, fun _ => by simp [has]⟩
theorem data_inj {a b : Nm} (h : a.data.toList = b.data.toList) : a = b := by
  obtain ⟨⟨l⟩⟩ := a
  obtain ⟨⟨r⟩⟩ := b
  have e : l = r := h
  rw [e]
theorem MapIsS.put {D : DataW Unit} {K : Nm → Prop} (h : MapIsS D K) (s : Nm) (v : DataW Unit) : MapIsS (D.put (.string s.data.toList) v) (fun x => x = s ∨ K x) := by
  refine ⟨h.isMap.put _ _, fun x => ?_⟩
  by_cases hx : x = s
  · subst hx
    simp [has_put_same h.isMap (k := .string x.data.toList) (by first | trivial | rfl | decide | simp [WideAt.IsKeyLit])]
  · rw [has_put_other (by simpa using fun e => hx (data_inj e)), h.key x]
    simp [hx]
theorem MapIsS.congr {D : DataW Unit} {K K' : Nm → Prop} (h : MapIsS D K) (hK : ∀ s, K s ↔ K' s) : MapIsS D K' := ⟨h.isMap, fun s => (h.key s).trans (hK s)⟩
theorem MapIsS.keys {D : DataW Unit} {K : Nm → Prop} (h : MapIsS D K) {w : World} {R : Value → Option (DataW Unit × List MemPlace)} {b n : Nat} (hown : w.ownsMap Tryd.prog 9 R b n D) :
    (strKeys D).Nodup ∧ ∀ s : Nm, s.data.toList ∈ strKeys D ↔ K s := by
  obtain ⟨es, hD, hpw, _⟩ := hown.entries keyS
  obtain ⟨es', hD', hko⟩ := hown.keysOf
  obtain rfl : es = es' := by rw [hD] at hD'; simpa using hD'
  subst hD
  have hk : ∀ p ∈ es, ∃ x, p.1 = .string x := fun p hp => by obtain ⟨v, hv⟩ := hko p hp; obtain ⟨x, _, hx, _⟩ := Maps.keyOf_str Tryd.underlying9 hv; exact ⟨x, hx⟩
  refine ⟨?_, fun s => ?_⟩
  · show (es.map fun p => strOf p.1).Nodup
    refine List.pairwise_map.2 (hpw.imp_of_mem fun {p q} hp' hq' hne e => hne ?_)
    obtain ⟨a, ha⟩ := hk p hp'
    obtain ⟨b, hb⟩ := hk q hq'
    rw [ha, hb] at e ⊢
    exact congrArg _ e
  · rw [← h.key s, has_eq, List.any_eq_true]
    show s.data.toList ∈ es.map (fun p => strOf p.1) ↔ _
    rw [List.mem_map]
    constructor
    · rintro ⟨p, hp', hs⟩
      obtain ⟨a, ha⟩ := hk p hp'
      rw [ha] at hs
      exact ⟨p, hp', by rw [ha]; first | simpa [Lit.sameKey, strOf] using hs | simpa [Lit.sameKey, strOf] using hs.symm⟩
    · rintro ⟨p, hp', hs⟩
      obtain ⟨a, ha⟩ := hk p hp'
      rw [ha] at hs
      exact ⟨p, hp', by rw [ha]; first | simpa [Lit.sameKey, strOf] using hs | simpa [Lit.sameKey, strOf] using hs.symm⟩
theorem less_ltU : ∀ x y : List UInt8, (Op.bytesLess x y = true) = (x < y)
  | [], [] => by simp [Op.bytesLess]
  | [], _ :: _ => by simp [Op.bytesLess]
  | _ :: _, [] => by simp [Op.bytesLess]
  | a :: x, b :: y => by
    rw [List.cons_lt_cons_iff, ← less_ltU x y]
    simp [Op.bytesLess]
theorem le_ltS {a b : Nm} (h : a.data.toList ≤ b.data.toList) (hne : a ≠ b) : ltS a b = true := by
  rcases ltS_total a b with h1 | h1 | h1
  · exact h1
  · exact absurd h1 hne
  · unfold ltS at h1
    rw [less_ltU, Lib.toList_data, Lib.toList_data] at h1
    exact absurd h1 (List.not_lt.2 h)
/-- The keys, sorted, as names. -/
theorem sortedS_any (b n : Nat) (D : DataW Unit) (K : Nm → Prop) (hM : MapIsS D K) (w : World) (hown : w.ownsMap Tryd.prog 9 (plainElem Tryd.prog 3) b n D) (hs : Maps.size D ≤ 1000) (hz : ∀ s, K s → s.size ≤ 1000) (Bm : Nat) (hBm : Bm < w.heap.size) (hm : w.cell? ⟨Bm, 0, none⟩ = some (.map (some b))) :
    Calls Tryd.prog 22 #[.func (.func 36) #[] #[.pointer (some ⟨Bm, 0, none⟩)]] w fun e w' =>
      (∃ (v : Value) (R : List Nm), e = .returned v ∧ Sl 1 rStr (fun _ => True) w' v R ∧ IsNames K R) ∧ Below w.heap.size w w' := by
  obtain ⟨hnd, hk⟩ := hM.keys hown
  refine Calls.mono (sortedS_raw b n D w hown hs Bm hBm hm) ?_
  rintro e w' ⟨v, ss, rfl, hp, hrow, hnil, hb⟩
  refine ⟨⟨v, (ss.mergeSort (fun x y => decide (x ≤ y))).map fun x => (⟨x.toArray⟩ : Nm), rfl, ?_, ?_⟩, hb⟩
  all_goals
    have hperm := List.mergeSort_perm ss fun x y => decide (x ≤ y)
    have hsorted := List.pairwise_mergeSort (le := fun x y : List UInt8 => decide (x ≤ y)) (fun a b c h k => by simp at *; exact List.le_trans h k) (fun a b => by simp; exact List.le_total a b) ss
    generalize ss.mergeSort (fun x y => decide (x ≤ y)) = ts at hperm hsorted hrow ⊢
    have hall := hperm.trans hp
    have hmem : ∀ s : Nm, s ∈ ts.map (fun x => (⟨x.toArray⟩ : Nm)) ↔ K s := fun s => by
      rw [← hk s, ← hall.mem_iff, List.mem_map]
      constructor
      · rintro ⟨y, hy, rfl⟩
        simpa using hy
      · intro hx
        exact ⟨s.data.toList, hx, by simp⟩
  · have hsl : ss.length ≤ 1000 := by
      rw [hp.length_eq]
      obtain ⟨es, hD, _⟩ := hown.entries keyS
      subst hD
      have : (strKeys (.map es : DataW Unit)).length = es.length := List.length_map _
      rw [this]
      exact hs
    have htl : ts.length = ss.length := hperm.length_eq
    rcases hrow.2 with ⟨rfl, h0⟩ | ⟨g, cap, cur, rfl, hbg, hg, hnc, hcm, hcs, htk⟩
    · have : ts = [] := List.eq_nil_of_length_eq_zero (by omega)
      subst this
      exact Sl_nil _ _ _ _
    · obtain ⟨cc, ff⟩ := blk_cells hg
      refine Sl_of (by rw [List.length_map, htl]) (by omega) hcm (by omega) trivial fun i x hx => ⟨[.string x], rfl, fun j y hj => ?_, rfl, by have := hz x ((hmem x).1 (List.mem_of_getElem? hx)); omega⟩
      rcases j with _ | j
      · obtain rfl : Value.string x = y := by simpa using hj
        have hi : i < ts.length := by have := (List.getElem?_eq_some_iff.1 hx).1; rwa [List.length_map] at this
        rw [show 0 + (i * 1 + 0) = i by omega]
        refine cc i _ ?_
        have h1 : (cur.toList.take (ss.length * 1))[i]? = some (encStr ts[i]) := by
          rw [htk, List.getElem?_map, List.getElem?_eq_getElem hi]
          rfl
        rw [List.getElem?_take, if_pos (by omega)] at h1
        have h2 : encStr ts[i] = .string x := by
          rw [List.getElem?_map, List.getElem?_eq_getElem hi] at hx
          have : (⟨ts[i].toArray⟩ : Nm) = x := Option.some.inj hx
          rw [← this]
        rw [h2] at h1
        simpa using h1
      · simp at hj
  · refine ⟨?_, hmem⟩
    have hnt : ts.Nodup := hall.nodup_iff.2 hnd
    refine List.pairwise_map.2 ((hsorted.and hnt).imp fun {a b} h => le_ltS (by simpa using h.1) fun e => h.2 ?_)
    have := congrArg (fun s : Nm => s.data.toList) e
    simpa using this
end Go.Proofs.YtalhilelbebfbaaDoor
