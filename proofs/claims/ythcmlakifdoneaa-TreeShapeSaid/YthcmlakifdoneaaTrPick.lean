/- Layer tree: pick, at the two functions that it is handed. Conditions: the pointer leads to a tree of at most a hundred folders whose names are short. -/
import Derived.Test.YthcmlakifdoneaaTrSort
import Derived.Maps.RangeWalk
import Derived.Sort.OwnSorted
import Derived.Deep.RegionHeld3
namespace Go.Proofs.Ythcmlakifdoneaa
open Go.RowKit Go.Deep Go.Maps

/-- All texts are short. -/
structure Small (F : Fs) : Prop where
  par : Short F
  key : ∀ s, (F s).isSome = true → s.size ≤ 1000
theorem live_some {F : Fs} {s : Nm} (h : liveB F s = true) : (F s).isSome = true := by
  unfold liveB at h
  cases hf : F s with
  | none => rw [hf] at h; cases h
  | some v => rfl
theorem own_str {e : TypeId} {S S' : Nat → Prop} {w w' : World} {base : Nat} {v : Value} {l : List Nm} (h : Own e 1 rStr S w base v l) (hk : ∀ b, v.ownBlock = some b → w'.heap[b]? = w.heap[b]?) (hS : ∀ b, S' b → b < w'.heap.size ∧ v.ownBlock ≠ some b) : Own e 1 rStr S' w' base v l := by
  obtain ⟨h1, _, xs, ⟨h3, h4⟩, h5⟩ := h
  refine ⟨h1, hS, xs, ⟨h3, ?_⟩, fun i x hx => h5 i x hx⟩
  rcases h4 with h4 | ⟨g, cap, cur, hv, hb, hg, r⟩
  · exact .inl h4
  · exact .inr ⟨g, cap, cur, hv, hb, (hk g (by rw [hv]; rfl)).trans hg, r⟩
theorem grow_str {e : TypeId} {w w' : World} {base : Nat} {v : Value} {l : List Nm} (h : Grow e 1 rStr (fun _ => False) w base v l) (hk : ∀ b, v.ownBlock = some b → w'.heap[b]? = w.heap[b]?) : Grow e 1 rStr (fun _ => False) w' base v l :=
  own_str h hk fun _ hb => ⟨hb.1, hb.2.2⟩
theorem key_inv (key : Value) (kl : Lit) (h : keyOf Try.prog 9 key = some kl) : ∃ s : Nm, key = .string s := by
  cases key <;> simp [keyOf, Try.underlying9, mapKey] at h
  exact ⟨_, rfl⟩
theorem key_lit {s : Nm} {kl : Lit} (h : keyOf Try.prog 9 (.string s) = some kl) : kl = kS s := by
  simp [keyOf, Try.underlying9, mapKey] at h
  exact h.2.symm
theorem same_kS (a b : Nm) : (kS a).sameKey (kS b) = decide (a = b) := by
  rw [Bool.eq_iff_iff, decide_eq_true_iff]
  unfold kS
  simp only [Lit.sameKey, decide_eq_true_eq, beq_iff_eq]
  exact ⟨fun h => ByteArray.ext (Array.toList_inj.1 h), fun h => by rw [h]⟩
/-- What stands in the map at a key that is there. -/
theorem TIs.entry {D : DataW Unit} {F : Fs} (h : TIs D F) {s : Nm} {c : Nm × Bool} (hc : ∀ zd, D.atKey (kS s) zd = encN c.1 c.2) : (F s).isSome = true ∧ liveB F s = !c.2 := by
  have hh := h.has s
  unfold liveB
  cases hf : F s with
  | none =>
    rw [hf] at hh
    have h1 := hc (encN Top true)
    have h2 := hc (encN Top false)
    rw [atKey_of_not_has hh] at h1 h2
    have := (encN_inj (h1.trans h2.symm)).2
    cases this
  | some v =>
    obtain ⟨p', h1, h2⟩ := h.val s v hf
    have := (encN_inj ((h2 (encN Top true)).symm.trans (hc _))).2
    exact ⟨rfl, by rw [← this]⟩

theorem wpList_next_node (w : World) {ops : Array Oper} {rest : List Oper} {o : Oper} {a : Act} {Q : Exit → Act → World → Prop} (hg : o.guard = none) (it : Operand) (hop : o.op = Op.next it false) (b r n : Nat) (D : DataW Unit) (left : Lit → Bool) (cnt : Nat)
    (hit : a.eval it = .pointer (some ⟨r, 0, none⟩)) (h : w.ranges Try.prog 9 nodeElem b r n D left cnt)
    (hDone : Hid (∀ kl, left kl = false) → wpList Try.prog ops Q rest (a.put o.dst (.tuple #[.bool false])) w)
    (hMore : ∀ (x c : Nm) (g : Bool) (w' : World) (cnt' : Nat), Hid (left (kS x) = true) → Hid (∀ zd, D.atKey (kS x) zd = encN c g) → Hid (w'.ranges Try.prog 9 nodeElem b r n D (fun z => left z && !z.sameKey (kS x)) cnt') → cnt' < cnt →
      Hid (w.grownBy w' (some r)) → (Instr.entry (.pointer (some ⟨r, 0, none⟩))).run Try.prog w' = .ok (.tuple #[.string x, .agg #[.string c, .bool g]]) w' → wpList Try.prog ops Q rest (a.put o.dst (.tuple #[.bool true, .string x, .agg #[.string c, .bool g]])) w') :
    wpList Try.prog ops Q (o :: rest) a w :=
  wpList_next_ranges w hg it hop 9 keyN nodeElem (fun s : Nm => .string s) (fun c : Nm × Bool => .agg #[.string c.1, .bool c.2]) key_inv (fun v y hy => by obtain ⟨c, rfl, _⟩ := nodeElem_inv hy; exact ⟨c, rfl⟩) b r n D left cnt hit h (fun _ hl => hDone hl)
    (fun x c kl y w' cnt' hk hl hv hat hrg hlt hgr hsz hen => by
      obtain rfl := key_lit hk
      have hy : y.1 = encN c.1 c.2 := by
        rw [nodeElem_mk] at hv
        rw [← Option.some.inj hv]
      exact hMore x c.1 c.2 w' cnt' hl (fun zd => (hat zd).trans hy) hrg hlt hgr hen)
theorem grow_next {w w1 : World} {base m r n : Nat} {D : DataW Unit} {left : Lit → Bool} {cnt : Nat} {v : Value} {l : List Nm} (h : Grow 9 1 rStr (fun _ => False) w base v l) (hr : w.ranges Try.prog 9 nodeElem m r n D left cnt) (hg : w.grownBy w1 (some r)) : Grow 9 1 rStr (fun _ => False) w1 base v l := by
  obtain ⟨_, _, xs, hrow, _⟩ := id h
  have hne := row_ne_iter hrow hr
  exact grow_str h fun b hb => hg.block b (h.base_le b hb).2 (fun e => hne (by rw [← e, hb]))
def Picked (left : Lit → Bool) (F : Fs) (P : Nm → Bool) (out : List Nm) : Prop := ∀ x, x ∈ out ↔ left (kS x) = false ∧ liveB F x = true ∧ P x = true
theorem Picked.skip {left : Lit → Bool} {F : Fs} {P : Nm → Bool} {out : List Nm} (h : Picked left F P out) {s : Nm} (hs : ¬ (liveB F s = true ∧ P s = true)) : Picked (fun z => left z && !z.sameKey (kS s)) F P out := fun x => by
  rw [h x]
  simp only [same_kS, Bool.and_eq_false_iff, Bool.not_eq_false', decide_eq_true_eq]
  constructor
  · rintro ⟨h1, h2⟩; exact ⟨.inl h1, h2⟩
  · rintro ⟨h1 | rfl, h2⟩
    · exact ⟨h1, h2⟩
    · exact absurd h2 hs
theorem Picked.take {left : Lit → Bool} {F : Fs} {P : Nm → Bool} {out : List Nm} (h : Picked left F P out) {s : Nm} (hs : liveB F s = true ∧ P s = true) : Picked (fun z => left z && !z.sameKey (kS s)) F P (out ++ [s]) := fun x => by
  rw [List.mem_append, List.mem_singleton, h x]
  simp only [same_kS, Bool.and_eq_false_iff, Bool.not_eq_false', decide_eq_true_eq]
  constructor
  · rintro (⟨h1, h2⟩ | rfl)
    · exact ⟨.inl h1, h2⟩
    · exact ⟨.inr rfl, hs⟩
  · rintro ⟨h1 | rfl, h2⟩
    · exact .inl ⟨h1, h2⟩
    · exact .inr rfl

set_option maxHeartbeats 2000000 in
set_option maxRecDepth 100000 in
theorem pick_under {w : World} {t m n a b : Nat} {D : DataW Unit} {F : Fs} (h : TreeS w t m n D F) (hF : Small F) (hn : n ≤ 100) (P : Nm → Bool)
    (hcall : ∀ W x, Below w.heap.size w W → x.size ≤ 1000 → liveB F x = true → Calls Try.prog 34 #[.string x, .pointer (some ⟨a, 0, none⟩), .pointer (some ⟨b, 0, none⟩)] W fun e W' => e = .returned (.bool (P x)) ∧ Below W.heap.size W W') :
    Calls Try.prog 33 #[.pointer (some ⟨t, 0, none⟩), .func (.func 34) #[] #[.pointer (some ⟨a, 0, none⟩), .pointer (some ⟨b, 0, none⟩)]] w fun e w' => (∃ u R, e = .returned u ∧ Sl 1 rStr (fun _ => True) w' u R ∧ IsNames (fun x => liveB F x = true ∧ P x = true) R) ∧ Below w.heap.size w w' := by
  have his := Lib.hid (is_any h)
  have HS := Lib.hid h
  have HC := Lib.hid hcall
  obtain ⟨cb, fb⟩ := blk_cells h.cell
  have c0 := cb 0 _ rfl
  obtain ⟨istring, histring, hzstring, h1string, h2string⟩ := info_parts (show (Try.prog.info? 9).map (fun i => (i.zero, i.size, i.bytes)) = some (some (.string ⟨#[]⟩), 1, 16) from by kernel_rfl)
  clear h hcall cb
  go_enter Try.func33, Try.ntmps33
  go_wp2_with (first
    | (go_at_call 29; refine Calls.mono his.out ?_; rintro e w1 ⟨rfl, hw⟩; obtain rfl : w = w1 := hw.symm; clear hw)
    | (at_range; refine wpList_range_own _ rfl _ 47 rfl 9 51 keyN Try.underlying47 nodeElem m n D rfl HS.out.own ?_; intro w0 hrg0 hg0 hs0; have HR0 := Lib.hid hrg0; have B0 := Lib.hid (Below.grown (row := none) (Below.refl _ _) hg0 (Nat.le_refl _) fun b hb => by cases hb); clear hrg0 hg0 hs0))
  have hlw := HS.out.lt
  have hmr : m < w.heap.size := hlw m (.inr rfl)
  clear hlw
  go_frame
  go_loopw [5] (fun s5 wr => ∃ (left : Lit → Bool) (cnt : Nat) (out : List Nm), Hid (wr.ranges Try.prog 9 nodeElem m w.heap.size n D left cnt) ∧ Hid (Grow 9 1 rStr (fun _ => False) wr w.heap.size s5 out) ∧ Below w.heap.size w wr ∧ Hid (out.Nodup) ∧ Hid (Picked left F P out) ∧ out.length + cnt ≤ n) (fun _ wr => wr.rangeLeft m w.heap.size)
  case atStart =>
    refine ⟨_, _, [], HR0, Grow.nil, B0.out, List.nodup_nil, fun x => ?_, by simp; exact HS.out.len⟩
    rw [HS.out.rel.has x]
    constructor
    · intro h; simp at h
    · rintro ⟨h1, h2, _⟩
      rw [live_some h2] at h1
      cases h1
  case round =>
    clear HR0 B0
    obtain ⟨left, cnt, out, HR, HG, hbel, HN, HX, hcnt⟩ := hrel
    obtain ⟨A0, n0, c0', rfl, hn1⟩ := HG.out.shape'
    clear hn1
    have hzb := hbel.size
    go_wp2_with (at_next; refine wpList_next_node _ rfl _ rfl m w.heap.size n D left cnt rfl HR.out (fun HL => ?_) (fun x c g w1 cnt1 HLX HAT HR1 hlt HG1 hen => ?_))
    · have hsz : ∀ s ∈ out, s.size ≤ 1000 := fun s hs => hF.key s (live_some ((HX.out s).1 hs).2.1)
      refine Calls.mono (sort_any HG.out (by omega) HN.out hsz) ?_
      rintro e w2 ⟨rfl, ⟨l', S2, p2, m2⟩, g2⟩
      have S2' := Lib.hid S2
      have P2 := Lib.hid p2
      have M2 := Lib.hid m2
      have B2 := Below.grown hbel g2 hbel.size fun b hb => (HG.out.base_le b hb).1
      clear S2 p2 m2 g2 hsz
      go_wp2
      go_ret
      exact ⟨⟨_, l', rfl, S2'.out, P2.out, fun x => (M2.out x).trans ⟨fun h => ((HX.out x).1 h).2, fun h => (HX.out x).2 ⟨HL.out _, h⟩⟩⟩, B2⟩
    · obtain rfl : g = true := by assumption
      have hl := (HS.out.rel.entry (c := (c, true)) HAT.out).2
      have HB1 := Lib.hid (Below.grown hbel HG1.out hbel.size fun b hb => by cases hb; exact Nat.le_refl _)
      go_roundw
      case rel => exact ⟨_, cnt1, out, HR1.out.alloc _, (grow_next HG.out HR.out HG1.out).alloc rStr_ok _, HB1.out.alloc HB1.out.size _, HN, HX.out.skip (by rw [hl]; simp), by omega⟩
      case measure => rw [(HR1.out.alloc _).left_eq, HR.out.left_eq]; omega
    · obtain rfl : g = false := by first | assumption | exact Bool.eq_false_iff.2 (by assumption)
      have hl := (HS.out.rel.entry (c := (c, false)) HAT.out)
      have HL := Lib.hid (show liveB F x = true from hl.2)
      have hxs := hF.key x hl.1
      have HB1 := Lib.hid (Below.grown hbel HG1.out hbel.size fun b hb => by cases hb; exact Nat.le_refl _)
      have hcx := HC.out _ x (HB1.out.alloc HB1.out.size (.cells #[.string c, .bool false] 51)) hxs hl.2
      clear hl
      cases hP : P x with
      | false =>
        rw [hP] at hcx
        have HP := Lib.hid hP
        clear hP
        refine Calls.mono hcx ?_
        rintro e w2 ⟨rfl, B2⟩
        have HB2 := Lib.hid B2
        clear B2 hcx
        go_wp2
        go_roundw
        case rel => exact ⟨_, cnt1, out, (HR1.out.alloc _).kept (row := none) ⟨HB2.out.os, HB2.out.tape, HB2.out.output, HB2.out.size, fun k hk _ => HB2.out.block k hk⟩ (by simp) (by simp), ((grow_next HG.out HR.out HG1.out).alloc rStr_ok _).below rStr_ok HB2.out, bel_call (HB1.out.alloc HB1.out.size _) HB2.out, HN, HX.out.skip (by rw [HP.out]; simp), by omega⟩
        case measure => rw [((HR1.out.alloc _).kept (row := none) ⟨HB2.out.os, HB2.out.tape, HB2.out.output, HB2.out.size, fun k hk _ => HB2.out.block k hk⟩ (by simp) (by simp)).left_eq, HR.out.left_eq]; omega
      | true =>
        rw [hP] at hcx
        have HP := Lib.hid hP
        clear hP
        refine Calls.mono hcx ?_
        rintro e w2 ⟨rfl, B2⟩
        have HB2 := Lib.hid B2
        clear B2 hcx
        have HG2 := Lib.hid (((grow_next HG.out HR.out HG1.out).alloc rStr_ok (.cells #[.string c, .bool false] 51)).below rStr_ok HB2.out)
        have HR2 := Lib.hid ((HR1.out.alloc (.cells #[.string c, .bool false] 51)).kept (row := none) ⟨HB2.out.os, HB2.out.tape, HB2.out.output, HB2.out.size, fun k hk _ => HB2.out.block k hk⟩ (by simp) (by simp))
        have HBB := Lib.hid (bel_call (HB1.out.alloc HB1.out.size (.cells #[.string c, .bool false] 51)) HB2.out)
        have hzz := HBB.out.size
        have HNX := Lib.hid (show x ∉ out from fun hm => by have h1 := ((HX.out x).1 hm).1; rw [HLX.out] at h1; cases h1)
        go_wp2_with (at_builtin; go_loud (refine wpList_grow1 (R := rStr) _ _ rfl (.tmp 29) (.tmp 31) 31 rfl 9 istring _ 1 16 Try.underlying31 histring hzstring h1string h2string rfl (by decide) rStr_ok w.heap.size (by omega) _ _ rfl HG2.out _ _ rfl (by simp only [World.size_alloc, World.size_setCell, World.size_drew]) _ (by intro b hb; exact hb.elim) (show rStr _ _ _ x from ⟨rfl, by omega⟩) (by omega) (by decide) ?_); intro v1 w5 g1 gg1 go1; obtain ⟨A5, n5, c5, rfl, hn5⟩ := g1.shape'; have G5 := Lib.hid g1; have GG := Lib.hid gg1; obtain ⟨_, _, xs2, hrow2, _⟩ := id HG2.out; have HR5 := Lib.hid (HR2.out.kept GG.out (fun e => by have := (HG2.out.base_le m e.symm).1; omega) (row_ne_iter hrow2 HR2.out)); clear hrow2 hn5 g1 gg1 go1)
        go_roundw
        case rel => exact ⟨_, cnt1, out ++ [x], HR5, G5, Below.grown HBB.out GG.out (by omega) fun b hb => (HG2.out.base_le b hb).1, by show List.Nodup _; rw [List.nodup_append]; exact ⟨HN.out, by simp, fun a ha b hb => by obtain rfl : b = x := (by simpa using hb); exact fun e => HNX.out (e ▸ ha)⟩, HX.out.take ⟨HL.out, HP.out⟩, by simp; omega⟩
        case measure => rw [HR5.out.left_eq, HR.out.left_eq]; omega
set_option maxHeartbeats 2000000 in
set_option maxRecDepth 100000 in
theorem pick_children {w : World} {t m n a b : Nat} {D : DataW Unit} {F : Fs} (h : TreeS w t m n D F) (hF : Small F) (hn : n ≤ 100) (P : Nm → Bool)
    (hcall : ∀ W x, Below w.heap.size w W → x.size ≤ 1000 → liveB F x = true → Calls Try.prog 36 #[.string x, .pointer (some ⟨a, 0, none⟩), .pointer (some ⟨b, 0, none⟩)] W fun e W' => e = .returned (.bool (P x)) ∧ Below W.heap.size W W') :
    Calls Try.prog 33 #[.pointer (some ⟨t, 0, none⟩), .func (.func 36) #[] #[.pointer (some ⟨a, 0, none⟩), .pointer (some ⟨b, 0, none⟩)]] w fun e w' => (∃ u R, e = .returned u ∧ Sl 1 rStr (fun _ => True) w' u R ∧ IsNames (fun x => liveB F x = true ∧ P x = true) R) ∧ Below w.heap.size w w' := by
  have his := Lib.hid (is_any h)
  have HS := Lib.hid h
  have HC := Lib.hid hcall
  obtain ⟨cb, fb⟩ := blk_cells h.cell
  have c0 := cb 0 _ rfl
  obtain ⟨istring, histring, hzstring, h1string, h2string⟩ := info_parts (show (Try.prog.info? 9).map (fun i => (i.zero, i.size, i.bytes)) = some (some (.string ⟨#[]⟩), 1, 16) from by kernel_rfl)
  clear h hcall cb
  go_enter Try.func33, Try.ntmps33
  go_wp2_with (first
    | (go_at_call 29; refine Calls.mono his.out ?_; rintro e w1 ⟨rfl, hw⟩; obtain rfl : w = w1 := hw.symm; clear hw)
    | (at_range; refine wpList_range_own _ rfl _ 47 rfl 9 51 keyN Try.underlying47 nodeElem m n D rfl HS.out.own ?_; intro w0 hrg0 hg0 hs0; have HR0 := Lib.hid hrg0; have B0 := Lib.hid (Below.grown (row := none) (Below.refl _ _) hg0 (Nat.le_refl _) fun b hb => by cases hb); clear hrg0 hg0 hs0))
  have hlw := HS.out.lt
  have hmr : m < w.heap.size := hlw m (.inr rfl)
  clear hlw
  go_frame
  go_loopw [5] (fun s5 wr => ∃ (left : Lit → Bool) (cnt : Nat) (out : List Nm), Hid (wr.ranges Try.prog 9 nodeElem m w.heap.size n D left cnt) ∧ Hid (Grow 9 1 rStr (fun _ => False) wr w.heap.size s5 out) ∧ Below w.heap.size w wr ∧ Hid (out.Nodup) ∧ Hid (Picked left F P out) ∧ out.length + cnt ≤ n) (fun _ wr => wr.rangeLeft m w.heap.size)
  case atStart =>
    refine ⟨_, _, [], HR0, Grow.nil, B0.out, List.nodup_nil, fun x => ?_, by simp; exact HS.out.len⟩
    rw [HS.out.rel.has x]
    constructor
    · intro h; simp at h
    · rintro ⟨h1, h2, _⟩
      rw [live_some h2] at h1
      cases h1
  case round =>
    clear HR0 B0
    obtain ⟨left, cnt, out, HR, HG, hbel, HN, HX, hcnt⟩ := hrel
    obtain ⟨A0, n0, c0', rfl, hn1⟩ := HG.out.shape'
    clear hn1
    have hzb := hbel.size
    go_wp2_with (at_next; refine wpList_next_node _ rfl _ rfl m w.heap.size n D left cnt rfl HR.out (fun HL => ?_) (fun x c g w1 cnt1 HLX HAT HR1 hlt HG1 hen => ?_))
    · have hsz : ∀ s ∈ out, s.size ≤ 1000 := fun s hs => hF.key s (live_some ((HX.out s).1 hs).2.1)
      refine Calls.mono (sort_any HG.out (by omega) HN.out hsz) ?_
      rintro e w2 ⟨rfl, ⟨l', S2, p2, m2⟩, g2⟩
      have S2' := Lib.hid S2
      have P2 := Lib.hid p2
      have M2 := Lib.hid m2
      have B2 := Below.grown hbel g2 hbel.size fun b hb => (HG.out.base_le b hb).1
      clear S2 p2 m2 g2 hsz
      go_wp2
      go_ret
      exact ⟨⟨_, l', rfl, S2'.out, P2.out, fun x => (M2.out x).trans ⟨fun h => ((HX.out x).1 h).2, fun h => (HX.out x).2 ⟨HL.out _, h⟩⟩⟩, B2⟩
    · obtain rfl : g = true := by assumption
      have hl := (HS.out.rel.entry (c := (c, true)) HAT.out).2
      have HB1 := Lib.hid (Below.grown hbel HG1.out hbel.size fun b hb => by cases hb; exact Nat.le_refl _)
      go_roundw
      case rel => exact ⟨_, cnt1, out, HR1.out.alloc _, (grow_next HG.out HR.out HG1.out).alloc rStr_ok _, HB1.out.alloc HB1.out.size _, HN, HX.out.skip (by rw [hl]; simp), by omega⟩
      case measure => rw [(HR1.out.alloc _).left_eq, HR.out.left_eq]; omega
    · obtain rfl : g = false := by first | assumption | exact Bool.eq_false_iff.2 (by assumption)
      have hl := (HS.out.rel.entry (c := (c, false)) HAT.out)
      have HL := Lib.hid (show liveB F x = true from hl.2)
      have hxs := hF.key x hl.1
      have HB1 := Lib.hid (Below.grown hbel HG1.out hbel.size fun b hb => by cases hb; exact Nat.le_refl _)
      have hcx := HC.out _ x (HB1.out.alloc HB1.out.size (.cells #[.string c, .bool false] 51)) hxs hl.2
      clear hl
      cases hP : P x with
      | false =>
        rw [hP] at hcx
        have HP := Lib.hid hP
        clear hP
        refine Calls.mono hcx ?_
        rintro e w2 ⟨rfl, B2⟩
        have HB2 := Lib.hid B2
        clear B2 hcx
        go_wp2
        go_roundw
        case rel => exact ⟨_, cnt1, out, (HR1.out.alloc _).kept (row := none) ⟨HB2.out.os, HB2.out.tape, HB2.out.output, HB2.out.size, fun k hk _ => HB2.out.block k hk⟩ (by simp) (by simp), ((grow_next HG.out HR.out HG1.out).alloc rStr_ok _).below rStr_ok HB2.out, bel_call (HB1.out.alloc HB1.out.size _) HB2.out, HN, HX.out.skip (by rw [HP.out]; simp), by omega⟩
        case measure => rw [((HR1.out.alloc _).kept (row := none) ⟨HB2.out.os, HB2.out.tape, HB2.out.output, HB2.out.size, fun k hk _ => HB2.out.block k hk⟩ (by simp) (by simp)).left_eq, HR.out.left_eq]; omega
      | true =>
        rw [hP] at hcx
        have HP := Lib.hid hP
        clear hP
        refine Calls.mono hcx ?_
        rintro e w2 ⟨rfl, B2⟩
        have HB2 := Lib.hid B2
        clear B2 hcx
        have HG2 := Lib.hid (((grow_next HG.out HR.out HG1.out).alloc rStr_ok (.cells #[.string c, .bool false] 51)).below rStr_ok HB2.out)
        have HR2 := Lib.hid ((HR1.out.alloc (.cells #[.string c, .bool false] 51)).kept (row := none) ⟨HB2.out.os, HB2.out.tape, HB2.out.output, HB2.out.size, fun k hk _ => HB2.out.block k hk⟩ (by simp) (by simp))
        have HBB := Lib.hid (bel_call (HB1.out.alloc HB1.out.size (.cells #[.string c, .bool false] 51)) HB2.out)
        have hzz := HBB.out.size
        have HNX := Lib.hid (show x ∉ out from fun hm => by have h1 := ((HX.out x).1 hm).1; rw [HLX.out] at h1; cases h1)
        go_wp2_with (at_builtin; go_loud (refine wpList_grow1 (R := rStr) _ _ rfl (.tmp 29) (.tmp 31) 31 rfl 9 istring _ 1 16 Try.underlying31 histring hzstring h1string h2string rfl (by decide) rStr_ok w.heap.size (by omega) _ _ rfl HG2.out _ _ rfl (by simp only [World.size_alloc, World.size_setCell, World.size_drew]) _ (by intro b hb; exact hb.elim) (show rStr _ _ _ x from ⟨rfl, by omega⟩) (by omega) (by decide) ?_); intro v1 w5 g1 gg1 go1; obtain ⟨A5, n5, c5, rfl, hn5⟩ := g1.shape'; have G5 := Lib.hid g1; have GG := Lib.hid gg1; obtain ⟨_, _, xs2, hrow2, _⟩ := id HG2.out; have HR5 := Lib.hid (HR2.out.kept GG.out (fun e => by have := (HG2.out.base_le m e.symm).1; omega) (row_ne_iter hrow2 HR2.out)); clear hrow2 hn5 g1 gg1 go1)
        go_roundw
        case rel => exact ⟨_, cnt1, out ++ [x], HR5, G5, Below.grown HBB.out GG.out (by omega) fun b hb => (HG2.out.base_le b hb).1, by show List.Nodup _; rw [List.nodup_append]; exact ⟨HN.out, by simp, fun a ha b hb => by obtain rfl : b = x := (by simpa using hb); exact fun e => HNX.out (e ▸ ha)⟩, HX.out.take ⟨HL.out, HP.out⟩, by simp; omega⟩
        case measure => rw [HR5.out.left_eq, HR.out.left_eq]; omega

end Go.Proofs.Ythcmlakifdoneaa
