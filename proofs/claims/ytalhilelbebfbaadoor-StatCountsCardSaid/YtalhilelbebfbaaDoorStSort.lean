/- Layer stat: slices.SortedFunc over a map's keys. Conditions: the map is the call's own, of at most a thousand keys. -/
import Derived.Shelf.SlSortCmp.NoneTotal
import Derived.Shelf.GgSortFunc.Compose
import Derived.Test.YtalhilelbebfbaaDoorStCmp
namespace Go.Proofs.YtalhilelbebfbaaDoor
open Go.RowKit Go.Deep Go.Shelf Go.Maps

def layS_ren : Go.Shelf.Ren := ⟨fun | 6 => 41 | 15 => 46 | 14 => 48 | 28 => 58 | 29 => 59 | 20 => 60 | 21 => 61 | 22 => 62 | 23 => 63 | 24 => 64 | 25 => 65 | 26 => 66 | 27 => 67 | 46 => 74 | 47 => 69 | 48 => 70 | 49 => 75 | 50 => 76 | 57 => 78 | n => n, fun | 22 => 60 | 24 => 28 | 25 => 65 | 3 => 3 | 39 => 80 | 0 => 0 | 53 => 93 | 55 => 95 | 4 => 4 | 46 => 85 | 45 => 84 | 50 => 90 | 5 => 5 | 9 => 9 | 66 => 101 | 70 => 105 | 76 => 109 | 77 => 110 | n => n, fun | n => n⟩
theorem layS : Go.Proofs.SlLaysF.n6 Tryd.prog layS_ren := {
  mixed := by kernel_rfl,
  f6 := ⟨Tryd.f41.name, by decide, Tryd.func41.trans (congrArg some (by kernel_rfl))⟩,
  f14 := ⟨Tryd.f48.name, by decide, Tryd.func48.trans (congrArg some (by kernel_rfl))⟩,
  f15 := Tryd.func46.trans (congrArg some (by kernel_rfl)),
  f20 := ⟨Tryd.f60.name, by decide, Tryd.func60.trans (congrArg some (by kernel_rfl))⟩,
  f21 := ⟨Tryd.f61.name, by decide, Tryd.func61.trans (congrArg some (by kernel_rfl))⟩,
  f22 := ⟨Tryd.f62.name, by decide, Tryd.func62.trans (congrArg some (by kernel_rfl))⟩,
  f23 := ⟨Tryd.f63.name, by decide, Tryd.func63.trans (congrArg some (by kernel_rfl))⟩,
  f24 := ⟨Tryd.f64.name, by decide, Tryd.func64.trans (congrArg some (by kernel_rfl))⟩,
  f25 := ⟨Tryd.f65.name, by decide, Tryd.func65.trans (congrArg some (by kernel_rfl))⟩,
  f26 := ⟨Tryd.f66.name, by decide, Tryd.func66.trans (congrArg some (by kernel_rfl))⟩,
  f27 := ⟨Tryd.f67.name, by decide, Tryd.func67.trans (congrArg some (by kernel_rfl))⟩,
  f28 := Tryd.func58.trans (congrArg some (by kernel_rfl)),
  f29 := Tryd.func59.trans (congrArg some (by kernel_rfl)),
  f46 := ⟨Tryd.f74.name, by decide, Tryd.func74.trans (congrArg some (by kernel_rfl))⟩,
  f47 := Tryd.func69.trans (congrArg some (by kernel_rfl)),
  f48 := Tryd.func70.trans (congrArg some (by kernel_rfl)),
  f49 := ⟨Tryd.f75.name, by decide, Tryd.func75.trans (congrArg some (by kernel_rfl))⟩,
  f50 := ⟨Tryd.f76.name, by decide, Tryd.func76.trans (congrArg some (by kernel_rfl))⟩,
  f57 := ⟨Tryd.f78.name, by decide, Tryd.func78.trans (congrArg some (by kernel_rfl))⟩,
  t0 := Tryd.underlying0,
  a0 := Tryd.isAgg0,
  z0 := Tryd.sizeOf0,
  v0 := Tryd.zeroValue0,
  t3 := Tryd.underlying3,
  a3 := Tryd.isAgg3,
  z3 := Tryd.sizeOf3,
  v3 := Tryd.zeroValue3,
  t4 := Tryd.underlying4,
  a4 := Tryd.isAgg4,
  z4 := Tryd.sizeOf4,
  v4 := Tryd.zeroValue4,
  t5 := Tryd.underlying5,
  a5 := Tryd.isAgg5,
  z5 := Tryd.sizeOf5,
  v5 := Tryd.zeroValue5,
  t9 := Tryd.underlying9,
  a9 := Tryd.isAgg9,
  z9 := Tryd.sizeOf9,
  v9 := Tryd.zeroValue9,
  t22 := Tryd.underlying60,
  a22 := Tryd.isAgg60,
  z22 := Tryd.sizeOf60,
  v22 := Tryd.zeroValue60,
  a24 := Tryd.isAgg28,
  z24 := Tryd.sizeOf28,
  t25 := Tryd.underlying65,
  a25 := Tryd.isAgg65,
  z25 := Tryd.sizeOf65,
  v25 := Tryd.zeroValue65,
  t39 := Tryd.underlying80,
  a39 := Tryd.isAgg80,
  z39 := Tryd.sizeOf80,
  v39 := Tryd.zeroValue80,
  t45 := Tryd.underlying84,
  a45 := Tryd.isAgg84,
  z45 := Tryd.sizeOf84,
  v45 := Tryd.zeroValue84,
  t46 := Tryd.underlying85,
  a46 := Tryd.isAgg85,
  z46 := Tryd.sizeOf85,
  v46 := Tryd.zeroValue85,
  t50 := Tryd.underlying90,
  a50 := Tryd.isAgg90,
  z50 := Tryd.sizeOf90,
  v50 := Tryd.zeroValue90,
  t53 := Tryd.underlying93,
  a53 := Tryd.isAgg93,
  z53 := Tryd.sizeOf93,
  v53 := Tryd.zeroValue93,
  t55 := Tryd.underlying95,
  a55 := Tryd.isAgg95,
  z55 := Tryd.sizeOf95,
  v55 := Tryd.zeroValue95,
  t66 := Tryd.underlying101,
  a66 := Tryd.isAgg101,
  z66 := Tryd.sizeOf101,
  v66 := Tryd.zeroValue101,
  t70 := Tryd.underlying105,
  a70 := Tryd.isAgg105,
  z70 := Tryd.sizeOf105,
  v70 := Tryd.zeroValue105,
  t76 := Tryd.underlying109,
  a76 := Tryd.isAgg109,
  z76 := Tryd.sizeOf109,
  v76 := Tryd.zeroValue109,
  t77 := Tryd.underlying110,
  a77 := Tryd.isAgg110,
  z77 := Tryd.sizeOf110,
  v77 := Tryd.zeroValue110 }

theorem ltE (x y : Int) : Go.Proofs.ltOf cfE x y = decide (x < y) := by
  unfold Go.Proofs.ltOf cfE
  by_cases h : x < y
  · rw [if_pos h, decide_eq_true h]; rfl
  · rw [if_neg h, decide_eq_false h]
    by_cases k : y < x
    · rw [if_pos k]; rfl
    · rw [if_neg k]; rfl
theorem swoE : Go.Sort.SWO (Go.Proofs.ltOf cfE) where
  irrefl x := by rw [ltE]; simp
  trans x y z h k := by rw [ltE, decide_eq_true_eq] at *; omega
  ntrans x y z h k := by rw [ltE, decide_eq_false_iff_not] at *; omega
theorem totE (x y : Int) (h : Go.Proofs.ltOf cfE x y = false) (k : Go.Proofs.ltOf cfE y x = false) : x = y := by
  rw [ltE, decide_eq_false_iff_not] at h k
  omega
theorem sort_rising (ss : List Int) : (ss.mergeSort fun x y => !(Go.Proofs.ltOf cfE) y x).Perm ss ∧ (ss.mergeSort fun x y => !(Go.Proofs.ltOf cfE) y x).Pairwise (· ≤ ·) := by
  have e : (fun x y : Int => !(Go.Proofs.ltOf cfE) y x) = fun x y => decide (x ≤ y) := by
    funext x y
    rw [ltE]
    by_cases h : y < x
    · rw [decide_eq_true h, decide_eq_false (by omega)]; rfl
    · rw [decide_eq_false h, decide_eq_true (by omega)]; rfl
  rw [e]
  refine ⟨List.mergeSort_perm _ _, ?_⟩
  have h := List.pairwise_mergeSort (le := fun x y : Int => decide (x ≤ y)) (fun a b c h1 h2 => by simp only [decide_eq_true_eq] at *; omega) (fun a b => by simp only [Bool.or_eq_true, decide_eq_true_eq]; omega) ss
  exact h.imp fun h => by simpa using h
theorem below_sortE {n g m : Nat} {w : World} (hg : n ≤ g) (hn : n ≤ w.heap.size) (d : Array Int) (os : Array Obj) : Below n w (Go.Proofs.sortWorld encZ w g 0 m d os) := by
  unfold Go.Proofs.sortWorld
  refine ⟨rfl, rfl, rfl, ?_, fun b hb => ?_⟩
  · simp [Go.Sort.putRow, Go.Sort.mapBlock, Go.Sort.ahead]
  · rw [Go.Sort.heap_grow_old _ _ (by simp [Go.Sort.putRow, Go.Sort.mapBlock, Go.Sort.ahead]; omega)]
    simp only [Go.Sort.putRow, Go.Sort.mapBlock, Go.Sort.ahead, Array.getElem?_modify]
    rw [if_neg (by omega)]

/-- slices.SortFunc at a row of errors that the call owns. -/
theorem sortE_any (ss : List Int) (hI : ∀ x ∈ ss, I64 x) (hs : ss.length ≤ 1000) (h0 : 0 < ss.length) (g cap base : Nat) (cur : Array Value) (T : TypeId) (w : World) (hg : w.heap[g]? = some (.cells cur T (0, 0))) (hb : base ≤ g) (hc1 : ss.length ≤ cap) (hc2 : cap ≤ maxLen) (hsz : cur.size = cap * 1) (htk : cur.toList.take (ss.length * 1) = ss.map encZ) :
    Calls Tryd.prog 41 #[.slice (some ⟨g, 0, none⟩) ss.length cap, .func (.func 28) #[] #[]] w fun e w' =>
      e = .returned (.tuple #[]) ∧ ∃ ks : List Int, ks.Perm ss ∧ ks.Pairwise (· ≤ ·) ∧ Sl 1 rInt (fun _ => True) w' (.slice (some ⟨g, 0, none⟩) ss.length cap) ks ∧ Below base w w' := by
  have hlt : g < w.heap.size := blk_lt hg
  obtain ⟨cc, ff⟩ := blk_cells hg
  have hH : Go.Sort.Holds encZ w g 0 ss.toArray := fun j hj => by
    have hj' : j < ss.length := by simpa using hj
    refine ⟨?_, ff _⟩
    have h1 : (cur.toList.take (ss.length * 1))[j]? = some (encZ ss.toArray[j]!) := by
      rw [htk, List.getElem?_map, List.getElem?_eq_getElem hj']
      simp [hj']
    rw [Nat.zero_add]
    refine cc j _ ?_
    rw [List.getElem?_take, if_pos (by omega)] at h1
    simpa using h1
  have eg : ∀ args w, (callFunc 28 args).run Tryd.prog w = .ok (.enter 28 args) w := enters_of Tryd.func28 (by kernel_rfl) rfl
  have hcon := Go.Proofs.Any.slices_SortFunc_total layS encZ (fun _ => rfl) cfE swoE 28 #[] g 0 cap ss.toArray w eg
    (Go.Proofs.CmpReads.lays fun m os dk _ x y => by
      refine Calls.mono (closure_any x y _) ?_
      rintro e w' ⟨rfl, rfl⟩
      exact ⟨rfl, 0, rfl⟩) hH hlt (by simp; omega) totE
  change Calls Tryd.prog 41 _ _ _ at hcon
  refine hcon.mono ?_
  rintro e w' ⟨rfl, n, os, rfl⟩
  obtain ⟨p1, p2⟩ := sort_rising ss
  have hlen := p1.length_eq
  refine ⟨rfl, _, p1, p2, ⟨some ⟨g, 0, none⟩, cap, by rw [hlen], by omega, hc2, by omega, fun i x hx => ?_⟩, below_sortE hb (by omega) _ _⟩
  have hi := (List.getElem?_eq_some_iff.1 hx).1
  have hh := Go.Proofs.holds_sortWorld encZ w g 0 n ss.toArray (ss.mergeSort fun x y => !(Go.Proofs.ltOf cfE) y x).toArray os hlt hH (by simp) i (by simpa using hi)
  refine ⟨g, 0, [.int .i64 x], rfl, trivial, rfl, fun j y hj => ?_, rfl, hI x (p1.mem_iff.1 (List.mem_of_getElem? hx))⟩
  rcases j with _ | j
  · obtain rfl : Value.int .i64 x = y := by simpa using hj
    rw [show i * 1 + 0 = i by omega]
    have h2 := hh.1
    have h3 : (ss.mergeSort fun x y => !(Go.Proofs.ltOf cfE) y x).toArray[i]! = x := by simp [hx]
    rw [h3] at h2
    exact h2
  · simp at hj

set_option maxRecDepth 100000 in
theorem sortedfunc_any (b n : Nat) (D : DataW Unit) (w : World) (hown : w.ownsMap Tryd.prog 28 (plainElem Tryd.prog 3) b n D) (hs : Maps.size D ≤ 1000) (Bm : Nat) (hBm : Bm < w.heap.size) (hm : w.cell? ⟨Bm, 0, none⟩ = some (.map (some b))) :
    Calls Tryd.prog 26 #[.func (.func 42) #[] #[.pointer (some ⟨Bm, 0, none⟩)], .func (.func 28) #[] #[]] w fun e w' =>
      ∃ (v : Value) (ks : List Int), e = .returned v ∧ ks.Perm (intKeys D) ∧ ks.Pairwise (· ≤ ·) ∧ Sl 1 rInt (fun _ => True) w' v ks ∧ Below w.heap.size w w' := by
  have cc := collect_any b n D w hown hs Bm hBm hm
  have hwf : ∀ x ∈ intKeys D, I64 x := fun x hx => by have := intKeys_wf hown Tryd.underlying28 x hx; simp [Lit.wf] at this; exact this
  have hlenD : (intKeys D).length = Maps.size D := by
    obtain ⟨es, hD, _⟩ := hown.entries keyE
    subst hD
    show (es.map _).length = es.length
    rw [List.length_map]
  have HWF := Lib.hid hwf
  clear hwf hown
  go_enter Tryd.func26, Tryd.ntmps26
  go_wp2_with fail
  refine Calls.mono cc ?_
  rintro e w1 ⟨v, ss, rfl, hp, ⟨hro, hrow⟩, hnil, B1⟩
  have hlen := hp.length_eq
  have HP := Lib.hid hp
  have hz1 := B1.size
  clear cc hp
  by_cases h0 : ss = []
  · obtain rfl := hnil.2 h0
    subst h0
    have c0 := Go.Proofs.AnyF.slices_SortFunc_none { layS with } none 0 (.func (.func 28) #[] #[]) w1
    clear hrow hnil
    go_wp2_with (go_at_call 41; refine Calls.mono c0 ?_; rintro e w2 ⟨rfl, rfl⟩)
    go_ret
    exact ⟨_, [], rfl, HP.out, List.Pairwise.nil, Sl_nil _ _ _ _, B1⟩
  · have h0' : 0 < ss.length := List.length_pos_iff.2 h0
    rcases hrow with ⟨hv, hz⟩ | ⟨g, cap, cur, rfl, hbg, hg, hnc, hcm, hcs, htk⟩
    · omega
    · have cs := sortE_any ss (fun x hx => HWF.out x (HP.out.mem_iff.1 hx)) (by omega) h0' g cap w.heap.size cur _ w1 hg hbg hnc hcm hcs htk
      have CS := Lib.hid cs
      clear hnil hro hcs htk hg hnc hcm cs h0 hlen hlenD
      go_wp2_with (go_at_call 41; refine Calls.mono CS.out ?_; rintro e w2 ⟨rfl, ks, p1, p2, sl, B2⟩; have P1 := Lib.hid p1; have P2 := Lib.hid p2; have SL := Lib.hid sl; clear p1 p2 sl)
      go_ret
      exact ⟨_, ks, rfl, P1.out.trans HP.out, P2.out, SL.out, B1.trans B2⟩
end Go.Proofs.YtalhilelbebfbaaDoor
