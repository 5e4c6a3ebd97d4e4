/- Layer stat: slices.SortedFunc over a map's keys. Conditions: the map is the call's own, of at most a thousand keys. -/
import Derived.Shelf.SlSortCmp.NoneTotal
import Derived.Shelf.GgSortFunc.Compose
import Derived.Test.YtmkgiaheeebbbaaStCmp
namespace Go.Proofs.Ytmkgiaheeebbbaa
open Go.RowKit Go.Deep Go.Shelf Go.Maps

def layS_ren : Go.Shelf.Ren := ⟨fun | 6 => 32 | 15 => 37 | 14 => 36 | 28 => 46 | 29 => 47 | 20 => 38 | 21 => 39 | 22 => 40 | 23 => 41 | 24 => 42 | 25 => 43 | 26 => 44 | 27 => 45 | 46 => 48 | 47 => 49 | 48 => 50 | 49 => 51 | 50 => 52 | 57 => 53 | n => n, fun | 22 => 62 | 24 => 26 | 25 => 67 | 3 => 3 | 39 => 81 | 0 => 0 | 53 => 91 | 55 => 93 | 4 => 4 | 46 => 84 | 45 => 83 | 50 => 88 | 5 => 5 | 9 => 9 | 66 => 94 | 70 => 98 | 76 => 100 | 77 => 101 | n => n, fun | n => n⟩
theorem layS : Go.Proofs.SlLaysF.n6 Try.prog layS_ren := {
  mixed := by kernel_rfl,
  f6 := ⟨Try.f32.name, by decide, Try.func32.trans (congrArg some (by kernel_rfl))⟩,
  f14 := ⟨Try.f36.name, by decide, Try.func36.trans (congrArg some (by kernel_rfl))⟩,
  f15 := Try.func37.trans (congrArg some (by kernel_rfl)),
  f20 := ⟨Try.f38.name, by decide, Try.func38.trans (congrArg some (by kernel_rfl))⟩,
  f21 := ⟨Try.f39.name, by decide, Try.func39.trans (congrArg some (by kernel_rfl))⟩,
  f22 := ⟨Try.f40.name, by decide, Try.func40.trans (congrArg some (by kernel_rfl))⟩,
  f23 := ⟨Try.f41.name, by decide, Try.func41.trans (congrArg some (by kernel_rfl))⟩,
  f24 := ⟨Try.f42.name, by decide, Try.func42.trans (congrArg some (by kernel_rfl))⟩,
  f25 := ⟨Try.f43.name, by decide, Try.func43.trans (congrArg some (by kernel_rfl))⟩,
  f26 := ⟨Try.f44.name, by decide, Try.func44.trans (congrArg some (by kernel_rfl))⟩,
  f27 := ⟨Try.f45.name, by decide, Try.func45.trans (congrArg some (by kernel_rfl))⟩,
  f28 := Try.func46.trans (congrArg some (by kernel_rfl)),
  f29 := Try.func47.trans (congrArg some (by kernel_rfl)),
  f46 := ⟨Try.f48.name, by decide, Try.func48.trans (congrArg some (by kernel_rfl))⟩,
  f47 := Try.func49.trans (congrArg some (by kernel_rfl)),
  f48 := Try.func50.trans (congrArg some (by kernel_rfl)),
  f49 := ⟨Try.f51.name, by decide, Try.func51.trans (congrArg some (by kernel_rfl))⟩,
  f50 := ⟨Try.f52.name, by decide, Try.func52.trans (congrArg some (by kernel_rfl))⟩,
  f57 := ⟨Try.f53.name, by decide, Try.func53.trans (congrArg some (by kernel_rfl))⟩,
  t0 := Try.underlying0,
  a0 := Try.isAgg0,
  z0 := Try.sizeOf0,
  v0 := Try.zeroValue0,
  t3 := Try.underlying3,
  a3 := Try.isAgg3,
  z3 := Try.sizeOf3,
  v3 := Try.zeroValue3,
  t4 := Try.underlying4,
  a4 := Try.isAgg4,
  z4 := Try.sizeOf4,
  v4 := Try.zeroValue4,
  t5 := Try.underlying5,
  a5 := Try.isAgg5,
  z5 := Try.sizeOf5,
  v5 := Try.zeroValue5,
  t9 := Try.underlying9,
  a9 := Try.isAgg9,
  z9 := Try.sizeOf9,
  v9 := Try.zeroValue9,
  t22 := Try.underlying62,
  a22 := Try.isAgg62,
  z22 := Try.sizeOf62,
  v22 := Try.zeroValue62,
  a24 := Try.isAgg26,
  z24 := Try.sizeOf26,
  t25 := Try.underlying67,
  a25 := Try.isAgg67,
  z25 := Try.sizeOf67,
  v25 := Try.zeroValue67,
  t39 := Try.underlying81,
  a39 := Try.isAgg81,
  z39 := Try.sizeOf81,
  v39 := Try.zeroValue81,
  t45 := Try.underlying83,
  a45 := Try.isAgg83,
  z45 := Try.sizeOf83,
  v45 := Try.zeroValue83,
  t46 := Try.underlying84,
  a46 := Try.isAgg84,
  z46 := Try.sizeOf84,
  v46 := Try.zeroValue84,
  t50 := Try.underlying88,
  a50 := Try.isAgg88,
  z50 := Try.sizeOf88,
  v50 := Try.zeroValue88,
  t53 := Try.underlying91,
  a53 := Try.isAgg91,
  z53 := Try.sizeOf91,
  v53 := Try.zeroValue91,
  t55 := Try.underlying93,
  a55 := Try.isAgg93,
  z55 := Try.sizeOf93,
  v55 := Try.zeroValue93,
  t66 := Try.underlying94,
  a66 := Try.isAgg94,
  z66 := Try.sizeOf94,
  v66 := Try.zeroValue94,
  t70 := Try.underlying98,
  a70 := Try.isAgg98,
  z70 := Try.sizeOf98,
  v70 := Try.zeroValue98,
  t76 := Try.underlying100,
  a76 := Try.isAgg100,
  z76 := Try.sizeOf100,
  v76 := Try.zeroValue100,
  t77 := Try.underlying101,
  a77 := Try.isAgg101,
  z77 := Try.sizeOf101,
  v77 := Try.zeroValue101 }

theorem ltE (x y : Int) : Go.Proofs.ltOf cfE x y = decide (x < y) := by
  unfold Go.Proofs.ltOf cfE
  by_cases h : x < y
  · rw [if_pos h, decide_eq_true h]; rfl
  · rw [if_neg h, decide_eq_false h]
    by_cases k : y < x
    · rw [if_pos k]; rfl
    · rw [if_neg k]; rfl
theorem swoE : Go.Sort.SWO (Go.Proofs.ltOf cfE) where
  irrefl x := by rw [ltE]; simp
  trans x y z h k := by rw [ltE, decide_eq_true_eq] at *; omega
  ntrans x y z h k := by rw [ltE, decide_eq_false_iff_not] at *; omega
theorem totE (x y : Int) (h : Go.Proofs.ltOf cfE x y = false) (k : Go.Proofs.ltOf cfE y x = false) : x = y := by
  rw [ltE, decide_eq_false_iff_not] at h k
  omega
theorem sort_rising (ss : List Int) : (ss.mergeSort fun x y => !(Go.Proofs.ltOf cfE) y x).Perm ss ∧ (ss.mergeSort fun x y => !(Go.Proofs.ltOf cfE) y x).Pairwise (· ≤ ·) := by
  have e : (fun x y : Int => !(Go.Proofs.ltOf cfE) y x) = fun x y => decide (x ≤ y) := by
    funext x y
    rw [ltE]
    by_cases h : y < x
    · rw [decide_eq_true h, decide_eq_false (by omega)]; rfl
    · rw [decide_eq_false h, decide_eq_true (by omega)]; rfl
  rw [e]
  refine ⟨List.mergeSort_perm _ _, ?_⟩
  have h := List.pairwise_mergeSort (le := fun x y : Int => decide (x ≤ y)) (fun a b c h1 h2 => by simp only [decide_eq_true_eq] at *; omega) (fun a b => by simp only [Bool.or_eq_true, decide_eq_true_eq]; omega) ss
  exact h.imp fun h => by simpa using h
theorem below_sortE {n g m : Nat} {w : World} (hg : n ≤ g) (hn : n ≤ w.heap.size) (d : Array Int) (os : Array Obj) : Below n w (Go.Proofs.sortWorld encZ w g 0 m d os) := by
  unfold Go.Proofs.sortWorld
  refine ⟨rfl, rfl, rfl, ?_, fun b hb => ?_⟩
  · simp [Go.Sort.putRow, Go.Sort.mapBlock, Go.Sort.ahead]
  · rw [Go.Sort.heap_grow_old _ _ (by simp [Go.Sort.putRow, Go.Sort.mapBlock, Go.Sort.ahead]; omega)]
    simp only [Go.Sort.putRow, Go.Sort.mapBlock, Go.Sort.ahead, Array.getElem?_modify]
    rw [if_neg (by omega)]

/-- slices.SortFunc at a row of errors that the call owns. -/
theorem sortE_any (ss : List Int) (hI : ∀ x ∈ ss, I64 x) (hs : ss.length ≤ 1000) (h0 : 0 < ss.length) (g cap base : Nat) (cur : Array Value) (T : TypeId) (w : World) (hg : w.heap[g]? = some (.cells cur T (0, 0))) (hb : base ≤ g) (hc1 : ss.length ≤ cap) (hc2 : cap ≤ maxLen) (hsz : cur.size = cap * 1) (htk : cur.toList.take (ss.length * 1) = ss.map encZ) :
    Calls Try.prog 32 #[.slice (some ⟨g, 0, none⟩) ss.length cap, .func (.func 27) #[] #[]] w fun e w' =>
      e = .returned (.tuple #[]) ∧ ∃ ks : List Int, ks.Perm ss ∧ ks.Pairwise (· ≤ ·) ∧ Sl 1 rInt (fun _ => True) w' (.slice (some ⟨g, 0, none⟩) ss.length cap) ks ∧ Below base w w' := by
  have hlt : g < w.heap.size := blk_lt hg
  obtain ⟨cc, ff⟩ := blk_cells hg
  have hH : Go.Sort.Holds encZ w g 0 ss.toArray := fun j hj => by
    have hj' : j < ss.length := by simpa using hj
    refine ⟨?_, ff _⟩
    have h1 : (cur.toList.take (ss.length * 1))[j]? = some (encZ ss.toArray[j]!) := by
      rw [htk, List.getElem?_map, List.getElem?_eq_getElem hj']
      simp [hj']
    rw [Nat.zero_add]
    refine cc j _ ?_
    rw [List.getElem?_take, if_pos (by omega)] at h1
    simpa using h1
  have eg : ∀ args w, (callFunc 27 args).run Try.prog w = .ok (.enter 27 args) w := enters_of Try.func27 (by kernel_rfl) rfl
  have hcon := Go.Proofs.Any.slices_SortFunc_total layS encZ (fun _ => rfl) cfE swoE 27 #[] g 0 cap ss.toArray w eg
    (Go.Proofs.CmpReads.lays fun m os dk _ x y => by
      refine Calls.mono (closure_any x y _) ?_
      rintro e w' ⟨rfl, rfl⟩
      exact ⟨rfl, 0, rfl⟩) hH hlt (by simp; omega) totE
  change Calls Try.prog 32 _ _ _ at hcon
  refine hcon.mono ?_
  rintro e w' ⟨rfl, n, os, rfl⟩
  obtain ⟨p1, p2⟩ := sort_rising ss
  have hlen := p1.length_eq
  refine ⟨rfl, _, p1, p2, ⟨some ⟨g, 0, none⟩, cap, by rw [hlen], by omega, hc2, by omega, fun i x hx => ?_⟩, below_sortE hb (by omega) _ _⟩
  have hi := (List.getElem?_eq_some_iff.1 hx).1
  have hh := Go.Proofs.holds_sortWorld encZ w g 0 n ss.toArray (ss.mergeSort fun x y => !(Go.Proofs.ltOf cfE) y x).toArray os hlt hH (by simp) i (by simpa using hi)
  refine ⟨g, 0, [.int .i64 x], rfl, trivial, rfl, fun j y hj => ?_, rfl, hI x (p1.mem_iff.1 (List.mem_of_getElem? hx))⟩
  rcases j with _ | j
  · obtain rfl : Value.int .i64 x = y := by simpa using hj
    rw [show i * 1 + 0 = i by omega]
    have h2 := hh.1
    have h3 : (ss.mergeSort fun x y => !(Go.Proofs.ltOf cfE) y x).toArray[i]! = x := by simp [hx]
    rw [h3] at h2
    exact h2
  · simp at hj

set_option maxRecDepth 100000 in
theorem sortedfunc_any (b n : Nat) (D : DataW Unit) (w : World) (hown : w.ownsMap Try.prog 26 (plainElem Try.prog 3) b n D) (hs : Maps.size D ≤ 1000) (Bm : Nat) (hBm : Bm < w.heap.size) (hm : w.cell? ⟨Bm, 0, none⟩ = some (.map (some b))) :
    Calls Try.prog 25 #[.func (.func 33) #[] #[.pointer (some ⟨Bm, 0, none⟩)], .func (.func 27) #[] #[]] w fun e w' =>
      ∃ (v : Value) (ks : List Int), e = .returned v ∧ ks.Perm (intKeys D) ∧ ks.Pairwise (· ≤ ·) ∧ Sl 1 rInt (fun _ => True) w' v ks ∧ Below w.heap.size w w' := by
  have cc := collect_any b n D w hown hs Bm hBm hm
  have hwf : ∀ x ∈ intKeys D, I64 x := fun x hx => by have := intKeys_wf hown Try.underlying26 x hx; simp [Lit.wf] at this; exact this
  have hlenD : (intKeys D).length = Maps.size D := by
    obtain ⟨es, hD, _⟩ := hown.entries keyE
    subst hD
    show (es.map _).length = es.length
    rw [List.length_map]
  have HWF := Lib.hid hwf
  clear hwf hown
  go_enter Try.func25, Try.ntmps25
  go_wp2_with fail
  refine Calls.mono cc ?_
  rintro e w1 ⟨v, ss, rfl, hp, ⟨hro, hrow⟩, hnil, B1⟩
  have hlen := hp.length_eq
  have HP := Lib.hid hp
  have hz1 := B1.size
  clear cc hp
  by_cases h0 : ss = []
  · obtain rfl := hnil.2 h0
    subst h0
    have c0 := Go.Proofs.AnyF.slices_SortFunc_none { layS with } none 0 (.func (.func 27) #[] #[]) w1
    clear hrow hnil
    go_wp2_with (go_at_call 32; refine Calls.mono c0 ?_; rintro e w2 ⟨rfl, rfl⟩)
    go_ret
    exact ⟨_, [], rfl, HP.out, List.Pairwise.nil, Sl_nil _ _ _ _, B1⟩
  · have h0' : 0 < ss.length := List.length_pos_iff.2 h0
    rcases hrow with ⟨hv, hz⟩ | ⟨g, cap, cur, rfl, hbg, hg, hnc, hcm, hcs, htk⟩
    · omega
    · have cs := sortE_any ss (fun x hx => HWF.out x (HP.out.mem_iff.1 hx)) (by omega) h0' g cap w.heap.size cur _ w1 hg hbg hnc hcm hcs htk
      have CS := Lib.hid cs
      clear hnil hro hcs htk hg hnc hcm cs h0 hlen hlenD
      go_wp2_with (go_at_call 32; refine Calls.mono CS.out ?_; rintro e w2 ⟨rfl, ks, p1, p2, sl, B2⟩; have P1 := Lib.hid p1; have P2 := Lib.hid p2; have SL := Lib.hid sl; clear p1 p2 sl)
      go_ret
      exact ⟨_, ks, rfl, P1.out.trans HP.out, P2.out, SL.out, B1.trans B2⟩
end Go.Proofs.Ytmkgiaheeebbbaa
