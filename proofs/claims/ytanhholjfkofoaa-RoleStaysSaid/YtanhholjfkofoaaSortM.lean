/- Layer role: slices.SortFunc at a call's own list of members. Condition: at most 12 of them. -/
import Derived.Test.YtanhholjfkofoaaSort
import Derived.Test.YtanhholjfkofoaaBlk
namespace Go.Proofs.Ytanhholjfkofoaa
open Go.RowKit Go.Deep

instance memberInh : Inhabited Member := ⟨⟨⟨#[]⟩, 0⟩⟩
def encM (x : Member) : List Value := [.string x.name, .int .i64 x.role]
def cmpM (a b : Member) : Int := cmpOf a.name b.name
theorem ltM (a b : Member) : Go.Proofs.ltOf cmpM a b = ltS a.name b.name := by
  unfold Go.Proofs.ltOf cmpM cmpOf
  cases h : ltS a.name b.name
  · cases k : ltS b.name a.name <;> simp
  · simp
theorem swoM : Go.Sort.SWO (Go.Proofs.ltOf cmpM) where
  irrefl x := by rw [ltM]; exact ltS_irrefl _
  trans x y z h k := by rw [ltM] at *; exact ltS_trans h k
  ntrans x y z h k := by
    rw [ltM] at *
    cases e : ltS x.name z.name
    · rfl
    · exfalso
      rcases ltS_total x.name y.name with h1 | h1 | h1
      · rw [h] at h1; cases h1
      · rw [h1, k] at e; cases e
      · have := ltS_trans h1 e; rw [k] at this; cases this

theorem sortclosure_any (x y : Member) (w : World) : Calls Try.prog 31 #[.agg (encM x).toArray, .agg (encM y).toArray] w fun e w' => e = .returned (.int .i64 (cmpM x y)) ∧ ∃ q os', w' = Go.Sort.grow (w.drewN q) os' := by
  have hcon := fun W => cmp_any x.name y.name W
  unfold cmpM
  generalize cmpOf x.name y.name = r at hcon ⊢
  show Calls Try.prog 31 #[.agg #[.string x.name, .int .i64 x.role], .agg #[.string y.name, .int .i64 y.role]] w _
  go_enter Try.func31, Try.ntmps31
  go_wp2_with (go_at_call 32; refine (hcon _).mono ?_; rintro e w' ⟨rfl, rfl⟩)
  go_ret
  exact ⟨rfl, 0, _, by rw [Go.Sort.alloc_eq_grow, Go.Sort.alloc_eq_grow, Go.Sort.grow_grow]; rfl⟩

theorem bitslen_any (n : Nat) (W : World) (h : n ≤ 12) : Calls Try.prog 40 #[.int .u64 n] W fun e w' => (∃ l : Int, e = .returned (.int .i64 l)) ∧ w' = W :=
  (Go.Proofs.Any.bits_Len bitsLen n W (by omega) (by omega)).mono fun _ _ ⟨he, hw⟩ => ⟨⟨_, he⟩, hw⟩

theorem flat_at (d : Array Member) (i j : Nat) (hi : i < d.size) (hj : j < 2) : (Go.Sort.flatK encM 2 d)[i * 2 + j]! = (encM d[i]!)[j]! := by
  rw [Go.Sort.get_flatK _ _ _ _ (by omega), show (i * 2 + j) / 2 = i by omega, show (i * 2 + j) % 2 = j by omega]
/-- The row's cells, from the elements' own. -/
theorem holds_of {w : World} {g : Nat} {l : List Member} (h : ∀ i x, l[i]? = some x → ∀ j y, (encM x)[j]? = some y → w.cell? ⟨g, i * 2 + j, none⟩ = some y) (hf : ∀ j, w.frozen? ⟨g, j, none⟩ = false) : Go.Sort.HoldsK encM 2 w g 0 l.toArray := by
  intro j hj
  rw [Go.Sort.size_flatK] at hj
  have hj' : j < l.length * 2 := by simpa using hj
  refine ⟨?_, hf _⟩
  obtain ⟨x, hx⟩ : ∃ x, l[j / 2]? = some x := ⟨_, List.getElem?_eq_getElem (show j / 2 < l.length by omega)⟩
  have hgx : l.toArray[j / 2]! = x := by simp [hx]
  have e1 := flat_at l.toArray (j / 2) (j % 2) (by simp; omega) (by omega)
  rw [show j / 2 * 2 + j % 2 = j by omega] at e1
  show w.cell? ⟨g, 0 + j, none⟩ = some (id _)
  rw [Nat.zero_add, id, e1, hgx]
  have := h _ x hx (j % 2)
  rw [show j / 2 * 2 + j % 2 = j by omega] at this
  refine this _ ?_
  rcases (show j % 2 = 0 ∨ j % 2 = 1 by omega) with h | h <;> rw [h] <;> rfl
theorem slat_of {w : World} {g : Nat} {d : Array Member} (h : Go.Sort.HoldsK encM 2 w g 0 d) (hd : ∀ x ∈ d.toList, x.name.size ≤ 140737488355328 ∧ I64 x.role) : SlAt 2 rMember (fun _ => True) w (some ⟨g, 0, none⟩) d.toList := by
  intro i x hi
  have hil : i < d.size := by have := (List.getElem?_eq_some_iff.1 hi).1; simpa using this
  have hx : d[i]! = x := by
    have := (List.getElem?_eq_some_iff.1 hi).2
    simp only [Array.getElem_toList] at this
    rw [getElem!_pos d i hil, this]
  refine ⟨g, 0, encM x, rfl, trivial, rfl, fun j y hj => ?_, rfl, hd x (List.mem_of_getElem? hi)⟩
  have hj2 : j < 2 := (List.getElem?_eq_some_iff.1 hj).1
  have h1 := (h (i * 2 + j) (by rw [Go.Sort.size_flatK]; omega)).1
  rw [h1, flat_at d i j hil hj2, hx]
  rcases (show j = 0 ∨ j = 1 by omega) with h | h <;> subst h <;> simpa [encM] using hj

theorem below_sort {n g m : Nat} {w : World} (hg : n ≤ g) (hn : n ≤ w.heap.size) (d : Array Member) (os : Array Obj) : Below n w (Go.Proofs.sortWorldK encM 2 w g 0 m d os) := by
  unfold Go.Proofs.sortWorldK
  refine ⟨rfl, rfl, rfl, ?_, fun b hb => ?_⟩
  · simp [Go.Sort.putRowK, Go.Sort.putRow, Go.Sort.mapBlock, Go.Sort.ahead]
  · rw [Go.Sort.heap_grow_old _ _ (by simp [Go.Sort.putRowK, Go.Sort.putRow, Go.Sort.mapBlock, Go.Sort.ahead]; omega)]
    simp only [Go.Sort.putRowK, Go.Sort.putRow, Go.Sort.mapBlock, Go.Sort.ahead, Array.getElem?_modify]
    rw [if_neg (by omega)]

theorem sort_any (l : List Member) (g cap base : Nat) (w : World) (cur : Array Value) (T : TypeId) (hg : w.heap[g]? = some (.cells cur T (0, 0))) (hb : base ≤ g) (h12 : l.length ≤ 12) (hc1 : l.length ≤ cap) (hc2 : cap ≤ maxLen)
    (hl : ∀ x ∈ l, x.name.size ≤ 140737488355328 ∧ I64 x.role) (hcell : ∀ i x, l[i]? = some x → ∀ j y, (encM x)[j]? = some y → cur[i * 2 + j]? = some y) :
    Calls Try.prog 30 #[.slice (some ⟨g, 0, none⟩) l.length cap, .func (.func 31) #[] #[]] w fun e w' =>
      e = .returned (.tuple #[]) ∧ Below base w w' ∧ ∃ l', l'.Perm l ∧ (∀ (i j : Nat) (x y : Member), i < j → l'[i]? = some x → l'[j]? = some y → ltS y.name x.name = false) ∧ Sl 2 rMember (fun _ => True) w' (.slice (some ⟨g, 0, none⟩) l.length cap) l' := by
  have hlt : g < w.heap.size := blk_lt hg
  obtain ⟨cc, ff⟩ := blk_cells hg
  have hH : Go.Sort.HoldsK encM 2 w g 0 l.toArray := holds_of (fun i x hx j y hy => cc _ _ (hcell i x hx j y hy)) ff
  have eg : ∀ args w, (callFunc 31 args).run Try.prog w = .ok (.enter 31 args) w := enters_of Try.func31 (by kernel_rfl) rfl
  have hcon := Go.Proofs.AnyQ.slices_SortFunc_small_sorted sortMember 2 Try.isAgg44 Try.sizeOf44 encM (fun _ => rfl) (fun x v hv => by simp [encM] at hv; rcases hv with rfl | rfl <;> rfl) cmpM 31 #[] swoM g 0 cap l.toArray w eg
    (fun m os dk _ x y => by simpa using sortclosure_any x y _) hH hlt (by simpa using h12) bitslen_any
  change Calls Try.prog 30 _ _ _ at hcon
  refine hcon.mono ?_
  rintro e w' ⟨rfl, d', n, os, ⟨hs, _, hp⟩, hsort, rfl⟩
  have hp' : d'.toList.Perm l := by
    rw [Array.extract_eq_self_of_le (by omega), Array.extract_eq_self_of_le (by omega)] at hp
    simpa using hp
  have hsl : d'.size = l.length := by simpa using hs
  refine ⟨rfl, below_sort hb (by omega) _ _, d'.toList, hp', fun i j x y hij hx hy => ?_, ?_⟩
  · have hjl := (List.getElem?_eq_some_iff.1 hy).1
    have h1 := hsort i j (Nat.zero_le _) hij (by simpa [hsl] using hjl)
    rw [ltM] at h1
    have hx' : d'[i]! = x := by
      have := (List.getElem?_eq_some_iff.1 hx).2
      have hil := (List.getElem?_eq_some_iff.1 hx).1
      simp only [Array.getElem_toList] at this
      rw [getElem!_pos d' i (by simpa using hil), this]
    have hy' : d'[j]! = y := by
      have := (List.getElem?_eq_some_iff.1 hy).2
      simp only [Array.getElem_toList] at this
      rw [getElem!_pos d' j (by simpa using hjl), this]
    rw [hx', hy'] at h1
    exact h1
  · refine ⟨_, cap, by simp [hsl], by simpa [hsl] using hc1, hc2, by simp [hsl]; omega, slat_of (Go.Proofs.holdsK_sortWorldK_c encM 2 w g 0 l.toArray d' n os hH hlt hs) fun x hx => hl x (hp'.mem_iff.1 hx)⟩
end Go.Proofs.Ytanhholjfkofoaa
