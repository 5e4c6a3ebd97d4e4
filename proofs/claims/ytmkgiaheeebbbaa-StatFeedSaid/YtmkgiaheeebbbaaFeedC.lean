/- Layer stat: Counts of a feed. Condition: the pointer leads to a feed that has counted at most a thousand answers. -/
import Derived.Test.YtmkgiaheeebbbaaFeedB
import Derived.Test.YtmkgiaheeebbbaaStSorted
namespace Go.Proofs.Ytmkgiaheeebbbaa
open Go.RowKit Go.Conc Go.Maps

theorem fcounts_any {w : World} {g b c m room : Nat} {lost : Int} {Q : List Value} {n : Nat} {D : DataW Unit} {f : Int → Int} {K : Int → Prop} (h : FeedS w g b c m room lost Q n D) (hm : MapIs D f K) (hn : n ≤ 1000) :
    Calls Try.prog 12 #[.pointer (some ⟨g, 0, none⟩)] w fun e w' => (∃ u R, e = .returned u ∧ Sl 2 rCount (fun _ => True) w' u R ∧ IsCounts f K R) ∧ Below w.heap.size w w' := by
  have his := Lib.hid (feedis_any h.feed)
  have hs := Lib.hid (sorted_any m n D f K w h.own hm hn)
  obtain ⟨cb, fb⟩ := blk_cells h.feed
  have c2 := cb 2 _ rfl
  clear cb h hm fb
  go_enter Try.func12, Try.ntmps12
  go_wp2_with (first
    | (go_at_call 18; refine Calls.mono his.out ?_; rintro e w1 ⟨rfl, rfl⟩)
    | (go_at_call 16; refine Calls.mono hs.out ?_; rintro e w2 ⟨⟨u, R, rfl, SU, IC⟩, B2⟩; have SU' := Lib.hid SU; have IC' := Lib.hid IC; clear SU IC))
  go_ret
  exact ⟨⟨_, _, rfl, SU'.out, IC'.out⟩, B2⟩
end Go.Proofs.Ytmkgiaheeebbbaa
