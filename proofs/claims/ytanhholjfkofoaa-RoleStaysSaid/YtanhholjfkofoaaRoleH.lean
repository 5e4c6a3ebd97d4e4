/- Layer role: how one list came from another one. Conditions: none but that lists and texts are within a row's reach. -/
import Derived.Test.YtanhholjfkofoaaRoleG
namespace Go.Proofs.Ytanhholjfkofoaa
open Go.RowKit Go.Deep

def dif1 (now : List Member) (l : List Member) : List ByteArray := (l.filter fun m => !(ofOf now m.name == m.role)).map (·.name)
def dif2 (was : List Member) (l : List Member) : List ByteArray := (l.filter fun m => ofOf was m.name == 0).map (·.name)
theorem dif1_take {now l : List Member} {k : Nat} {m : Member} (h : l[k]? = some m) : dif1 now (l.take (k + 1)) = dif1 now (l.take k) ++ if ofOf now m.name == m.role then [] else [m.name] := by
  rw [List.take_add_one, h]
  unfold dif1
  rw [List.filter_append, List.map_append]
  congr 1
  cases h : ofOf now m.name == m.role <;> simp [h]
theorem dif2_take {was l : List Member} {k : Nat} {m : Member} (h : l[k]? = some m) : dif2 was (l.take (k + 1)) = dif2 was (l.take k) ++ if ofOf was m.name == 0 then [m.name] else [] := by
  rw [List.take_add_one, h]
  unfold dif2
  rw [List.filter_append, List.map_append]
  congr 1
  cases h : ofOf was m.name == 0 <;> simp [h]
theorem dif1_len (now l : List Member) : (dif1 now l).length ≤ l.length := by
  unfold dif1
  rw [List.length_map]
  exact List.length_filter_le _ _
theorem dif2_len (was l : List Member) : (dif2 was l).length ≤ l.length := by
  unfold dif2
  rw [List.length_map]
  exact List.length_filter_le _ _

set_option maxHeartbeats 4000000 in
theorem differ_any (was now : List Member) (v u : Value) (w : World) (S S' : Nat → Prop) (h : Sl 2 rMember S w v was) (k : Sl 2 rMember S' w u now) (hl0 : was.length ≤ 100000) (hl1 : now.length ≤ 100000) :
    Calls Try.prog 35 #[v, u] w fun e w' => (∃ v', e = .returned v' ∧ Sl 1 rStr (fun _ => True) w' v' (dif1 now was ++ dif2 was now)) ∧ Below w.heap.size w w' := by
  obtain ⟨istring, histring, hzstring, h1string, h2string⟩ := info_parts (show (Try.prog.info? 9).map (fun i => (i.zero, i.size, i.bytes)) = some (some (.string ⟨#[]⟩), 1, 16) from by kernel_rfl)
  have co1 : ∀ name W, Below w.heap.size w W → Calls Try.prog 13 #[u, .string name] W fun e w' => e = .returned (.int .i64 (ofOf now name)) ∧ Below W.heap.size W w' := fun name W hb => of_any name now u W S' (k.keep rMember_ok (by decide) (kept_of hb))
  have co2 : ∀ name W, Below w.heap.size w W → Calls Try.prog 13 #[v, .string name] W fun e w' => e = .returned (.int .i64 (ofOf was name)) ∧ Below W.heap.size W w' := fun name W hb => of_any name was v W S (h.keep rMember_ok (by decide) (kept_of hb))
  obtain ⟨A, c, rfl, hl, hc, hn, hs⟩ := h
  obtain ⟨A', c', rfl, hl', hc', hn', hs'⟩ := k
  unfold maxLen at hc hc'
  go_enter Try.func35, Try.ntmps35
  go_wp2
  go_loopw [5, 12] (fun s i wr => ∃ (k : Nat) (v : Value), k ≤ was.length ∧ i = .int .i64 k ∧ v = s ∧ Grow 9 1 rStr (fun _ => False) wr w.heap.size v (dif1 now (was.take k)) ∧ Below w.heap.size w wr) (fun _ i _ => was.length - (intOf i).toNat)
  case atStart => exact ⟨0, _, by omega, by go_num, rfl, Grow.nil, by go_grown⟩
  case round =>
    obtain ⟨k, v, hk, rfl, rfl, hg, hbel⟩ := hrel
    have hz := hbel.size
    have hgb := hg.base_le
    by_cases hlt : k < was.length
    · obtain ⟨wo, rfl⟩ : ∃ wo : World, wo = wr := ⟨_, rfl⟩
      obtain ⟨x, x_b, x_o, x_k, x_d, x_m, rfl, x_l, x_S, x_0, x_1, x_R, x_name_le, x_role_ok⟩ := get_Member hs hlt (kept_of hbel)
      obtain ⟨y0, hy0, cy0, fzy0, By0, qy0⟩ := boxed wo #[.string x.name, .int .i64 x.role] 44
      have y0_0 := cy0 0 _ rfl
      have y0_1 := cy0 1 _ rfl
      clear cy0
      have zy0 := By0.size
      have k0 := held_cells y0_0
      have k1 := held_cells y0_1
      have co : ∀ W, Below y0.heap.size y0 W → Calls Try.prog 13 #[.slice A' now.length c', .string x.name] W fun e w' => e = .returned (.int .i64 (ofOf now x.name)) ∧ Below W.heap.size W w' := fun W hb => co1 _ W (bel_call (bel_call hbel By0) hb)
      have hlen : (dif1 now (was.take k)).length ≤ k := Nat.le_trans (dif1_len _ _) (List.length_take_le _ _)
      have TK := Lib.hid (dif1_take (now := now) x_k)
      clear x_k x_d
      cases hx : ofOf now x.name == x.role
      · rw [hx] at TK
        have TK2 := Lib.hid (show dif1 now (was.take (k + 1)) = dif1 now (was.take k) ++ [x.name] from TK.out)
        clear TK
        generalize ofOf now x.name = q at co hx
        go_wp2_with fail
        go_region_held3 (fun W => Below y0.heap.size y0 W) (first | assumption | exact (Below.refl _ _).drew | exact Below.drew (by assumption) | exact bel_call (by assumption) (by assumption)) (first | (go_at_call 13; refine Calls.mono (co _ (by assumption)) ?_; rintro e Wh0 ⟨rfl, hh0⟩))
        go_wp2_with (at_builtin; go_loud (refine wpList_grow1 (R := rStr) _ _ rfl (.tmp 23) (.tmp 26) 47 rfl 9 istring _ 1 16 Try.underlying47 histring hzstring h1string h2string rfl (by decide) rStr_ok w.heap.size (bel_call (bel_call hbel By0) (show Below y0.heap.size y0 Wh0 from by assumption)).size _ _ rfl (Grow.below rStr_ok hg (bel_call By0 (show Below y0.heap.size y0 Wh0 from by assumption))) _ _ rfl (by simp only [World.size_alloc, World.size_setCell, World.size_drew]) _ (by intro b hb; exact hb.elim) ⟨rfl, x_name_le⟩ (by omega) (by decide) ?_); intro v1 w1 g1 gg1 go1; obtain ⟨A1, n1, c1, rfl, hn1⟩ := g1.shape'; clear hn1; go_loud (have B1 : Below w.heap.size w w1 := Below.grown (bel_call (bel_call hbel By0) (show Below y0.heap.size y0 Wh0 from by assumption)) gg1 (bel_call (bel_call hbel By0) (show Below y0.heap.size y0 Wh0 from by assumption)).size fun b hb => (hgb b hb).1))
        go_roundw
        case rel => exact ⟨k + 1, _, by omega, by go_num, rfl, by rw [TK2.out]; exact g1, B1⟩
        case measure => simp [intOf]; omega
      · rw [hx] at TK
        have TK2 := Lib.hid (show dif1 now (was.take (k + 1)) = dif1 now (was.take k) by rw [TK.out]; simp)
        clear TK
        generalize ofOf now x.name = q at co hx
        go_wp2_with fail
        go_region_held3 (fun W => Below y0.heap.size y0 W) (first | assumption | exact (Below.refl _ _).drew | exact Below.drew (by assumption) | exact bel_call (by assumption) (by assumption)) (first | (go_at_call 13; refine Calls.mono (co _ (by assumption)) ?_; rintro e Wh0 ⟨rfl, hh0⟩))
        go_wp2
        go_roundw
        case rel => exact ⟨k + 1, _, by omega, by go_num, rfl, by rw [TK2.out]; exact Grow.below rStr_ok hg (bel_call By0 (by assumption)), bel_call (bel_call hbel By0) (by assumption)⟩
        case measure => simp [intOf]; omega
    · obtain rfl : k = was.length := by omega
      rw [List.take_length] at hg
      obtain ⟨wo, rfl⟩ : ∃ wo : World, wo = wr := ⟨_, rfl⟩
      go_wp2
      go_loopw [5, 31] (fun s i wr => ∃ (k : Nat) (v : Value), k ≤ now.length ∧ i = .int .i64 k ∧ v = s ∧ Grow 9 1 rStr (fun _ => False) wr w.heap.size v (dif1 now was ++ dif2 was (now.take k)) ∧ Below w.heap.size w wr) (fun _ i _ => now.length - (intOf i).toNat)
      case atStart => exact ⟨0, _, by omega, by go_num, rfl, by simpa [dif2] using hg, by go_grown⟩
      case round =>
        clear hg hgb
        obtain ⟨k, v, hk, rfl, rfl, hg, hbel⟩ := hrel
        have hz := hbel.size
        have hgb := hg.base_le
        by_cases hlt : k < now.length
        · obtain ⟨wp, rfl⟩ : ∃ wp : World, wp = wr := ⟨_, rfl⟩
          obtain ⟨x, x_b, x_o, x_k, x_d, x_m, rfl, x_l, x_S, x_0, x_1, x_R, x_name_le, x_role_ok⟩ := get_Member hs' hlt (kept_of hbel)
          obtain ⟨y0, hy0, cy0, fzy0, By0, qy0⟩ := boxed wp #[.string x.name, .int .i64 x.role] 44
          have y0_0 := cy0 0 _ rfl
          have y0_1 := cy0 1 _ rfl
          clear cy0
          have zy0 := By0.size
          have k0 := held_cells y0_0
          have co : ∀ W, Below y0.heap.size y0 W → Calls Try.prog 13 #[.slice A was.length c, .string x.name] W fun e w' => e = .returned (.int .i64 (ofOf was x.name)) ∧ Below W.heap.size W w' := fun W hb => co2 _ W (bel_call (bel_call hbel By0) hb)
          have hlen : (dif1 now was ++ dif2 was (now.take k)).length ≤ was.length + k := by
            rw [List.length_append]
            have := dif1_len now was
            have := Nat.le_trans (dif2_len was (now.take k)) (List.length_take_le _ _)
            omega
          have TK := Lib.hid (dif2_take (was := was) x_k)
          clear x_k x_d
          cases hx : ofOf was x.name == 0
          · rw [hx] at TK
            have TK2 := Lib.hid (show dif1 now was ++ dif2 was (now.take (k + 1)) = dif1 now was ++ dif2 was (now.take k) by rw [TK.out]; simp)
            clear TK
            generalize ofOf was x.name = q at co hx
            go_wp2_with (go_at_call 13; refine Calls.mono (co _ (Below.refl _ _)) ?_; rintro e w2 ⟨rfl, b2⟩)
            go_roundw
            case rel => exact ⟨k + 1, _, by omega, by go_num, rfl, by rw [TK2.out]; exact Grow.below rStr_ok hg (bel_call By0 b2), bel_call (bel_call hbel By0) b2⟩
            case measure => simp [intOf]; omega
          · rw [hx] at TK
            have TK2 := Lib.hid (show dif1 now was ++ dif2 was (now.take (k + 1)) = (dif1 now was ++ dif2 was (now.take k)) ++ [x.name] by rw [TK.out, List.append_assoc]; rfl)
            clear TK
            generalize ofOf was x.name = q at co hx
            go_wp2_with (first
              | (go_at_call 13; refine Calls.mono (co _ (Below.refl _ _)) ?_; rintro e w2 ⟨rfl, b2⟩; have x2 := k0 w2 b2; have z2 := b2.size; have G2 := Grow.below rStr_ok hg (bel_call By0 b2))
              | (at_builtin; go_loud (refine wpList_grow1 (R := rStr) _ _ rfl (.tmp 40) (.tmp 43) 47 rfl 9 istring _ 1 16 Try.underlying47 histring hzstring h1string h2string rfl (by decide) rStr_ok w.heap.size (by go_size) _ _ rfl G2 _ _ rfl (by simp only [World.size_alloc, World.size_setCell, World.size_drew]) _ (by intro b hb; exact hb.elim) ⟨rfl, x_name_le⟩ (by omega) (by decide) ?_); intro v1 w1 g1 gg1 go1; obtain ⟨A1, n1, c1, rfl, hn1⟩ := g1.shape'; clear hn1; go_loud (have B1 : Below w.heap.size w w1 := Below.grown (bel_call (bel_call hbel By0) b2) gg1 (by go_size) fun b hb => (hgb b hb).1)))
            go_roundw
            case rel => exact ⟨k + 1, _, by omega, by go_num, rfl, by rw [TK2.out]; exact g1, B1⟩
            case measure => simp [intOf]; omega
        · obtain rfl : k = now.length := by omega
          rw [List.take_length] at hg
          go_wp2
          go_ret
          exact ⟨⟨_, rfl, hg.sl rStr_ok (fun _ _ _ => trivial) (fun _ _ => trivial)⟩, hbel⟩
end Go.Proofs.Ytanhholjfkofoaa
