/- Layer granted: the things that are the first of their names. Conditions: as each theorem says. -/
import Derived.Test.YtocofkccdfaaaaaGrFirst
import Derived.Maps.OwnOps
import Derived.StringKeys
namespace Go.Proofs.Ytocofkccdfaaaaa
open Go.RowKit Go.Deep Go.Maps Go.WideMaps

def kS (s : Nm) : Lit := .string s.data.toList
theorem kS_inj {a b : Nm} : kS a = kS b ↔ a = b := by
  unfold kS
  rw [Lit.string.injEq]
  exact ⟨fun h => ByteArray.ext (Array.toList_inj.1 h), fun h => by rw [h]⟩
theorem isKey_kS (s : Nm) : WideAt.IsKeyLit (kS s) := by simp [kS, WideAt.IsKeyLit]
theorem keyN : Keyed Try.prog 9 := string_keyed Try.underlying9
theorem keyS {s : Nm} (h : s.size ≤ 140737488355328) : keyOf Try.prog 9 (.string s) = some (kS s) := keyOf_string_mk Try.underlying9 (by unfold maxLen; omega)
/-- How often a name is among names. -/
def cntN (l : List Nm) (s : Nm) : Nat := (l.filter fun y => decide (y = s)).length
theorem cntN_snoc (l : List Nm) (x s : Nm) : cntN (l ++ [x]) s = cntN l s + if x = s then 1 else 0 := by
  unfold cntN
  rw [List.filter_append, List.length_append]
  by_cases h : x = s <;> simp [h]
theorem cntN_le (l : List Nm) (s : Nm) : cntN l s ≤ l.length := List.length_filter_le _ _
theorem cntN_zero (l : List Nm) (s : Nm) : cntN l s = 0 ↔ s ∉ l := by
  unfold cntN
  rw [List.length_eq_zero_iff, List.filter_eq_nil_iff]
  constructor
  · intro h hs
    exact absurd (decide_eq_true (rfl : s = s)) (h s hs)
  · intro h y hy e
    have : y = s := of_decide_eq_true e
    exact h (this ▸ hy)
/-- A map that counts names. -/
structure Cnt (D : DataW Unit) (l : List Nm) : Prop where
  isMap : IsMap D
  val : ∀ s, D.atKey (kS s) (.lit (.int .i64 0)) = .lit (.int .i64 (cntN l s))
theorem Cnt.start : Cnt (.map []) [] := ⟨isMap_empty, fun s => by rw [atKey_of_not_has (by simp [Maps.has])]; rfl⟩
theorem Cnt.put {D : DataW Unit} {l : List Nm} (h : Cnt D l) (x : Nm) {c : Int} (hc : c = cntN l x + 1) : Cnt (D.put (kS x) (.lit (.int .i64 c))) (l ++ [x]) := by
  refine ⟨h.isMap.put _ _, fun s => ?_⟩
  rw [cntN_snoc]
  by_cases e : x = s
  · subst e
    rw [atKey_put_same h.isMap (isKey_kS _), if_pos rfl, hc]
    simp
  · rw [atKey_put_other fun e2 => e (kS_inj.1 e2).symm, h.val, if_neg e]
    simp

theorem nameFolder_any (x : Folder) (cs : List Value) (w : World) (S : Nat → Prop) (h : rFolder S w cs x) : Calls Try.prog 49 #[.agg cs.toArray] w fun e w' => e = .returned (.string x.name) ∧ Below w.heap.size w w' := by
  obtain ⟨x_A2, x_c2, x_A3, x_c3, x_A4, x_c4, x_A5, x_c5, x_A6, x_c6, rfl, x_name_le, x_turn_ok, x_manifests_l, x_manifests_m, x_manifests_n, x_manifests_s, x_epochs_l, x_epochs_m, x_epochs_n, x_epochs_s, x_items_l, x_items_m, x_items_n, x_items_s, x_wraps_l, x_wraps_m, x_wraps_n, x_wraps_s, x_links_l, x_links_m, x_links_n, x_links_s⟩ := open_Folder h
  go_enter Try.func49, Try.ntmps49
  go_wp2
  go_ret
  exact ⟨rfl, by go_grown⟩
theorem takeS_Folder {l : List Folder} {k : Nat} {x : Folder} (hx : l[k]? = some x) : firsts Folder.name (l.take (k + 1)) = if x.name ∈ (l.take k).map Folder.name then firsts Folder.name (l.take k) else firsts Folder.name (l.take k) ++ [x] := by
  rw [List.take_add_one, hx]
  exact firsts_snoc Folder.name _ _
set_option maxHeartbeats 2000000 in
set_option maxRecDepth 100000 in
theorem firstsFolder_any (l : List Folder) (v : Value) (w : World) (S : Nat → Prop) (h : Sl 7 rFolder S w v l) (hl : l.length ≤ 1000) : Calls Try.prog 48 #[v, .func (.func 49) #[] #[]] w fun e w' => (∃ (v' : Value) (ps : List (List Value × Folder)), e = .returned v' ∧ RowC 43 7 w' v' (ps.map (·.1)) ∧ ps.map (·.2) = firsts Folder.name l ∧ (∀ p ∈ ps, rFolder S w p.1 p.2) ∧ ∀ z, v'.ownBlock = some z → w.heap.size ≤ z) ∧ Below w.heap.size w w' := by
  obtain ⟨A, c, rfl, hlc, hc, hn, hs⟩ := h
  unfold maxLen at hc
  have hmm := @run_makeMap Try.prog
  have HL := Lib.hid hl
  clear hl
  obtain ⟨iFolder, hiFolder, hzFolder, h1Folder, h2Folder⟩ := info_parts (show (Try.prog.info? 43).map (fun i => (i.zero, i.size, i.bytes)) = some (some (.agg #[.string ⟨#[]⟩, .int .i64 0, .slice none 0 0, .slice none 0 0, .slice none 0 0, .slice none 0 0, .slice none 0 0]), 7, 144) from by kernel_rfl)
  go_enter Try.func48, Try.ntmps48
  go_wp2
  clear hmm
  go_loopw [5, 12] (fun vo i wr => ∃ (k : Nat) (D : DataW Unit) (ps : List (List Value × Folder)), k ≤ l.length ∧ i = .int .i64 k ∧ Hid (RowC 43 7 wr vo (ps.map (·.1))) ∧ Hid (ps.map (·.2) = firsts Folder.name (l.take k)) ∧ Hid (∀ p ∈ ps, rFolder S w p.1 p.2) ∧ Hid (∀ z, vo.ownBlock = some z → w.heap.size ≤ z) ∧ Hid (wr.ownsMap Try.prog 9 (plainElem Try.prog 3) w.heap.size k D) ∧ Hid (Cnt D ((l.take k).map Folder.name)) ∧ Below w.heap.size w wr) (fun _ i _ => l.length - (RowKit.intOf i).toNat)
  case atStart => exact ⟨0, _, [], by omega, by go_num, RowC.nil _, (by show _ = _; rfl), (fun p hp => by simp at hp), (fun z hz => by cases hz), World.ownsMap_made _ _ _ _, Cnt.start, by go_grown⟩
  case round =>
    obtain ⟨k, D, ps, hk, rfl, HG, HPS, HPR, HOB, HO, HC, hbel⟩ := hrel
    have hz := hbel.size
    obtain ⟨A2, n2, c2, rfl⟩ := HG.out.shape3
    by_cases hlt : k < l.length
    · obtain ⟨x, hx⟩ : ∃ x, l[k]? = some x := ⟨_, List.getElem?_eq_getElem hlt⟩
      obtain ⟨b, o, ys, hA, hbl, hR, hcz⟩ := SlAt.elem hs hx (by decide) hbel
      have HX := Lib.hid hx
      have HR := Lib.hid hR
      obtain ⟨x_A2, x_c2, x_A3, x_c3, x_A4, x_c4, x_A5, x_c5, x_A6, x_c6, rfl, x_name_le, x_turn_ok, x_manifests_l, x_manifests_m, x_manifests_n, x_manifests_s, x_epochs_l, x_epochs_m, x_epochs_n, x_epochs_s, x_items_l, x_items_m, x_items_n, x_items_s, x_wraps_l, x_wraps_m, x_wraps_n, x_wraps_s, x_links_l, x_links_m, x_links_n, x_links_s⟩ := open_Folder hR
      have u0 := hcz 0 _ rfl
      have u1 := hcz 1 _ rfl
      have u2 := hcz 2 _ rfl
      have u3 := hcz 3 _ rfl
      have u4 := hcz 4 _ rfl
      have u5 := hcz 5 _ rfl
      have u6 := hcz 6 _ rfl
      rw [Nat.add_zero] at u0
      subst hA
      have hki : (k : Int) < (l.length : Int) := by omega
      have HLL := HL.out
      have hcn := cntN_le ((l.take k).map Folder.name) x.name
      rw [List.length_map, List.length_take] at hcn
      have HFL := Lib.hid (show ps.length ≤ k by
        have h1 : ps.length = (firsts Folder.name (l.take k)).length := by rw [← HPS.out, List.length_map]
        rw [h1]
        exact Nat.le_trans (firsts_len Folder.name (l.take k)) (by rw [List.length_take]; exact Nat.min_le_left _ _))
      have hcn2 : cntN ((l.take k).map Folder.name) x.name ≤ 1000 := by omega
      have HCN := Lib.hid hcn2
      have hkey := keyS x_name_le
      have hob := HO.out.lt
      have HT := Lib.hid (takeS_Folder HX.out)
      have HC2 := Lib.hid (HC.out.put x.name (c := ((cntN ((l.take k).map Folder.name) x.name + 1 : Nat) : Int)) rfl)
      rw [show (l.take k).map Folder.name ++ [x.name] = (l.take (k + 1)).map Folder.name by rw [List.take_add_one, HX.out]; simp] at HC2
      have E0 := Lib.hid (HC.out.val x.name)
      have E1 := Lib.hid (show (D.put (kS x.name) (.lit (.int .i64 ((cntN ((l.take k).map Folder.name) x.name + 1 : Nat) : Int)))).atKey (kS x.name) (.lit (.int .i64 0)) = _ from atKey_put_same HC.out.isMap (isKey_kS _) _ _)
      have HM := Lib.hid (cntN_zero ((l.take k).map Folder.name) x.name)
      clear hx hcz hcn hcn2
      generalize hq : cntN ((l.take k).map Folder.name) x.name = q at HCN HC2 E0 E1 HM
      clear hq x_manifests_s x_epochs_s x_items_s x_wraps_s x_links_s
      go_wp2_with fail
      refine Calls.mono (nameFolder_any x _ _ S (rFolder_keep HR.out (kept_of (by go_grown)))) ?_
      rintro e w1 ⟨rfl, hb1⟩
      have T1 : w1.heap[wr.heap.size]? = some (.cells #[.string x.name, .int .i64 x.turn, .slice x_A2 x.manifests.length x_c2, .slice x_A3 x.epochs.length x_c3, .slice x_A4 x.items.length x_c4, .slice x_A5 x.wraps.length x_c5, .slice x_A6 x.links.length x_c6] 43 (0, 0)) := (hb1.block _ (by simp)).trans (by repeat' (first | (with_reducible assumption) | (with_reducible refine blk_set_other _ ?_ ?_; rotate_left; first | (with_reducible rfl) | ((try dsimp only); first | (with_reducible assumption) | omega | (simp only [World.size_alloc, World.size_setCell, World.size_drew]; done) | (simp only [World.size_alloc, World.size_setCell, World.size_drew]; omega))) | (with_reducible apply blk_set_same) | ((with_reducible apply blk_alloc_new); first | (with_reducible rfl) | ((try dsimp only); first | (with_reducible assumption) | omega | (simp only [World.size_alloc, World.size_setCell, World.size_drew]; done) | (simp only [World.size_alloc, World.size_setCell, World.size_drew]; omega))) | (with_reducible refine blk_alloc_old _ ?_) | (with_reducible refine blk_drew ?_) | (refine (rfl : (_ : Array Value) = _))))
      have B1 := Lib.hid (show Below wr.heap.size wr w1 from bel_call (by go_grown) hb1)
      have O1 := Lib.hid (own_below HO.out B1.out)
      have K1 := (blk_cells T1).1
      have k1_0 := K1 0 _ rfl
      have k1_1 := K1 1 _ rfl
      have k1_2 := K1 2 _ rfl
      have k1_3 := K1 3 _ rfl
      have k1_4 := K1 4 _ rfl
      have k1_5 := K1 5 _ rfl
      have k1_6 := K1 6 _ rfl
      have HT1 := Lib.hid T1
      clear T1 hb1 K1
      have hqb : q ≤ 1000 := HCN.out
      have hwr : IntKind.i64.wrap ((q : Int) + 1) = ((q + 1 : Nat) : Int) := by rw [IntWalk.i64_in _ (by omega)]; rfl
      go_wp2_with (first
        | (at_lookup; go_loud (refine wpList_lookup_own_int _ rfl _ _ 118 rfl 9 3 .i64 keyN Try.underlying118 Try.underlying3 (zeroInt _) w.heap.size k D rfl O1.out _ _ rfl hkey ?_); intro c hat hwc; obtain rfl : c = (q : Int) := (by have := hat.symm.trans E0.out; simpa using this); clear hat hwc)
        | (at_mapUpdate; go_loud (refine wpList_mapUpdate_own _ rfl _ _ _ 118 rfl 9 3 keyN Try.underlying118 _ w.heap.size k D rfl O1.out (by unfold maxLen; omega) _ (.int .i64 ((q + 1 : Nat) : Int)) _ rfl rfl hkey _ [] (plainElem_int Try.underlying3 (by have h : I64 ((q + 1 : Nat) : Int) := ⟨by omega, by omega⟩; simp [Lit.wf]; exact h)) ?_); intro w2 hown2 hg2; have O2 := Lib.hid hown2; have G2 := Lib.hid hg2; clear hown2 hg2; have T2 : w2.heap[wr.heap.size]? = some (.cells #[.string x.name, .int .i64 x.turn, .slice x_A2 x.manifests.length x_c2, .slice x_A3 x.epochs.length x_c3, .slice x_A4 x.items.length x_c4, .slice x_A5 x.wraps.length x_c5, .slice x_A6 x.links.length x_c6] 43 (0, 0)) := (G2.out.block _ (blk_lt HT1.out) (by simp; omega)).trans HT1.out; have K2 := (blk_cells T2).1; have k2_0 := K2 0 _ rfl; have k2_1 := K2 1 _ rfl; have k2_2 := K2 2 _ rfl; have k2_3 := K2 3 _ rfl; have k2_4 := K2 4 _ rfl; have k2_5 := K2 5 _ rfl; have k2_6 := K2 6 _ rfl; have HT2 := Lib.hid T2; clear T2 K2))
      have HNB := Lib.hid (show (Value.slice A2 n2 c2).ownBlock ≠ some w.heap.size from fun h => by
        obtain ⟨a, ha⟩ := rowC_ty HG.out h
        exact map_ne HO.out ha rfl)
      have W2 := Lib.hid (show RowC 43 7 w2 (.slice A2 n2 c2) (ps.map (·.1)) from (HG.out.below B1.out).keep fun b hb => G2.out.block b ((HG.out.below B1.out).lt b hb) fun e => HNB.out (hb.trans e))
      have B2 := Lib.hid (show Below w.heap.size w w2 from Below.grown (bel_call hbel B1.out) G2.out (Nat.le_trans hz B1.out.size) fun b hb => by obtain rfl := Option.some.inj hb; exact Nat.le_refl _)
      have KM := O2.out.lt
      refine Calls.mono (nameFolder_any x _ _ S (rFolder_keep HR.out (kept_of B2.out))) ?_
      rintro e w3 ⟨rfl, hb3⟩
      have B3 := Lib.hid hb3
      have O3 := Lib.hid (own_below O2.out B3.out)
      have T3 : w3.heap[wr.heap.size]? = some (.cells #[.string x.name, .int .i64 x.turn, .slice x_A2 x.manifests.length x_c2, .slice x_A3 x.epochs.length x_c3, .slice x_A4 x.items.length x_c4, .slice x_A5 x.wraps.length x_c5, .slice x_A6 x.links.length x_c6] 43 (0, 0)) := (hb3.block _ (blk_lt HT2.out)).trans HT2.out
      have K3 := (blk_cells T3).1
      have k3_0 := K3 0 _ rfl
      have k3_1 := K3 1 _ rfl
      have k3_2 := K3 2 _ rfl
      have k3_3 := K3 3 _ rfl
      have k3_4 := K3 4 _ rfl
      have k3_5 := K3 5 _ rfl
      have k3_6 := K3 6 _ rfl
      have W3 := Lib.hid (W2.out.below hb3)
      have B23 := Lib.hid (bel_call B2.out hb3)
      clear T3 K3 hb3 B2 B3 KM
      have hlen : (ps.map (·.1)).length ≤ 1000 := by rw [List.length_map]; have := HFL.out; omega
      have HLE := Lib.hid hlen
      clear hlen
      by_cases hmem : q = 0
      · have hN := HM.out.1 hmem
        rw [if_neg hN] at HT
        subst hmem
        go_wp2_with (first
          | (at_lookup; go_loud (refine wpList_lookup_own_int _ rfl _ _ 118 rfl 9 3 .i64 keyN Try.underlying118 Try.underlying3 (zeroInt _) w.heap.size (k + 1) _ rfl O3.out _ _ rfl hkey ?_); intro c hat hwc; obtain rfl : c = (1 : Int) := (by have := hat.symm.trans E1.out; simpa using this); clear hat hwc)
          | (at_builtin; refine wpList_rowB w3 _ [.string x.name, .int .i64 x.turn, .slice x_A2 x.manifests.length x_c2, .slice x_A3 x.epochs.length x_c3, .slice x_A4 x.items.length x_c4, .slice x_A5 x.wraps.length x_c5, .slice x_A6 x.links.length x_c6] rfl (.tmp 28) (.tmp 30) 24 rfl iFolder _ 144 Try.underlying24 hiFolder hzFolder h1Folder h2Folder rfl (by decide) (by decide) (.slice A2 n2 c2) (ps.map (·.1)) rfl _ _ rfl W3.out (by go_grown) (by have := HLE.out; omega) rfl (rFolder_one HR.out) (by repeat' (first | (with_reducible assumption) | (with_reducible refine blk_set_other _ ?_ ?_; rotate_left; first | (with_reducible rfl) | ((try dsimp only); first | (with_reducible assumption) | omega | (simp only [World.size_alloc, World.size_setCell, World.size_drew]; done) | (simp only [World.size_alloc, World.size_setCell, World.size_drew]; omega))) | (with_reducible apply blk_set_same) | ((with_reducible apply blk_alloc_new); first | (with_reducible rfl) | ((try dsimp only); first | (with_reducible assumption) | omega | (simp only [World.size_alloc, World.size_setCell, World.size_drew]; done) | (simp only [World.size_alloc, World.size_setCell, World.size_drew]; omega))) | (with_reducible refine blk_alloc_old _ ?_) | (with_reducible refine blk_drew ?_) | (refine (rfl : (_ : Array Value) = _)))) ?_; intro v4 w4 r4 p4 o4; obtain ⟨A4, n4, c4, rfl⟩ := r4.shape3; have R4 := Lib.hid r4; have P4 := Lib.hid p4; have O4 := Lib.hid o4; clear r4 p4 o4))
        go_roundw
        case rel =>
          refine ⟨k + 1, _, ps ++ [([.string x.name, .int .i64 x.turn, .slice x_A2 x.manifests.length x_c2, .slice x_A3 x.epochs.length x_c3, .slice x_A4 x.items.length x_c4, .slice x_A5 x.wraps.length x_c5, .slice x_A6 x.links.length x_c6], x)], by omega, by go_num, ?_, ?_, fun p hp => ?_, fun z hz2 => ?_, ?_, HC2, ?_⟩
          · show RowC _ _ _ _ _
            rw [List.map_append]
            exact R4.out
          · show _ = _
            rw [List.map_append, HPS.out, HT.out]
            rfl
          · rcases List.mem_append.1 hp with hp | hp
            · exact HPR.out p hp
            · obtain rfl := List.mem_singleton.1 hp
              exact HR.out
          · rcases O4.out with h | ⟨q, h, hq⟩
            · exact HOB.out z (h.symm.trans hz2)
            · obtain rfl := Option.some.inj (h.symm.trans hz2)
              exact Nat.le_trans B23.out.size hq
          · exact own_but O3.out P4.out HNB.out
          · exact ButB.below B23.out B23.out.size (fun b hb => HOB.out b hb) P4.out
        case measure => simp [RowKit.intOf]; omega
      · have hN : ¬ (x.name ∉ (l.take k).map Folder.name) := fun h => hmem (HM.out.2 h)
        rw [if_pos (Classical.not_not.1 hN)] at HT
        have hq1 : (((q + 1 : Nat) : Int) == 1) = false := by simp; omega
        have hq2 : ((q : Int) + 1 == 1) = false := by simp; omega
        clear hmem hN
        go_wp2_with (first
          | (at_lookup; go_loud (refine wpList_lookup_own_int _ rfl _ _ 118 rfl 9 3 .i64 keyN Try.underlying118 Try.underlying3 (zeroInt _) w.heap.size (k + 1) _ rfl O3.out _ _ rfl hkey ?_); intro c hat hwc; obtain rfl : c = ((q + 1 : Nat) : Int) := (by have := hat.symm.trans E1.out; simpa using this); clear hat hwc))
        go_roundw
        case rel => exact ⟨k + 1, _, ps, by omega, by go_num, W3, HPS.out.trans HT.out.symm, HPR, HOB, O3, HC2, B23.out⟩
        case measure => simp [RowKit.intOf]; omega
    · obtain rfl : k = l.length := by omega
      go_wp2
      go_ret
      exact ⟨⟨_, ps, rfl, HG.out, by rw [HPS.out, List.take_length], HPR.out, HOB.out⟩, hbel⟩

theorem nameWrap_any (x : Wrap) (cs : List Value) (w : World) (S : Nat → Prop) (h : rWrap S w cs x) : Calls Try.prog 52 #[.agg cs.toArray] w fun e w' => e = .returned (.string x.name) ∧ Below w.heap.size w w' := by
  obtain ⟨rfl, x_name_le, x_epoch_ok⟩ := open_Wrap h
  go_enter Try.func52, Try.ntmps52
  go_wp2
  go_ret
  exact ⟨rfl, by go_grown⟩
theorem takeS_Wrap {l : List Wrap} {k : Nat} {x : Wrap} (hx : l[k]? = some x) : firsts Wrap.name (l.take (k + 1)) = if x.name ∈ (l.take k).map Wrap.name then firsts Wrap.name (l.take k) else firsts Wrap.name (l.take k) ++ [x] := by
  rw [List.take_add_one, hx]
  exact firsts_snoc Wrap.name _ _
set_option maxHeartbeats 2000000 in
set_option maxRecDepth 100000 in
theorem firstsWrap_any (l : List Wrap) (v : Value) (w : World) (S : Nat → Prop) (h : Sl 3 rWrap S w v l) (hl : l.length ≤ 1000) : Calls Try.prog 51 #[v, .func (.func 52) #[] #[]] w fun e w' => (∃ (v' : Value) (ps : List (List Value × Wrap)), e = .returned v' ∧ RowC 28 3 w' v' (ps.map (·.1)) ∧ ps.map (·.2) = firsts Wrap.name l ∧ (∀ p ∈ ps, rWrap S w p.1 p.2) ∧ ∀ z, v'.ownBlock = some z → w.heap.size ≤ z) ∧ Below w.heap.size w w' := by
  obtain ⟨A, c, rfl, hlc, hc, hn, hs⟩ := h
  unfold maxLen at hc
  have hmm := @run_makeMap Try.prog
  have HL := Lib.hid hl
  clear hl
  obtain ⟨iWrap, hiWrap, hzWrap, h1Wrap, h2Wrap⟩ := info_parts (show (Try.prog.info? 28).map (fun i => (i.zero, i.size, i.bytes)) = some (some (.agg #[.string ⟨#[]⟩, .int .i64 0, .bool false]), 3, 32) from by kernel_rfl)
  go_enter Try.func51, Try.ntmps51
  go_wp2
  clear hmm
  go_loopw [5, 12] (fun vo i wr => ∃ (k : Nat) (D : DataW Unit) (ps : List (List Value × Wrap)), k ≤ l.length ∧ i = .int .i64 k ∧ Hid (RowC 28 3 wr vo (ps.map (·.1))) ∧ Hid (ps.map (·.2) = firsts Wrap.name (l.take k)) ∧ Hid (∀ p ∈ ps, rWrap S w p.1 p.2) ∧ Hid (∀ z, vo.ownBlock = some z → w.heap.size ≤ z) ∧ Hid (wr.ownsMap Try.prog 9 (plainElem Try.prog 3) w.heap.size k D) ∧ Hid (Cnt D ((l.take k).map Wrap.name)) ∧ Below w.heap.size w wr) (fun _ i _ => l.length - (RowKit.intOf i).toNat)
  case atStart => exact ⟨0, _, [], by omega, by go_num, RowC.nil _, (by show _ = _; rfl), (fun p hp => by simp at hp), (fun z hz => by cases hz), World.ownsMap_made _ _ _ _, Cnt.start, by go_grown⟩
  case round =>
    obtain ⟨k, D, ps, hk, rfl, HG, HPS, HPR, HOB, HO, HC, hbel⟩ := hrel
    have hz := hbel.size
    obtain ⟨A2, n2, c2, rfl⟩ := HG.out.shape3
    by_cases hlt : k < l.length
    · obtain ⟨x, hx⟩ : ∃ x, l[k]? = some x := ⟨_, List.getElem?_eq_getElem hlt⟩
      obtain ⟨b, o, ys, hA, hbl, hR, hcz⟩ := SlAt.elem hs hx (by decide) hbel
      have HX := Lib.hid hx
      have HR := Lib.hid hR
      obtain ⟨rfl, x_name_le, x_epoch_ok⟩ := open_Wrap hR
      have u0 := hcz 0 _ rfl
      have u1 := hcz 1 _ rfl
      have u2 := hcz 2 _ rfl
      rw [Nat.add_zero] at u0
      subst hA
      have hki : (k : Int) < (l.length : Int) := by omega
      have HLL := HL.out
      have hcn := cntN_le ((l.take k).map Wrap.name) x.name
      rw [List.length_map, List.length_take] at hcn
      have HFL := Lib.hid (show ps.length ≤ k by
        have h1 : ps.length = (firsts Wrap.name (l.take k)).length := by rw [← HPS.out, List.length_map]
        rw [h1]
        exact Nat.le_trans (firsts_len Wrap.name (l.take k)) (by rw [List.length_take]; exact Nat.min_le_left _ _))
      have hcn2 : cntN ((l.take k).map Wrap.name) x.name ≤ 1000 := by omega
      have HCN := Lib.hid hcn2
      have hkey := keyS x_name_le
      have hob := HO.out.lt
      have HT := Lib.hid (takeS_Wrap HX.out)
      have HC2 := Lib.hid (HC.out.put x.name (c := ((cntN ((l.take k).map Wrap.name) x.name + 1 : Nat) : Int)) rfl)
      rw [show (l.take k).map Wrap.name ++ [x.name] = (l.take (k + 1)).map Wrap.name by rw [List.take_add_one, HX.out]; simp] at HC2
      have E0 := Lib.hid (HC.out.val x.name)
      have E1 := Lib.hid (show (D.put (kS x.name) (.lit (.int .i64 ((cntN ((l.take k).map Wrap.name) x.name + 1 : Nat) : Int)))).atKey (kS x.name) (.lit (.int .i64 0)) = _ from atKey_put_same HC.out.isMap (isKey_kS _) _ _)
      have HM := Lib.hid (cntN_zero ((l.take k).map Wrap.name) x.name)
      clear hx hcz hcn hcn2
      generalize hq : cntN ((l.take k).map Wrap.name) x.name = q at HCN HC2 E0 E1 HM
      clear hq
      go_wp2_with fail
      refine Calls.mono (nameWrap_any x _ _ S (rWrap_keep HR.out (kept_of (by go_grown)))) ?_
      rintro e w1 ⟨rfl, hb1⟩
      have T1 : w1.heap[wr.heap.size]? = some (.cells #[.string x.name, .int .i64 x.epoch, .bool x.seed] 28 (0, 0)) := (hb1.block _ (by simp)).trans (by repeat' (first | (with_reducible assumption) | (with_reducible refine blk_set_other _ ?_ ?_; rotate_left; first | (with_reducible rfl) | ((try dsimp only); first | (with_reducible assumption) | omega | (simp only [World.size_alloc, World.size_setCell, World.size_drew]; done) | (simp only [World.size_alloc, World.size_setCell, World.size_drew]; omega))) | (with_reducible apply blk_set_same) | ((with_reducible apply blk_alloc_new); first | (with_reducible rfl) | ((try dsimp only); first | (with_reducible assumption) | omega | (simp only [World.size_alloc, World.size_setCell, World.size_drew]; done) | (simp only [World.size_alloc, World.size_setCell, World.size_drew]; omega))) | (with_reducible refine blk_alloc_old _ ?_) | (with_reducible refine blk_drew ?_) | (refine (rfl : (_ : Array Value) = _))))
      have B1 := Lib.hid (show Below wr.heap.size wr w1 from bel_call (by go_grown) hb1)
      have O1 := Lib.hid (own_below HO.out B1.out)
      have K1 := (blk_cells T1).1
      have k1_0 := K1 0 _ rfl
      have k1_1 := K1 1 _ rfl
      have k1_2 := K1 2 _ rfl
      have HT1 := Lib.hid T1
      clear T1 hb1 K1
      have hqb : q ≤ 1000 := HCN.out
      have hwr : IntKind.i64.wrap ((q : Int) + 1) = ((q + 1 : Nat) : Int) := by rw [IntWalk.i64_in _ (by omega)]; rfl
      go_wp2_with (first
        | (at_lookup; go_loud (refine wpList_lookup_own_int _ rfl _ _ 118 rfl 9 3 .i64 keyN Try.underlying118 Try.underlying3 (zeroInt _) w.heap.size k D rfl O1.out _ _ rfl hkey ?_); intro c hat hwc; obtain rfl : c = (q : Int) := (by have := hat.symm.trans E0.out; simpa using this); clear hat hwc)
        | (at_mapUpdate; go_loud (refine wpList_mapUpdate_own _ rfl _ _ _ 118 rfl 9 3 keyN Try.underlying118 _ w.heap.size k D rfl O1.out (by unfold maxLen; omega) _ (.int .i64 ((q + 1 : Nat) : Int)) _ rfl rfl hkey _ [] (plainElem_int Try.underlying3 (by have h : I64 ((q + 1 : Nat) : Int) := ⟨by omega, by omega⟩; simp [Lit.wf]; exact h)) ?_); intro w2 hown2 hg2; have O2 := Lib.hid hown2; have G2 := Lib.hid hg2; clear hown2 hg2; have T2 : w2.heap[wr.heap.size]? = some (.cells #[.string x.name, .int .i64 x.epoch, .bool x.seed] 28 (0, 0)) := (G2.out.block _ (blk_lt HT1.out) (by simp; omega)).trans HT1.out; have K2 := (blk_cells T2).1; have k2_0 := K2 0 _ rfl; have k2_1 := K2 1 _ rfl; have k2_2 := K2 2 _ rfl; have HT2 := Lib.hid T2; clear T2 K2))
      have HNB := Lib.hid (show (Value.slice A2 n2 c2).ownBlock ≠ some w.heap.size from fun h => by
        obtain ⟨a, ha⟩ := rowC_ty HG.out h
        exact map_ne HO.out ha rfl)
      have W2 := Lib.hid (show RowC 28 3 w2 (.slice A2 n2 c2) (ps.map (·.1)) from (HG.out.below B1.out).keep fun b hb => G2.out.block b ((HG.out.below B1.out).lt b hb) fun e => HNB.out (hb.trans e))
      have B2 := Lib.hid (show Below w.heap.size w w2 from Below.grown (bel_call hbel B1.out) G2.out (Nat.le_trans hz B1.out.size) fun b hb => by obtain rfl := Option.some.inj hb; exact Nat.le_refl _)
      have KM := O2.out.lt
      refine Calls.mono (nameWrap_any x _ _ S (rWrap_keep HR.out (kept_of B2.out))) ?_
      rintro e w3 ⟨rfl, hb3⟩
      have B3 := Lib.hid hb3
      have O3 := Lib.hid (own_below O2.out B3.out)
      have T3 : w3.heap[wr.heap.size]? = some (.cells #[.string x.name, .int .i64 x.epoch, .bool x.seed] 28 (0, 0)) := (hb3.block _ (blk_lt HT2.out)).trans HT2.out
      have K3 := (blk_cells T3).1
      have k3_0 := K3 0 _ rfl
      have k3_1 := K3 1 _ rfl
      have k3_2 := K3 2 _ rfl
      have W3 := Lib.hid (W2.out.below hb3)
      have B23 := Lib.hid (bel_call B2.out hb3)
      clear T3 K3 hb3 B2 B3 KM
      have hlen : (ps.map (·.1)).length ≤ 1000 := by rw [List.length_map]; have := HFL.out; omega
      have HLE := Lib.hid hlen
      clear hlen
      by_cases hmem : q = 0
      · have hN := HM.out.1 hmem
        rw [if_neg hN] at HT
        subst hmem
        go_wp2_with (first
          | (at_lookup; go_loud (refine wpList_lookup_own_int _ rfl _ _ 118 rfl 9 3 .i64 keyN Try.underlying118 Try.underlying3 (zeroInt _) w.heap.size (k + 1) _ rfl O3.out _ _ rfl hkey ?_); intro c hat hwc; obtain rfl : c = (1 : Int) := (by have := hat.symm.trans E1.out; simpa using this); clear hat hwc)
          | (at_builtin; refine wpList_rowB w3 _ [.string x.name, .int .i64 x.epoch, .bool x.seed] rfl (.tmp 28) (.tmp 30) 40 rfl iWrap _ 32 Try.underlying40 hiWrap hzWrap h1Wrap h2Wrap rfl (by decide) (by decide) (.slice A2 n2 c2) (ps.map (·.1)) rfl _ _ rfl W3.out (by go_grown) (by have := HLE.out; omega) rfl (rWrap_one HR.out) (by repeat' (first | (with_reducible assumption) | (with_reducible refine blk_set_other _ ?_ ?_; rotate_left; first | (with_reducible rfl) | ((try dsimp only); first | (with_reducible assumption) | omega | (simp only [World.size_alloc, World.size_setCell, World.size_drew]; done) | (simp only [World.size_alloc, World.size_setCell, World.size_drew]; omega))) | (with_reducible apply blk_set_same) | ((with_reducible apply blk_alloc_new); first | (with_reducible rfl) | ((try dsimp only); first | (with_reducible assumption) | omega | (simp only [World.size_alloc, World.size_setCell, World.size_drew]; done) | (simp only [World.size_alloc, World.size_setCell, World.size_drew]; omega))) | (with_reducible refine blk_alloc_old _ ?_) | (with_reducible refine blk_drew ?_) | (refine (rfl : (_ : Array Value) = _)))) ?_; intro v4 w4 r4 p4 o4; obtain ⟨A4, n4, c4, rfl⟩ := r4.shape3; have R4 := Lib.hid r4; have P4 := Lib.hid p4; have O4 := Lib.hid o4; clear r4 p4 o4))
        go_roundw
        case rel =>
          refine ⟨k + 1, _, ps ++ [([.string x.name, .int .i64 x.epoch, .bool x.seed], x)], by omega, by go_num, ?_, ?_, fun p hp => ?_, fun z hz2 => ?_, ?_, HC2, ?_⟩
          · show RowC _ _ _ _ _
            rw [List.map_append]
            exact R4.out
          · show _ = _
            rw [List.map_append, HPS.out, HT.out]
            rfl
          · rcases List.mem_append.1 hp with hp | hp
            · exact HPR.out p hp
            · obtain rfl := List.mem_singleton.1 hp
              exact HR.out
          · rcases O4.out with h | ⟨q, h, hq⟩
            · exact HOB.out z (h.symm.trans hz2)
            · obtain rfl := Option.some.inj (h.symm.trans hz2)
              exact Nat.le_trans B23.out.size hq
          · exact own_but O3.out P4.out HNB.out
          · exact ButB.below B23.out B23.out.size (fun b hb => HOB.out b hb) P4.out
        case measure => simp [RowKit.intOf]; omega
      · have hN : ¬ (x.name ∉ (l.take k).map Wrap.name) := fun h => hmem (HM.out.2 h)
        rw [if_pos (Classical.not_not.1 hN)] at HT
        have hq1 : (((q + 1 : Nat) : Int) == 1) = false := by simp; omega
        have hq2 : ((q : Int) + 1 == 1) = false := by simp; omega
        clear hmem hN
        go_wp2_with (first
          | (at_lookup; go_loud (refine wpList_lookup_own_int _ rfl _ _ 118 rfl 9 3 .i64 keyN Try.underlying118 Try.underlying3 (zeroInt _) w.heap.size (k + 1) _ rfl O3.out _ _ rfl hkey ?_); intro c hat hwc; obtain rfl : c = ((q + 1 : Nat) : Int) := (by have := hat.symm.trans E1.out; simpa using this); clear hat hwc))
        go_roundw
        case rel => exact ⟨k + 1, _, ps, by omega, by go_num, W3, HPS.out.trans HT.out.symm, HPR, HOB, O3, HC2, B23.out⟩
        case measure => simp [RowKit.intOf]; omega
    · obtain rfl : k = l.length := by omega
      go_wp2
      go_ret
      exact ⟨⟨_, ps, rfl, HG.out, by rw [HPS.out, List.take_length], HPR.out, HOB.out⟩, hbel⟩
end Go.Proofs.Ytocofkccdfaaaaa
