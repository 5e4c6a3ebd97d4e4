/- Layer granted: Granted. Conditions: as each theorem says. -/
import Derived.Test.YtocofkccdfaaaaaGrAwk
namespace Go.Proofs.Ytocofkccdfaaaaa
open Go.RowKit Go.Deep

def isI (s : Nm) (x : Item) : Bool := decide (x.name = s)
theorem closI_any (s : Nm) (B : Nat) (x : Item) (cs : List Value) (w : World) (S : Nat → Prop) (h : rItem S w cs x) (hB : w.cell? ⟨B, 0, none⟩ = some (.string s)) :
    Calls Try.prog 41 #[.agg cs.toArray, .pointer (some ⟨B, 0, none⟩)] w fun e w' => e = .returned (.bool (isI s x)) ∧ Below w.heap.size w w' := by
  obtain ⟨x_A1, x_c1, rfl, x_name_le, x_versions_l, x_versions_m, x_versions_n, x_versions_s⟩ := open_Item h
  have hBl := cell_lt hB
  have E := Lib.hid (eqS_iff (a := x.name) (b := s))
  go_enter Try.func41, Try.ntmps41
  go_wp2
  go_ret
  exact ⟨ret_bool E.out, by go_grown⟩
theorem indexI2_any (s : Nm) (B : Nat) (l : List Item) (v : Value) (w : World) (S : Nat → Prop) (h : Sl 2 rItem S w v l) (hB : w.cell? ⟨B, 0, none⟩ = some (.string s)) :
    Calls Try.prog 40 #[v, .func (.func 41) #[] #[.pointer (some ⟨B, 0, none⟩)]] w fun e w' => (∃ i : Int, e = .returned (.int .i64 i) ∧ AtI (isI s) l i) ∧ Below w.heap.size w w' := by
  have HB := Lib.hid hB
  clear hB
  obtain ⟨A, c, rfl, hl, hc, hn, hs⟩ := h
  unfold maxLen at hc
  go_enter Try.func40, Try.ntmps40
  go_wp2
  go_loopw [8] (fun i wr => ∃ (k : Nat), k ≤ l.length ∧ i = .int .i64 k ∧ Hid (∀ y ∈ l.take k, isI s y = false) ∧ Below w.heap.size w wr) (fun i _ => l.length - (RowKit.intOf i).toNat)
  case atStart => exact ⟨0, by omega, by go_num, (fun y hy => by simp at hy), by go_grown⟩
  case round =>
    obtain ⟨k, hk, rfl, HN, hbel⟩ := hrel
    have hz := hbel.size
    by_cases hlt : k < l.length
    · obtain ⟨x, x_b, x_o, x_A1, x_c1, x_k, x_d, x_m, rfl, x_l, x_S, x_0, x_1, x_R, x_name_le, x_versions_l, x_versions_m, x_versions_n, x_versions_s⟩ := get_Item hs hlt (kept_of hbel)
      have HX := Lib.hid x_k
      clear x_k x_d
      go_wp2_with fail
      refine Calls.mono (closI_any s B x _ _ S x_R ((hbel.cell (p := ⟨B, 0, none⟩) (cell_lt HB.out)).trans HB.out)) ?_
      rintro e w1 ⟨rfl, hb1⟩
      cases hpx : isI s x
      · have EH := Lib.hid (none_step HN.out HX.out hpx)
        go_wp2
        go_roundw
        case rel => exact ⟨k + 1, by omega, by go_num, EH, bel_call hbel hb1⟩
        case measure => simp [RowKit.intOf]; omega
      · have EH := Lib.hid (find_here HN.out HX.out hpx)
        go_wp2
        go_ret
        exact ⟨⟨_, rfl, .inl ⟨k, x, rfl, HX.out, EH.out⟩⟩, bel_call hbel hb1⟩
    · obtain rfl : k = l.length := by omega
      have EH := Lib.hid (find_no (p := isI s) (l := l) (by have := HN.out; rwa [List.take_length] at this))
      go_wp2
      go_ret
      exact ⟨⟨_, rfl, .inr ⟨rfl, EH.out⟩⟩, hbel⟩
/-- A version is granted to somebody. -/
def GrantedP (st : State) (u fo it : Nm) (n : Int) : Prop := ∃ f x v, findF st fo = some f ∧ f.items.find? (isI it) = some x ∧ 1 ≤ n ∧ n ≤ x.versions.length ∧ x.versions[(n - 1).toNat]? = some v ∧ v.gone = false ∧ 1 ≤ v.epoch ∧ ∃ m, IsReach st u fo m ∧ v.epoch ≤ m
theorem getD_items {st : State} {s : Nm} {f : Folder} (h : (findF st s).getD zeroF = f) {x : Item} {p : Item → Bool} (hx : f.items.find? p = some x) : findF st s = some f := by
  cases hf : findF st s with
  | none =>
    rw [hf] at h
    subst h
    cases hx
  | some g =>
    rw [hf] at h
    exact congrArg some h
theorem isMost_some (p : Int → Prop) : ∀ len : Nat, ∃ n, IsMost p len n
  | 0 => ⟨0, Int.le_refl _, by simp, .inl rfl, fun e h1 h2 _ => by omega⟩
  | len + 1 => by
    by_cases h : p ((len + 1 : Nat) : Int)
    · exact ⟨_, by omega, Int.le_refl _, .inr h, fun e _ h2 _ => h2⟩
    · obtain ⟨n, h1, h2, h3, h4⟩ := isMost_some p len
      exact ⟨n, h1, by omega, h3, fun e k1 k2 k3 => by
        by_cases he : e = ((len + 1 : Nat) : Int)
        · subst he
          exact absurd k3 h
        · exact h4 e k1 (by omega) k3⟩
theorem isReach_some (st : State) (u fo : Nm) : ∃ n, IsReach st u fo n := by
  cases hf : findF st fo with
  | none => exact ⟨0, .inl ⟨hf, rfl⟩⟩
  | some f =>
    obtain ⟨n, hn⟩ := isMost_some (reachP st u fo) f.epochs.length
    exact ⟨n, .inr ⟨f, hf, hn⟩⟩
theorem ret_bool2 {b c : Bool} (h : b = c) : Ending.returned (.bool b) = Ending.returned (.bool c) := by rw [h]
set_option maxHeartbeats 4000000 in
set_option maxRecDepth 100000 in
theorem granted_any (st : State) (u fo it : Nm) (n : Int) (cs : List Value) (w : World) (S : Nat → Prop) (h : rState S w cs st) (ok : OkSt st) (hu : u.size ≤ 1000) (hn : I64 n) : Calls Try.prog 12 #[.agg cs.toArray, .string u, .string fo, .string it, .int .i64 n] w fun e w' => (∃ b : Bool, e = .returned (.bool b) ∧ (b = true ↔ GrantedP st u fo it n)) ∧ Below w.heap.size w w' := by
  have HR := Lib.hid h
  obtain ⟨st_A1, st_c1, st_A2, st_c2, st_A3, st_c3, rfl, st_turn_ok, st_users_l, st_users_m, st_users_n, st_users_s, st_deposits_l, st_deposits_m, st_deposits_n, st_deposits_s, st_folders_l, st_folders_m, st_folders_n, st_folders_s⟩ := open_State h
  obtain ⟨w0, hw0, cw0, fw0, Bw0, qw0⟩ := boxed w #[.int .i64 st.turn, .slice st_A1 st.users.length st_c1, .slice st_A2 st.deposits.length st_c2, .slice st_A3 st.folders.length st_c3] 26
  obtain ⟨w1, hw1, cw1, fw1, Bw1, qw1⟩ := boxed w0 #[.string it] 9
  have HB0 := Lib.hid Bw0
  have HB1 := Lib.hid Bw1
  have HC0 := Lib.hid cw0
  have HC1 := Lib.hid cw1
  have HOK := Lib.hid ok
  have HU := Lib.hid hu
  have HN64 := Lib.hid hn
  have s0 := (Bw1.cell (p := ⟨w.heap.size, 0, none⟩) qw0).trans (cw0 0 _ rfl)
  have s1 := (Bw1.cell (p := ⟨w.heap.size, 1, none⟩) qw0).trans (cw0 1 _ rfl)
  have s2 := (Bw1.cell (p := ⟨w.heap.size, 2, none⟩) qw0).trans (cw0 2 _ rfl)
  have s3 := (Bw1.cell (p := ⟨w.heap.size, 3, none⟩) qw0).trans (cw0 3 _ rfl)
  clear cw0 fw0 Bw0 cw1 fw1 Bw1 ok hu hn st_users_s st_deposits_s st_folders_s
  go_enter Try.func12, Try.ntmps12
  go_wp2_with fail
  clear hw0 hw1
  have HB01 := Lib.hid (bel_call HB0.out HB1.out)
  refine Calls.mono (find_any st fo _ w1 S (rState_keep HR.out (kept_of HB01.out))) ?_
  rintro e w2 ⟨⟨cf, rfl, hf⟩, B2⟩
  have HB2 := Lib.hid B2
  have hq1 : w0.heap.size < w2.heap.size := Nat.lt_of_lt_of_le qw1 B2.size
  have hq0 : w.heap.size < w2.heap.size := Nat.lt_trans qw0 hq1
  clear s0 s1 s2 s3 B2
  obtain ⟨f, hfe⟩ : ∃ f, (findF st fo).getD zeroF = f := ⟨_, rfl⟩
  rw [hfe] at hf
  have HFE := Lib.hid hfe
  have HFR := Lib.hid hf
  obtain ⟨ok2, hok2⟩ : ∃ b, (findF st fo).isSome = b := ⟨_, rfl⟩
  rw [hok2]
  obtain ⟨f_A2, f_c2, f_A3, f_c3, f_A4, f_c4, f_A5, f_c5, f_A6, f_c6, rfl, f_name_le, f_turn_ok, f_manifests_l, f_manifests_m, f_manifests_n, f_manifests_s, f_epochs_l, f_epochs_m, f_epochs_n, f_epochs_s, f_items_l, f_items_m, f_items_n, f_items_s, f_wraps_l, f_wraps_m, f_wraps_n, f_wraps_s, f_links_l, f_links_m, f_links_n, f_links_s⟩ := open_Folder hf
  obtain ⟨w3, hw3, cw3, fw3, Bw3, qw3⟩ := boxed w2 #[.string f.name, .int .i64 f.turn, .slice f_A2 f.manifests.length f_c2, .slice f_A3 f.epochs.length f_c3, .slice f_A4 f.items.length f_c4, .slice f_A5 f.wraps.length f_c5, .slice f_A6 f.links.length f_c6] 43
  have HB3 := Lib.hid (bel_call HB2.out Bw3)
  have HB23 := Lib.hid Bw3
  have HC3 := Lib.hid cw3
  have d4 := cw3 4 _ rfl
  have HIS := Lib.hid (show Sl 2 rItem S w3 (.slice f_A4 f.items.length f_c4) f.items from Sl.keep rItem_ok (by decide) ⟨_, _, rfl, f_items_l, f_items_m, f_items_n, f_items_s⟩ (kept_of Bw3))
  have e0 := (HB3.out.cell (p := ⟨w0.heap.size, 0, none⟩) qw1).trans (HC1.out 0 _ rfl)
  have HI := Lib.hid (indexI2_any it w0.heap.size f.items _ w3 S HIS.out e0)
  clear hfe hok2 cw3 fw3 Bw3 f_manifests_s f_epochs_s f_items_s f_wraps_s f_links_s e0
  go_wp2_with fail
  clear hw3 d4
  refine Calls.mono HI.out ?_
  rintro e w4 ⟨⟨i, rfl, hi⟩, B4⟩
  have HB4 := Lib.hid (bel_call HB3.out B4)
  have HB34 := Lib.hid B4
  have HBA := Lib.hid (bel_call HB01.out HB4.out)
  have d4 := (B4.cell (p := ⟨w2.heap.size, 4, none⟩) qw3).trans (HC3.out 4 _ rfl)
  clear B4
  rcases hi with ⟨k, x, rfl, hk, hx⟩ | ⟨rfl, hx⟩
  rotate_left
  · have HX := Lib.hid (show ¬ GrantedP st u fo it n from by
      rintro ⟨g, y, v, h1, h2, _⟩
      have : f = g := by rw [← HFE.out, h1]; rfl
      subst this
      rw [hx] at h2
      cases h2)
    clear hx
    go_wp2
    go_ret
    exact ⟨⟨false, rfl, ⟨fun h => (by cases h), fun h => absurd h HX.out⟩⟩, HBA.out⟩
  have hff := getD_items HFE.out hx
  have HFF := Lib.hid hff
  have HX := Lib.hid hx
  have hk0 : decide ((k : Int) < 0) = false := decide_eq_false (by omega)
  have hkl := (List.getElem?_eq_some_iff.1 hk).1
  have hki : (k : Int) < (f.items.length : Int) := by omega
  have hfn : f.items.length ≤ 140737488355328 := f_items_n
  obtain ⟨A', c', hA', -, -, -, hsl⟩ := HIS.out
  cases hA'
  obtain ⟨b, o, ys, hA, hbl, hR, hcz⟩ := SlAt.elem hsl hk (by decide) HB34.out
  obtain ⟨x_A1, x_c1, rfl, x_name_le, x_versions_l, x_versions_m, x_versions_n, x_versions_s⟩ := open_Item hR
  have u0 := hcz 0 _ rfl
  have u1 := hcz 1 _ rfl
  rw [Nat.add_zero] at u0
  subst hA
  have HGP : Hid (∀ m : Int, 1 ≤ m → ∀ v, n = m → m ≤ x.versions.length → x.versions[(m - 1).toNat]? = some v → ∀ r, IsReach st u fo r → (GrantedP st u fo it n ↔ (v.gone = false ∧ 1 ≤ v.epoch ∧ v.epoch ≤ r))) := by
    intro m hm v hnm hml hv r hr
    subst hnm
    constructor
    · rintro ⟨g, y, v', h1, h2, _, _, h5, h6, h7, r', h8, h9⟩
      obtain rfl : f = g := Option.some.inj (hff.symm.trans h1)
      obtain rfl : x = y := Option.some.inj (HX.out.symm.trans h2)
      obtain rfl : v = v' := Option.some.inj (hv.symm.trans h5)
      obtain rfl := h8.one hr
      exact ⟨h6, h7, h9⟩
    · rintro ⟨h1, h2, h3⟩
      exact ⟨f, x, v, hff, HX.out, hm, hml, hv, h1, h2, r, hr, h3⟩
  clear hff hx hk hcz
  by_cases hn1 : n < 1
  · have HNO := Lib.hid (show ¬ GrantedP st u fo it n from fun ⟨_, _, _, _, _, h, _⟩ => by omega)
    have hn1' : decide (n < 1) = true := decide_eq_true hn1
    clear hn1
    go_wp2
    go_ret
    exact ⟨⟨false, rfl, ⟨fun h => (by cases h), fun h => absurd h HNO.out⟩⟩, HBA.out⟩
  have hn1' : decide (n < 1) = false := decide_eq_false hn1
  by_cases hn2 : (x.versions.length : Int) < n
  · have HNO := Lib.hid (show ¬ GrantedP st u fo it n from fun ⟨g, y, _, h1, h2, _, h4, _⟩ => by
      obtain rfl : f = g := Option.some.inj (HFF.out.symm.trans h1)
      obtain rfl : x = y := Option.some.inj (HX.out.symm.trans h2)
      omega)
    have hn2' : decide ((x.versions.length : Int) < n) = true := decide_eq_true hn2
    clear hn1 hn2
    go_wp2
    go_ret
    exact ⟨⟨false, rfl, ⟨fun h => (by cases h), fun h => absurd h HNO.out⟩⟩, HBA.out⟩
  have hn2' : decide ((x.versions.length : Int) < n) = false := decide_eq_false hn2
  obtain ⟨j, rfl⟩ : ∃ j : Nat, n = (j : Int) + 1 := ⟨(n - 1).toNat, by omega⟩
  have hjl : j < x.versions.length := by omega
  obtain ⟨v, hv⟩ : ∃ v, x.versions[j]? = some v := ⟨_, List.getElem?_eq_getElem hjl⟩
  have HGQ := Lib.hid (fun r hr => HGP ((j : Int) + 1) (by omega) v rfl (by omega) (by rw [show ((j : Int) + 1 - 1).toNat = j by omega]; exact hv) r hr)
  obtain ⟨b', o', ys', hA', hbl', hRv, hcz'⟩ := SlAt.elem x_versions_s hv (by decide) HB34.out
  obtain ⟨v_A3, v_c3, rfl, v_epoch_ok, v_who_le, v_data_l, v_data_m, v_data_n, v_data_s⟩ := open_Version hRv
  have v0 := hcz' 0 _ rfl
  have v1 := hcz' 1 _ rfl
  have v2 := hcz' 2 _ rfl
  have v3 := hcz' 3 _ rfl
  rw [Nat.add_zero] at v0
  subst hA'
  have hw1 : IntKind.i64.wrap ((j : Int) + 1 - 1) = (j : Int) := by rw [IntWalk.i64_in _ (by omega)]; omega
  have hji : (j : Int) < (x.versions.length : Int) := by omega
  clear hn1 hn2 hv hcz' HGP x_versions_s v_data_s
  obtain ⟨g, hg⟩ : ∃ g, v.gone = g := ⟨_, rfl⟩
  rw [hg] at v1 HGQ
  clear hg
  obtain ⟨w5, hw5, cw5, fw5, Bw5, qw5⟩ := boxed w4 #[.int .i64 v.epoch, .bool g, .string v.who, .slice v_A3 v.data.length v_c3] 58
  have HB5 := Lib.hid (bel_call HBA.out Bw5)
  have HC5 := Lib.hid cw5
  have HBW5 := Lib.hid Bw5
  have d0 := cw5 0 _ rfl
  have d1 := cw5 1 _ rfl
  clear cw5 fw5 Bw5
  obtain ⟨rr, hrr⟩ := isReach_some st u fo
  cases g with
  | true =>
    have HNO := Lib.hid (show ¬ GrantedP st u fo it ((j : Int) + 1) from fun h => by have := ((HGQ.out rr hrr).1 h).1; cases this)
    clear hrr
    go_wp2
    go_quiet (fail)
    go_wp2
    go_ret
    exact ⟨⟨false, rfl, ⟨fun h => (by cases h), fun h => absurd h HNO.out⟩⟩, belN HB5.out _⟩
  | false =>
    by_cases he : 1 ≤ v.epoch
    rotate_left
    · have HNO := Lib.hid (show ¬ GrantedP st u fo it ((j : Int) + 1) from fun h => he ((HGQ.out rr hrr).1 h).2.1)
      have hed : decide (1 ≤ v.epoch) = false := decide_eq_false he
      clear hrr he
      go_wp2
      go_quiet (fail)
      go_wp2
      go_ret
      exact ⟨⟨false, rfl, ⟨fun h => (by cases h), fun h => absurd h HNO.out⟩⟩, belN HB5.out _⟩
    have hed : decide (1 ≤ v.epoch) = true := decide_eq_true he
    have HE := Lib.hid he
    have HSQ := Lib.hid (show ∀ W : World, Below w5.heap.size w5 W → (fun W : World => (W.cell? ⟨w.heap.size, 0, none⟩ = some (.int .i64 st.turn) ∧ W.cell? ⟨w.heap.size, 1, none⟩ = some (.slice st_A1 st.users.length st_c1) ∧ W.cell? ⟨w.heap.size, 2, none⟩ = some (.slice st_A2 st.deposits.length st_c2) ∧ W.cell? ⟨w.heap.size, 3, none⟩ = some (.slice st_A3 st.folders.length st_c3)) ∧ W.cell? ⟨w4.heap.size, 0, none⟩ = some (.int .i64 v.epoch) ∧ W.cell? ⟨w4.heap.size, 1, none⟩ = some (.bool false)) W from fun W hW => by
      have c := fun j v (hj : (#[.int .i64 st.turn, .slice st_A1 st.users.length st_c1, .slice st_A2 st.deposits.length st_c2, .slice st_A3 st.folders.length st_c3] : Array Value)[j]? = some v) => ((bel_call HB1.out (bel_call HB4.out (bel_call HBW5.out hW))).cell (p := ⟨w.heap.size, j, none⟩) qw0).trans (HC0.out j v hj)
      exact ⟨⟨c 0 _ rfl, c 1 _ rfl, c 2 _ rfl, c 3 _ rfl⟩, (hW.cell (p := ⟨w4.heap.size, 0, none⟩) qw5).trans (HC5.out 0 _ rfl), (hW.cell (p := ⟨w4.heap.size, 1, none⟩) qw5).trans (HC5.out 1 _ rfl)⟩)
    clear hrr he
    go_wp2
    have HS := HSQ.out
    refine wp_region_held_drew (S := fun W : World => (W.cell? ⟨w.heap.size, 0, none⟩ = some (.int .i64 st.turn) ∧ W.cell? ⟨w.heap.size, 1, none⟩ = some (.slice st_A1 st.users.length st_c1) ∧ W.cell? ⟨w.heap.size, 2, none⟩ = some (.slice st_A2 st.deposits.length st_c2) ∧ W.cell? ⟨w.heap.size, 3, none⟩ = some (.slice st_A3 st.folders.length st_c3)) ∧ W.cell? ⟨w4.heap.size, 0, none⟩ = some (.int .i64 v.epoch) ∧ W.cell? ⟨w4.heap.size, 1, none⟩ = some (.bool false)) (by kernel_rfl) (HS _ (Below.refl _ _).drew) (fun hHeld => ?_)
    refine wpAnyH_take (i := 0) (oi := ?_) (v := ?_) ?_ (by kernel_rfl) (by kernel_rfl) (by kernel_rfl) ?_ (Or.inl ⟨?_, ?_⟩) hHeld ?_
    rotate_left 2
    · simp only [List.getElem?_toArray, List.getElem?_cons_zero]; exact rfl
    · exact fun _ _ _ h => h
    · rfl
    · (intro W' hSw; (try dsimp only at hSw); go_simp; try with_reducible rfl)
    try simp only [Act.put, List.setIfInBounds_toArray, List.set_cons_zero, List.set_cons_succ]
    refine wpAnyH_take (i := 1) (oi := ?_) (v := ?_) ?_ (by kernel_rfl) (by kernel_rfl) (by kernel_rfl) ?_ (Or.inl ⟨?_, ?_⟩) hHeld ?_
    rotate_left 2
    · simp only [List.getElem?_toArray, List.getElem?_cons_succ, List.getElem?_cons_zero]; exact rfl
    · exact fun _ _ _ h => h
    · rfl
    · (intro W' hSw; (try dsimp only at hSw); go_simp; try with_reducible rfl)
    try simp only [Act.put, List.setIfInBounds_toArray, List.set_cons_zero, List.set_cons_succ]
    refine wpAnyH_take (i := 2) (oi := ?_) (v := ?_) ?_ (by kernel_rfl) (by kernel_rfl) (by kernel_rfl) ?_ (Or.inl ⟨?_, ?_⟩) hHeld ?_
    rotate_left 2
    · simp only [List.getElem?_toArray, List.getElem?_cons_succ, List.getElem?_cons_zero]; exact rfl
    · exact fun _ _ _ h => h
    · rfl
    · (intro W' hSw; (try dsimp only at hSw); go_simp; try with_reducible rfl)
    try simp only [Act.put, List.setIfInBounds_toArray, List.set_cons_zero, List.set_cons_succ]
    refine wpAnyH_take (i := 3) (oi := ?_) (v := ?_) ?_ (by kernel_rfl) (by kernel_rfl) (by kernel_rfl) ?_ (Or.inl ⟨?_, ?_⟩) hHeld ?_
    rotate_left 2
    · simp only [List.getElem?_toArray, List.getElem?_cons_succ, List.getElem?_cons_zero]; exact rfl
    · exact fun _ _ _ h => h
    · rfl
    · (intro W' hSw; (try dsimp only at hSw); go_simp; try with_reducible rfl)
    try simp only [Act.put, List.setIfInBounds_toArray, List.set_cons_zero, List.set_cons_succ]
    refine wpAnyH_take (i := 4) (oi := ?_) (v := ?_) ?_ (by kernel_rfl) (by kernel_rfl) (by kernel_rfl) ?_ (Or.inl ⟨?_, ?_⟩) hHeld ?_
    rotate_left 2
    · simp only [List.getElem?_toArray, List.getElem?_cons_succ, List.getElem?_cons_zero]; exact rfl
    · exact fun _ _ _ h => h
    · rfl
    · (intro W' hSw; (try dsimp only at hSw); go_simp; try with_reducible rfl)
    try simp only [Act.put, List.setIfInBounds_toArray, List.set_cons_zero, List.set_cons_succ]
    refine wpAnyH_take (i := 5) (oi := ?_) (v := ?_) ?_ (by kernel_rfl) (by kernel_rfl) (by kernel_rfl) ?_ (Or.inl ⟨?_, ?_⟩) hHeld ?_
    rotate_left 2
    · simp only [List.getElem?_toArray, List.getElem?_cons_succ, List.getElem?_cons_zero]; exact rfl
    · exact fun _ _ _ h => h
    · rfl
    · (intro W' hSw; (try dsimp only at hSw); go_simp; try with_reducible rfl)
    try simp only [Act.put, List.setIfInBounds_toArray, List.set_cons_zero, List.set_cons_succ]
    refine wpAnyH_take (i := 6) (oi := ?_) (v := ?_) ?_ (by kernel_rfl) (by kernel_rfl) (by kernel_rfl) ?_ (Or.inl ⟨?_, ?_⟩) hHeld ?_
    rotate_left 2
    · simp only [List.getElem?_toArray, List.getElem?_cons_succ, List.getElem?_cons_zero]; exact rfl
    · exact fun _ _ _ h => h
    · rfl
    · (intro W' hSw; (try dsimp only at hSw); go_simp; try with_reducible rfl)
    try simp only [Act.put, List.setIfInBounds_toArray, List.set_cons_zero, List.set_cons_succ]
    refine wpAnyH_take (i := 7) (oi := ?_) (v := ?_) ?_ (by kernel_rfl) (by kernel_rfl) (by kernel_rfl) ?_ (Or.inl ⟨?_, ?_⟩) hHeld ?_
    rotate_left 2
    · simp only [List.getElem?_toArray, List.getElem?_cons_succ, List.getElem?_cons_zero]; exact rfl
    · exact fun _ _ _ h => h
    · rfl
    · (intro W' hSw; (try dsimp only at hSw); go_simp; try with_reducible rfl)
    try simp only [Act.put, List.setIfInBounds_toArray, List.set_cons_zero, List.set_cons_succ]
    refine wpAnyH_take (i := 8) (oi := ?_) (v := ?_) ?_ (by kernel_rfl) (by kernel_rfl) (by kernel_rfl) ?_ (Or.inl ⟨?_, ?_⟩) hHeld ?_
    rotate_left 2
    · simp only [List.getElem?_toArray, List.getElem?_cons_succ, List.getElem?_cons_zero]; exact rfl
    · exact fun _ _ _ h => h
    · rfl
    · (intro W' hSw; (try dsimp only at hSw); go_simp; try with_reducible rfl)
    try simp only [Act.put, List.setIfInBounds_toArray, List.set_cons_zero, List.set_cons_succ]
    refine wpAnyH_take (i := 9) (oi := ?_) (v := ?_) ?_ (by kernel_rfl) (by kernel_rfl) (by kernel_rfl) ?_ (Or.inl ⟨?_, ?_⟩) hHeld ?_
    rotate_left 2
    · simp only [List.getElem?_toArray, List.getElem?_cons_succ, List.getElem?_cons_zero]; exact rfl
    · exact fun _ _ _ h => h
    · rfl
    · (intro W' hSw; (try dsimp only at hSw); go_simp; try with_reducible rfl)
    try simp only [Act.put, List.setIfInBounds_toArray, List.set_cons_zero, List.set_cons_succ]
    refine wpAnyH_take (i := 10) (oi := ?_) (v := ?_) ?_ (by kernel_rfl) (by kernel_rfl) (by kernel_rfl) ?_ (Or.inl ⟨?_, ?_⟩) hHeld ?_
    rotate_left 2
    · simp only [List.getElem?_toArray, List.getElem?_cons_succ, List.getElem?_cons_zero]; exact rfl
    · exact fun _ _ _ h => h
    · rfl
    · (intro W' hSw; (try dsimp only at hSw); go_simp; try with_reducible rfl)
    try simp only [Act.put, List.setIfInBounds_toArray, List.set_cons_zero, List.set_cons_succ]
    refine wpAnyH_take (i := 11) (oi := ?_) (v := ?_) ?_ (by kernel_rfl) (by kernel_rfl) (by kernel_rfl) ?_ (Or.inl ⟨?_, ?_⟩) hHeld ?_
    rotate_left 2
    · simp only [List.getElem?_toArray, List.getElem?_cons_succ, List.getElem?_cons_zero]; exact rfl
    · exact fun _ _ _ h => h
    · rfl
    · (intro W' hSw; (try dsimp only at hSw); go_simp; try with_reducible rfl)
    try simp only [Act.put, List.setIfInBounds_toArray, List.set_cons_zero, List.set_cons_succ]
    refine wpAnyH_take (i := 13) (oi := ?_) (v := ?_) ?_ (by kernel_rfl) (by kernel_rfl) (by kernel_rfl) ?_ (Or.inl ⟨?_, ?_⟩) hHeld ?_
    rotate_left 2
    · simp only [List.getElem?_toArray, List.getElem?_cons_succ, List.getElem?_cons_zero]; exact rfl
    · exact fun _ _ _ h => h
    · rfl
    · (intro W' hSw; (try dsimp only at hSw); go_simp; try with_reducible rfl)
    try simp only [Act.put, List.setIfInBounds_toArray, List.set_cons_zero, List.set_cons_succ]
    refine wpAnyH_take (i := 14) (oi := ?_) (v := ?_) ?_ (by kernel_rfl) (by kernel_rfl) (by kernel_rfl) ?_ (Or.inl ⟨?_, ?_⟩) hHeld ?_
    rotate_left 2
    · simp only [List.getElem?_toArray, List.getElem?_cons_succ, List.getElem?_cons_zero]; exact rfl
    · exact fun _ _ _ h => h
    · rfl
    · (intro W' hSw; (try dsimp only at hSw); go_simp; try with_reducible rfl)
    try simp only [Act.put, List.setIfInBounds_toArray, List.set_cons_zero, List.set_cons_succ]
    refine wpAnyH_ready (rs := [12]) (by kernel_rfl) (by simp) ?_
    refine AllReadyH.cons rfl (fun K hK => ?_) AllReadyH.nil
    go_simp
    go_at_call 10
    refine Calls.mono (reaches_any st u fo _ _ S (rState_keep HR.out (kept_of (bel_call HB5.out (Below.refl _ _).drew))) HOK.out HU.out) ?_
    rintro e w6 ⟨⟨r, rfl, hr⟩, b6⟩
    have B6 := Lib.hid (show Below w5.heap.size w5 w6 from bel_call (Below.refl _ _).drew b6)
    clear b6 hHeld
    refine hK.out _ _ (HS _ B6.out) (fun hHeld => ?_)
    clear hK K
    have HRR := Lib.hid hr
    clear hr
    refine wpAnyH_take (i := 15) (oi := ?_) (v := ?_) ?_ (by kernel_rfl) (by kernel_rfl) (by kernel_rfl) ?_ (Or.inl ⟨?_, ?_⟩) hHeld ?_
    rotate_left 2
    · simp only [List.getElem?_toArray, List.getElem?_cons_succ, List.getElem?_cons_zero]; exact rfl
    · exact fun _ _ _ h => h
    · rfl
    · (intro W' hSw; (try dsimp only at hSw); go_simp; try with_reducible rfl)
    try simp only [Act.put, List.setIfInBounds_toArray, List.set_cons_zero, List.set_cons_succ]
    refine wpAnyH_take (i := 16) (oi := ?_) (v := ?_) ?_ (by kernel_rfl) (by kernel_rfl) (by kernel_rfl) ?_ (Or.inl ⟨?_, ?_⟩) hHeld ?_
    rotate_left 2
    · simp only [List.getElem?_toArray, List.getElem?_cons_succ, List.getElem?_cons_zero]; exact rfl
    · exact fun _ _ _ h => h
    · rfl
    · (intro W' hSw; (try dsimp only at hSw); go_simp; try with_reducible rfl)
    try simp only [Act.put, List.setIfInBounds_toArray, List.set_cons_zero, List.set_cons_succ]
    refine wpAnyH_take (i := 17) (oi := ?_) (v := ?_) ?_ (by kernel_rfl) (by kernel_rfl) (by kernel_rfl) ?_ (Or.inl ⟨?_, ?_⟩) hHeld ?_
    rotate_left 2
    · simp only [List.getElem?_toArray, List.getElem?_cons_succ, List.getElem?_cons_zero]; exact rfl
    · exact fun _ _ _ h => h
    · rfl
    · (intro W' hSw; (try dsimp only at hSw); go_simp; try with_reducible rfl)
    try simp only [Act.put, List.setIfInBounds_toArray, List.set_cons_zero, List.set_cons_succ]
    refine wpAnyH_done (by kernel_rfl) ?_ _
    clear hHeld HS
    go_wp2
    go_ret
    exact ⟨⟨_, rfl, by
      rw [HGQ.out r HRR.out, decide_eq_true_eq]
      exact ⟨fun h => ⟨(by first | rfl | trivial), HE.out, h⟩, fun h => h.2.2⟩⟩, bel_call HB5.out B6.out⟩
end Go.Proofs.Ytocofkccdfaaaaa
