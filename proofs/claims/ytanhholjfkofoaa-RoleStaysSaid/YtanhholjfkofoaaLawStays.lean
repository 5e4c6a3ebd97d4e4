/- RoleStays: for every input the law returns true and leaves its arguments as they were. No condition. -/
import Derived.Test.YtanhholjfkofoaaRoleU
import Derived.Test.YtanhholjfkofoaaRDo
import Derived.Test.YtanhholjfkofoaaAwake
import Derived.Test.YtanhholjfkofoaaLaw
import Derived.Deep.CutRange
namespace Go.Proofs.Ytanhholjfkofoaa
open Go.ChangeShapes Go.WideShapes Go.ChangeAt Go.RowKit Go.Deep

theorem right_first {first : ByteArray} (h : nameOk first = true) : RightL [⟨first, 4⟩] :=
  ⟨fun m hm => by simp at hm; subst hm; exact ⟨h, rfl⟩, by simp, by simp, by simp [own4]⟩
/-- What a call of the three gives: nothing, or a good next list. -/
def Out (cur : List Member) (by_ name : ByteArray) (k : Int) (nx : List Member) : Prop := (k ≠ 0 ∧ nx = []) ∨ (k = 0 ∧ Good cur nx by_ name)
theorem out_share (cur : List Member) (by_ name : ByteArray) (n : Int) : Out cur by_ name (shareD cur by_ name n) (shareL cur by_ name n) := by
  unfold shareL
  by_cases h : shareD cur by_ name n = 0
  · exact .inr ⟨h, by rw [if_pos h]; exact good_share h⟩
  · exact .inl ⟨h, by rw [if_neg h]⟩
theorem out_change (cur : List Member) (by_ name : ByteArray) (n : Int) : Out cur by_ name (changeD cur by_ name n) (changeL cur by_ name n) := by
  unfold changeL
  by_cases h : changeD cur by_ name n = 0
  · exact .inr ⟨h, by rw [if_pos h]; exact good_change h⟩
  · exact .inl ⟨h, by rw [if_neg h]⟩
theorem out_revoke (cur : List Member) (by_ name : ByteArray) : Out cur by_ name (revokeD cur by_ name) (revokeL cur by_ name) := by
  unfold revokeL
  by_cases h : revokeD cur by_ name = 0
  · exact .inr ⟨h, by rw [if_pos h]; exact good_revoke h⟩
  · exact .inl ⟨h, by rw [if_neg h]⟩

set_option maxRecDepth 100000 in
set_option maxHeartbeats 16000000 in
theorem walk_roleStays (w : World) (first : ByteArray) (hfirst : first.size ≤ 140737488355328) (l : List RDo) (v : Value) (h : Sl 4 rRDo (fun _ => True) w v l) :
    Calls Try.prog 5 #[.string first, v] w fun e w' => e = .returned (.bool true) ∧ Below w.heap.size w w' := by
  have B0 : Below w.heap.size w w := Below.refl _ _
  obtain ⟨A, c, rfl, hl, hc, hn, hs⟩ := h
  unfold maxLen at hc
  by_cases hgo : nameOk first = true ∧ l.length ≤ 30
  rotate_left
  · have cn := fun W => refname_b first hfirst (nameOk first) rfl W
    generalize nameOk first = nk at *
    clear hs
    go_enter Try.func5, Try.ntmps5
    go_wp2_with (first
      | (go_at_call 6; refine Calls.mono (awake_any _) ?_; rintro e w1 ⟨rfl, B1⟩)
      | (go_at_call 15; refine Calls.mono (cn _) ?_; rintro e w2 ⟨rfl, rfl⟩))
    all_goals first
      | (go_ret; exact ⟨rfl, by assumption⟩)
      | (exfalso; simp_all; omega)
  have cn := fun W => refname_b first hfirst true hgo.1 W
  have RF := Lib.hid (right_first hgo.1)
  have hl30 := hgo.2
  have hl30' : decide (((l.length : Nat) : Int) > 30) = false := decide_eq_false (by omega)
  clear hgo
  go_enter Try.func5, Try.ntmps5
  go_wp2_with (first
    | (go_at_call 6; refine Calls.mono (awake_any _) ?_; rintro e w1 ⟨rfl, B1⟩)
    | (go_at_call 15; refine Calls.mono (cn _) ?_; rintro e w2 ⟨rfl, rfl⟩))
  have SF := Lib.hid (sl_members (W := w2) (T := 44) [⟨first, 4⟩] 1 rfl (by intro m hm; simp at hm; subst hm; exact ⟨hfirst, by show I64 4; unfold I64; decide⟩) (by decide) #[.string first, .int .i64 4] rfl)
  go_loopw [5, 32] (fun s i wr => ∃ (k : Nat) (cur : List Member) (A0 : Option Addr) (c0 : Nat), k ≤ l.length ∧ i = .int .i64 k ∧ s = .slice A0 cur.length c0 ∧ Hid (RightL cur) ∧ Hid (Sl 2 rMember (fun _ => True) wr (.slice A0 cur.length c0) cur) ∧ Below w.heap.size w wr) (fun _ i _ => l.length - (intOf i).toNat)
  case atStart => exact ⟨0, [⟨first, 4⟩], _, _, by omega, by go_num, rfl, RF, SF, B1.alloc B1.size _⟩
  case round =>
    obtain ⟨k, cur, A0, c0, hk, rfl, rfl, R, SC, hbel⟩ := hrel
    have hz := hbel.size
    have hc8 := R.out.few
    by_cases hlt : k < l.length
    · obtain ⟨wo, rfl⟩ : ∃ wo : World, wo = wr := ⟨_, rfl⟩
      obtain ⟨x, x_b, x_o, x_k, x_d, x_m, rfl, x_l, x_S, x_0, x_1, x_2, x_3, x_R, x_kind_ok, x_by__le, x_name_le, x_role_ok⟩ := get_RDo hs hlt (kept_of hbel)
      clear x_k x_d
      obtain ⟨y0, hy0, cy0, fzy0, By0, qy0⟩ := boxed wo #[.int .i64 x.kind, .string x.by_, .string x.name, .int .i64 x.role] 46
      have y0_0 := cy0 0 _ rfl
      have y0_1 := cy0 1 _ rfl
      have y0_2 := cy0 2 _ rfl
      have y0_3 := cy0 3 _ rfl
      clear cy0
      have zy0 := By0.size
      have by0 : Below wo.heap.size wo y0 := By0
      by_cases h20 : x.name.size ≤ 20 ∧ x.by_.size ≤ 20
      rotate_left
      · go_wp2
        all_goals first
          | (go_ret; exact ⟨rfl, bel_call hbel By0⟩)
          | (exfalso; simp_all; omega)
      have hn20 : decide ((20 : Int) < (x.name.size : Int)) = false := decide_eq_false (by omega)
      have hb20 : decide ((20 : Int) < (x.by_.size : Int)) = false := decide_eq_false (by omega)
      have cS := fun W (hb : Below wo.heap.size wo W) => share_doc cur x.by_ x.name x.role x_name_le x_role_ok _ W _ (SC.out.keep rMember_ok (by decide) (kept_of hb)) (by omega)
      have cC := fun W (hb : Below wo.heap.size wo W) => change_doc cur x.by_ x.name x.role x_name_le x_role_ok _ W _ (SC.out.keep rMember_ok (by decide) (kept_of hb)) (by omega)
      have cV := fun W (hb : Below wo.heap.size wo W) => revoke_doc cur x.by_ x.name x_name_le _ W _ (SC.out.keep rMember_ok (by decide) (kept_of hb)) (by omega)
      have o1 := out_share cur x.by_ x.name x.role
      have o2 := out_change cur x.by_ x.name x.role
      have o3 := out_revoke cur x.by_ x.name
      have hkinds : (x.kind == 1) = true ∨ ((x.kind == 1) = false ∧ (x.kind == 2) = true) ∨ ((x.kind == 1) = false ∧ (x.kind == 2) = false) := by
        cases x.kind == 1 <;> cases x.kind == 2 <;> simp
      generalize shareD cur x.by_ x.name x.role = sk at *
      generalize changeD cur x.by_ x.name x.role = ck at *
      generalize revokeD cur x.by_ x.name = rk at *
      generalize shareL cur x.by_ x.name x.role = sl at *
      generalize changeL cur x.by_ x.name x.role = cl at *
      generalize revokeL cur x.by_ x.name = rl at *
      rcases hkinds with hk1 | ⟨hk1, hk2⟩ | ⟨hk1, hk2⟩
      · rcases o1 with ⟨hz0, rfl⟩ | ⟨rfl, g⟩
        · as_aux_lemma =>
            have hz1 : (sk == 0) = false := beq_eq_false_iff_ne.2 hz0
            go_wp2_with (go_at_call 9; refine Calls.mono (cS _ (by assumption)) ?_; rintro e w3 ⟨⟨A1, c1, rfl, s1⟩, b1⟩)
            go_roundw
            case rel => exact ⟨k + 1, cur, A0, c0, by omega, by go_num, rfl, R, Lib.hid (SC.out.keep rMember_ok (by decide) (kept_of (bel_call By0 b1))), bel_call (bel_call hbel By0) b1⟩
            case measure => simp [intOf]; omega
        · as_aux_lemma =>
            have G := Lib.hid g
            clear g
            go_upto_region 22 with (go_at_call 9; refine Calls.mono (cS _ (by assumption)) ?_; rintro e w3 ⟨⟨A1, c1, rfl, s1⟩, b1⟩)
            have B3 : Below wo.heap.size wo w3 := bel_call By0 b1
            have R2 := Lib.hid G.out.right
            have hx8 := R2.out.few
            have S3n := SC.out.keep rMember_ok (by decide) (kept_of B3)
            have d1 : w3.cell? ⟨wo.heap.size, 1, none⟩ = some (.string x.by_) := (b1.cell (p := ⟨wo.heap.size, 1, none⟩) (cell_lt y0_1)).trans y0_1
            have d2 : w3.cell? ⟨wo.heap.size, 2, none⟩ = some (.string x.name) := (b1.cell (p := ⟨wo.heap.size, 2, none⟩) (cell_lt y0_2)).trans y0_2
            have k1 := held_cells d1
            have k2 := held_cells d2
            have cOm : ∀ W, Below w3.heap.size w3 W → Calls Try.prog 13 #[.slice A0 cur.length c0, .string x.by_] W fun e w' => e = .returned (.int .i64 (ofOf cur x.by_)) ∧ Below W.heap.size W w' := fun W hb => of_any x.by_ cur _ W _ (S3n.keep rMember_ok (by decide) (kept_of hb))
            have cOw : ∀ W, Below w3.heap.size w3 W → Calls Try.prog 13 #[.slice A0 cur.length c0, .string x.name] W fun e w' => e = .returned (.int .i64 (ofOf cur x.name)) ∧ Below W.heap.size W w' := fun W hb => of_any x.name cur _ W _ (S3n.keep rMember_ok (by decide) (kept_of hb))
            have cOi : ∀ nm W, Below w3.heap.size w3 W → Calls Try.prog 13 #[.slice A1 sl.length c1, .string nm] W fun e w' => e = .returned (.int .i64 (ofOf sl nm)) ∧ Below W.heap.size W w' := fun nm W hb => of_any nm sl _ W _ (s1.keep rMember_ok (by decide) (kept_of hb))
            have cRx : ∀ W, Below w3.heap.size w3 W → Calls Try.prog 12 #[.slice A1 sl.length c1] W fun e w' => e = .returned (.bool true) ∧ Below w3.heap.size w3 w' := fun W hb => (right_any sl _ W _ (s1.keep rMember_ok (by decide) (kept_of hb)) (by omega)).mono fun _ _ hh => ⟨by rw [← (right_iff _).2 R2.out]; exact hh.1, bel_call hb hh.2⟩
            have cSt : ∀ W, Below w3.heap.size w3 W → Calls Try.prog 21 #[.slice A0 cur.length c0, .slice A1 sl.length c1, .string x.by_] W fun e w' => (∃ b q, e = .returned (.tuple #[.bool b, .int .i64 q]) ∧ (b, q) = stepOf cur sl x.by_) ∧ Below w3.heap.size w3 w' := fun W hb => (step_any cur sl x.by_ _ _ W _ _ (S3n.keep rMember_ok (by decide) (kept_of hb)) (s1.keep rMember_ok (by decide) (kept_of hb)) (by omega) (by omega)).mono fun _ _ hh => ⟨hh.1, bel_call hb hh.2⟩
            have Gm := Lib.hid G.out.mine
            have Gh := Lib.hid G.out.high
            have Gr := Lib.hid G.out.rest
            have Gd := Lib.hid G.out.differ
            have Gs := Lib.hid G.out.same
            have S1 := Lib.hid s1
            have cOx := cOi x.name
            clear G s1 d1 d2 cS cC cV y0_0 y0_1 y0_2 y0_3 b1 x_0 x_1 x_2 x_3 x_R
            obtain ⟨mi, hmi⟩ : ∃ mi, mi = ofOf cur x.by_ := ⟨_, rfl⟩
            obtain ⟨wi, hwi⟩ : ∃ wi, wi = ofOf cur x.name := ⟨_, rfl⟩
            obtain ⟨ii, hii⟩ : ∃ ii, ii = ofOf sl x.name := ⟨_, rfl⟩
            rw [← hmi] at cOm Gm Gh
            rw [← hwi] at cOw Gh Gd Gs
            rw [← hii] at cOx Gh Gd Gs
            clear hmi hwi hii
            go_region_held3 (fun W => Below w3.heap.size w3 W) (first | assumption | exact (Below.refl _ _).drew | exact Below.drew (by assumption) | exact bel_call (by assumption) (by assumption)) (first | (go_at_call_of 13 x.by_; refine Calls.mono (cOm _ (by assumption)) ?_; rintro e wA ⟨rfl, hA⟩) | (go_at_call_of 13 A0; refine Calls.mono (cOw _ (by assumption)) ?_; rintro e wB ⟨rfl, hB⟩) | (go_at_call_of 13 A1; refine Calls.mono (cOx _ (by assumption)) ?_; rintro e wC ⟨rfl, hC⟩))
            go_upto_region 23 with fail
            go_cut [32, 113] from 32 to 185 (fun s32 s113 wx => s32 = .int .i64 k ∧ s113 = .bool false ∧ Below w3.heap.size w3 wx)
            case first =>
              cases hsm : (x.by_.toList == x.name.toList)
              · have m3 : decide (mi < 3) = false := decide_eq_false fun h => Gm.out ⟨h, hsm⟩
                go_wp2_with (go_at_call 12; refine Calls.mono (cRx _ (by assumption)) ?_; rintro e w4 ⟨rfl, B4⟩)
                all_goals go_meet
                case rel => exact ⟨rfl, rfl, by assumption⟩
              · go_wp2_with (go_at_call 12; refine Calls.mono (cRx _ (by assumption)) ?_; rintro e w4 ⟨rfl, B4⟩)
                all_goals go_meet
                all_goals exact ⟨rfl, rfl, by assumption⟩
            case rest =>
              obtain ⟨rfl, rfl, hcb⟩ := hcut
              go_upto_region 25 with fail
              have e1 := k1 _ hcb
              have e2 := k2 _ hcb
              obtain ⟨wp, rfl⟩ : ∃ wp : World, wp = wc := ⟨_, rfl⟩
              go_cut [32, 132] from 32 to 185 (fun s32 s132 wx => s32 = .int .i64 k ∧ s132 = .bool false ∧ wx = wp)
              case first =>
                cases hsm : (x.by_.toList == x.name.toList)
                · by_cases h4 : mi < 4
                  · have m3 : decide (max wi ii ≥ 3) = false := decide_eq_false fun h => Gh.out ⟨h4, h, .inl hsm⟩
                    go_wp2
                    all_goals go_meet
                    all_goals exact ⟨rfl, rfl, rfl⟩
                  · go_wp2
                    all_goals go_meet
                    all_goals exact ⟨rfl, rfl, rfl⟩
                · by_cases h4 : mi < 4 ∧ 3 ≤ max wi ii
                  · have hi0 : ii = 0 := Classical.byContradiction fun h => Gh.out ⟨h4.1, h4.2, .inr h⟩
                    subst hi0
                    obtain ⟨h4, h5⟩ := h4
                    go_wp2
                    all_goals go_meet
                    all_goals exact ⟨rfl, rfl, rfl⟩
                  · go_wp2
                    all_goals first
                      | (exfalso; simp_all; omega)
                      | (go_meet; exact ⟨rfl, rfl, rfl⟩)
              case rest =>
                obtain ⟨rfl, rfl, rfl⟩ := hcut
                obtain ⟨An, cn0, hvn, hln, hcn, hnn, hsn⟩ := S3n
                simp only [Value.slice.injEq, true_and] at hvn
                obtain ⟨rfl, rfl⟩ := hvn
                unfold maxLen at hcn
                obtain ⟨wp, rfl⟩ : ∃ wp : World, wp = wc := ⟨_, rfl⟩
                go_wp2_with fail
                go_loopw [135] (fun i wr => ∃ (j : Nat), j ≤ cur.length ∧ i = .int .i64 j ∧ Below w3.heap.size w3 wr) (fun i _ => cur.length - (intOf i).toNat)
                case atStart => exact ⟨0, by omega, by go_num, hcb⟩
                case round =>
                  obtain ⟨j, hj, rfl, hbj⟩ := hrel
                  have hzj := hbj.size
                  by_cases hlt2 : j < cur.length
                  · obtain ⟨wq, rfl⟩ : ∃ wq : World, wq = wr := ⟨_, rfl⟩
                    obtain ⟨m, m_b, m_o, m_k, m_d, m_m, rfl, m_l, m_S, m_0, m_1, m_R, m_name_le, m_role_ok⟩ := get_Member hsn hlt2 (kept_of hbj)
                    obtain ⟨y1, hy1, cy1, fzy1, By1, qy1⟩ := boxed wq #[.string m.name, .int .i64 m.role] 44
                    have y1_0 := cy1 0 _ rfl
                    have y1_1 := cy1 1 _ rfl
                    clear cy1
                    have zy1 := By1.size
                    have q2 : y1.cell? ⟨wo.heap.size, 2, none⟩ = some (.string x.name) := k2 y1 (bel_call hbj By1)
                    have hmm := Lib.hid m_m
                    clear m_k m_d m_m m_R
                    cases hme : (m.name.toList == x.name.toList)
                    · have hr := Gr.out m hmm.out hme
                      have n0 := held_cells y1_0
                      have n1 := held_cells y1_1
                      have n2 := held_cells q2
                      have cOz : ∀ W, Below y1.heap.size y1 W → Calls Try.prog 13 #[.slice A1 sl.length c1, .string m.name] W fun e w' => e = .returned (.int .i64 m.role) ∧ Below W.heap.size W w' := fun W hb => by have := cOi m.name W (bel_call (bel_call hbj By1) hb); rwa [hr] at this
                      clear hr
                      go_wp2_with fail
                      go_region_held3 (fun W => Below y1.heap.size y1 W) (first | assumption | exact (Below.refl _ _).drew | exact Below.drew (by assumption) | exact bel_call (by assumption) (by assumption)) (first | (go_at_call 13; refine Calls.mono (cOz _ (by assumption)) ?_; rintro e wD ⟨rfl, hD⟩))
                      go_wp2
                      go_roundw
                      case rel => exact ⟨j + 1, by omega, by go_num, bel_call (bel_call hbj By1) (by assumption)⟩
                      case measure => simp [intOf]; omega
                    · go_wp2_with fail
                      go_quiet (fail)
                      go_wp2
                      go_roundw
                      case rel => exact ⟨j + 1, by omega, by go_num, below_drewN (bel_call hbj By1) _⟩
                      case measure => simp [intOf]; omega
                  · obtain rfl : j = cur.length := by omega
                    obtain ⟨wq, rfl⟩ : ∃ wq : World, wq = wr := ⟨_, rfl⟩
                    have e3 := k1 wq hbj
                    clear Gm Gh Gr cOm cOw cOi cOx cRx hsn
                    by_cases hws : wi = ii
                    · have hst := Gs.out hws
                      subst hws
                      rw [hst] at cSt
                      go_wp2_with (go_at_call 21; refine Calls.mono (cSt _ (by assumption)) ?_; rintro e w8 ⟨⟨b8, q8, rfl, h8⟩, B8⟩; cases h8)
                      go_roundw
                      case rel => exact ⟨k + 1, sl, A1, c1, by omega, by go_num, rfl, R2, Lib.hid (S1.out.keep rMember_ok (by decide) (kept_of B8)), bel_call (bel_call hbel B3) B8⟩
                      case measure => simp [intOf]; omega
                    · have hst := Gd.out hws
                      rw [hst] at cSt
                      have hws' : (wi == ii) = false := beq_eq_false_iff_ne.2 hws
                      go_wp2_with (go_at_call 21; refine Calls.mono (cSt _ (by assumption)) ?_; rintro e w8 ⟨⟨b8, q8, rfl, h8⟩, B8⟩; cases h8)
                      go_roundw
                      case rel => exact ⟨k + 1, sl, A1, c1, by omega, by go_num, rfl, R2, Lib.hid (S1.out.keep rMember_ok (by decide) (kept_of B8)), bel_call (bel_call hbel B3) B8⟩
                      case measure => simp [intOf]; omega
      · rcases o2 with ⟨hz0, rfl⟩ | ⟨rfl, g⟩
        · as_aux_lemma =>
            have hz1 : (ck == 0) = false := beq_eq_false_iff_ne.2 hz0
            go_wp2_with (go_at_call 10; refine Calls.mono (cC _ (by assumption)) ?_; rintro e w3 ⟨⟨A1, c1, rfl, s1⟩, b1⟩)
            go_roundw
            case rel => exact ⟨k + 1, cur, A0, c0, by omega, by go_num, rfl, R, Lib.hid (SC.out.keep rMember_ok (by decide) (kept_of (bel_call By0 b1))), bel_call (bel_call hbel By0) b1⟩
            case measure => simp [intOf]; omega
        · as_aux_lemma =>
            have G := Lib.hid g
            clear g
            go_upto_region 22 with (go_at_call 10; refine Calls.mono (cC _ (by assumption)) ?_; rintro e w3 ⟨⟨A1, c1, rfl, s1⟩, b1⟩)
            have B3 : Below wo.heap.size wo w3 := bel_call By0 b1
            have R2 := Lib.hid G.out.right
            have hx8 := R2.out.few
            have S3n := SC.out.keep rMember_ok (by decide) (kept_of B3)
            have d1 : w3.cell? ⟨wo.heap.size, 1, none⟩ = some (.string x.by_) := (b1.cell (p := ⟨wo.heap.size, 1, none⟩) (cell_lt y0_1)).trans y0_1
            have d2 : w3.cell? ⟨wo.heap.size, 2, none⟩ = some (.string x.name) := (b1.cell (p := ⟨wo.heap.size, 2, none⟩) (cell_lt y0_2)).trans y0_2
            have k1 := held_cells d1
            have k2 := held_cells d2
            have cOm : ∀ W, Below w3.heap.size w3 W → Calls Try.prog 13 #[.slice A0 cur.length c0, .string x.by_] W fun e w' => e = .returned (.int .i64 (ofOf cur x.by_)) ∧ Below W.heap.size W w' := fun W hb => of_any x.by_ cur _ W _ (S3n.keep rMember_ok (by decide) (kept_of hb))
            have cOw : ∀ W, Below w3.heap.size w3 W → Calls Try.prog 13 #[.slice A0 cur.length c0, .string x.name] W fun e w' => e = .returned (.int .i64 (ofOf cur x.name)) ∧ Below W.heap.size W w' := fun W hb => of_any x.name cur _ W _ (S3n.keep rMember_ok (by decide) (kept_of hb))
            have cOi : ∀ nm W, Below w3.heap.size w3 W → Calls Try.prog 13 #[.slice A1 cl.length c1, .string nm] W fun e w' => e = .returned (.int .i64 (ofOf cl nm)) ∧ Below W.heap.size W w' := fun nm W hb => of_any nm cl _ W _ (s1.keep rMember_ok (by decide) (kept_of hb))
            have cRx : ∀ W, Below w3.heap.size w3 W → Calls Try.prog 12 #[.slice A1 cl.length c1] W fun e w' => e = .returned (.bool true) ∧ Below w3.heap.size w3 w' := fun W hb => (right_any cl _ W _ (s1.keep rMember_ok (by decide) (kept_of hb)) (by omega)).mono fun _ _ hh => ⟨by rw [← (right_iff _).2 R2.out]; exact hh.1, bel_call hb hh.2⟩
            have cSt : ∀ W, Below w3.heap.size w3 W → Calls Try.prog 21 #[.slice A0 cur.length c0, .slice A1 cl.length c1, .string x.by_] W fun e w' => (∃ b q, e = .returned (.tuple #[.bool b, .int .i64 q]) ∧ (b, q) = stepOf cur cl x.by_) ∧ Below w3.heap.size w3 w' := fun W hb => (step_any cur cl x.by_ _ _ W _ _ (S3n.keep rMember_ok (by decide) (kept_of hb)) (s1.keep rMember_ok (by decide) (kept_of hb)) (by omega) (by omega)).mono fun _ _ hh => ⟨hh.1, bel_call hb hh.2⟩
            have Gm := Lib.hid G.out.mine
            have Gh := Lib.hid G.out.high
            have Gr := Lib.hid G.out.rest
            have Gd := Lib.hid G.out.differ
            have Gs := Lib.hid G.out.same
            have S1 := Lib.hid s1
            have cOx := cOi x.name
            clear G s1 d1 d2 cS cC cV y0_0 y0_1 y0_2 y0_3 b1 x_0 x_1 x_2 x_3 x_R
            obtain ⟨mi, hmi⟩ : ∃ mi, mi = ofOf cur x.by_ := ⟨_, rfl⟩
            obtain ⟨wi, hwi⟩ : ∃ wi, wi = ofOf cur x.name := ⟨_, rfl⟩
            obtain ⟨ii, hii⟩ : ∃ ii, ii = ofOf cl x.name := ⟨_, rfl⟩
            rw [← hmi] at cOm Gm Gh
            rw [← hwi] at cOw Gh Gd Gs
            rw [← hii] at cOx Gh Gd Gs
            clear hmi hwi hii
            go_region_held3 (fun W => Below w3.heap.size w3 W) (first | assumption | exact (Below.refl _ _).drew | exact Below.drew (by assumption) | exact bel_call (by assumption) (by assumption)) (first | (go_at_call_of 13 x.by_; refine Calls.mono (cOm _ (by assumption)) ?_; rintro e wA ⟨rfl, hA⟩) | (go_at_call_of 13 A0; refine Calls.mono (cOw _ (by assumption)) ?_; rintro e wB ⟨rfl, hB⟩) | (go_at_call_of 13 A1; refine Calls.mono (cOx _ (by assumption)) ?_; rintro e wC ⟨rfl, hC⟩))
            go_upto_region 23 with fail
            go_cut [32, 113] from 32 to 185 (fun s32 s113 wx => s32 = .int .i64 k ∧ s113 = .bool false ∧ Below w3.heap.size w3 wx)
            case first =>
              cases hsm : (x.by_.toList == x.name.toList)
              · have m3 : decide (mi < 3) = false := decide_eq_false fun h => Gm.out ⟨h, hsm⟩
                go_wp2_with (go_at_call 12; refine Calls.mono (cRx _ (by assumption)) ?_; rintro e w4 ⟨rfl, B4⟩)
                all_goals go_meet
                case rel => exact ⟨rfl, rfl, by assumption⟩
              · go_wp2_with (go_at_call 12; refine Calls.mono (cRx _ (by assumption)) ?_; rintro e w4 ⟨rfl, B4⟩)
                all_goals go_meet
                all_goals exact ⟨rfl, rfl, by assumption⟩
            case rest =>
              obtain ⟨rfl, rfl, hcb⟩ := hcut
              go_upto_region 25 with fail
              have e1 := k1 _ hcb
              have e2 := k2 _ hcb
              obtain ⟨wp, rfl⟩ : ∃ wp : World, wp = wc := ⟨_, rfl⟩
              go_cut [32, 132] from 32 to 185 (fun s32 s132 wx => s32 = .int .i64 k ∧ s132 = .bool false ∧ wx = wp)
              case first =>
                cases hsm : (x.by_.toList == x.name.toList)
                · by_cases h4 : mi < 4
                  · have m3 : decide (max wi ii ≥ 3) = false := decide_eq_false fun h => Gh.out ⟨h4, h, .inl hsm⟩
                    go_wp2
                    all_goals go_meet
                    all_goals exact ⟨rfl, rfl, rfl⟩
                  · go_wp2
                    all_goals go_meet
                    all_goals exact ⟨rfl, rfl, rfl⟩
                · by_cases h4 : mi < 4 ∧ 3 ≤ max wi ii
                  · have hi0 : ii = 0 := Classical.byContradiction fun h => Gh.out ⟨h4.1, h4.2, .inr h⟩
                    subst hi0
                    obtain ⟨h4, h5⟩ := h4
                    go_wp2
                    all_goals go_meet
                    all_goals exact ⟨rfl, rfl, rfl⟩
                  · go_wp2
                    all_goals first
                      | (exfalso; simp_all; omega)
                      | (go_meet; exact ⟨rfl, rfl, rfl⟩)
              case rest =>
                obtain ⟨rfl, rfl, rfl⟩ := hcut
                obtain ⟨An, cn0, hvn, hln, hcn, hnn, hsn⟩ := S3n
                simp only [Value.slice.injEq, true_and] at hvn
                obtain ⟨rfl, rfl⟩ := hvn
                unfold maxLen at hcn
                obtain ⟨wp, rfl⟩ : ∃ wp : World, wp = wc := ⟨_, rfl⟩
                go_wp2_with fail
                go_loopw [135] (fun i wr => ∃ (j : Nat), j ≤ cur.length ∧ i = .int .i64 j ∧ Below w3.heap.size w3 wr) (fun i _ => cur.length - (intOf i).toNat)
                case atStart => exact ⟨0, by omega, by go_num, hcb⟩
                case round =>
                  obtain ⟨j, hj, rfl, hbj⟩ := hrel
                  have hzj := hbj.size
                  by_cases hlt2 : j < cur.length
                  · obtain ⟨wq, rfl⟩ : ∃ wq : World, wq = wr := ⟨_, rfl⟩
                    obtain ⟨m, m_b, m_o, m_k, m_d, m_m, rfl, m_l, m_S, m_0, m_1, m_R, m_name_le, m_role_ok⟩ := get_Member hsn hlt2 (kept_of hbj)
                    obtain ⟨y1, hy1, cy1, fzy1, By1, qy1⟩ := boxed wq #[.string m.name, .int .i64 m.role] 44
                    have y1_0 := cy1 0 _ rfl
                    have y1_1 := cy1 1 _ rfl
                    clear cy1
                    have zy1 := By1.size
                    have q2 : y1.cell? ⟨wo.heap.size, 2, none⟩ = some (.string x.name) := k2 y1 (bel_call hbj By1)
                    have hmm := Lib.hid m_m
                    clear m_k m_d m_m m_R
                    cases hme : (m.name.toList == x.name.toList)
                    · have hr := Gr.out m hmm.out hme
                      have n0 := held_cells y1_0
                      have n1 := held_cells y1_1
                      have n2 := held_cells q2
                      have cOz : ∀ W, Below y1.heap.size y1 W → Calls Try.prog 13 #[.slice A1 cl.length c1, .string m.name] W fun e w' => e = .returned (.int .i64 m.role) ∧ Below W.heap.size W w' := fun W hb => by have := cOi m.name W (bel_call (bel_call hbj By1) hb); rwa [hr] at this
                      clear hr
                      go_wp2_with fail
                      go_region_held3 (fun W => Below y1.heap.size y1 W) (first | assumption | exact (Below.refl _ _).drew | exact Below.drew (by assumption) | exact bel_call (by assumption) (by assumption)) (first | (go_at_call 13; refine Calls.mono (cOz _ (by assumption)) ?_; rintro e wD ⟨rfl, hD⟩))
                      go_wp2
                      go_roundw
                      case rel => exact ⟨j + 1, by omega, by go_num, bel_call (bel_call hbj By1) (by assumption)⟩
                      case measure => simp [intOf]; omega
                    · go_wp2_with fail
                      go_quiet (fail)
                      go_wp2
                      go_roundw
                      case rel => exact ⟨j + 1, by omega, by go_num, below_drewN (bel_call hbj By1) _⟩
                      case measure => simp [intOf]; omega
                  · obtain rfl : j = cur.length := by omega
                    obtain ⟨wq, rfl⟩ : ∃ wq : World, wq = wr := ⟨_, rfl⟩
                    have e3 := k1 wq hbj
                    clear Gm Gh Gr cOm cOw cOi cOx cRx hsn
                    by_cases hws : wi = ii
                    · have hst := Gs.out hws
                      subst hws
                      rw [hst] at cSt
                      go_wp2_with (go_at_call 21; refine Calls.mono (cSt _ (by assumption)) ?_; rintro e w8 ⟨⟨b8, q8, rfl, h8⟩, B8⟩; cases h8)
                      go_roundw
                      case rel => exact ⟨k + 1, cl, A1, c1, by omega, by go_num, rfl, R2, Lib.hid (S1.out.keep rMember_ok (by decide) (kept_of B8)), bel_call (bel_call hbel B3) B8⟩
                      case measure => simp [intOf]; omega
                    · have hst := Gd.out hws
                      rw [hst] at cSt
                      have hws' : (wi == ii) = false := beq_eq_false_iff_ne.2 hws
                      go_wp2_with (go_at_call 21; refine Calls.mono (cSt _ (by assumption)) ?_; rintro e w8 ⟨⟨b8, q8, rfl, h8⟩, B8⟩; cases h8)
                      go_roundw
                      case rel => exact ⟨k + 1, cl, A1, c1, by omega, by go_num, rfl, R2, Lib.hid (S1.out.keep rMember_ok (by decide) (kept_of B8)), bel_call (bel_call hbel B3) B8⟩
                      case measure => simp [intOf]; omega
      · rcases o3 with ⟨hz0, rfl⟩ | ⟨rfl, g⟩
        · as_aux_lemma =>
            have hz1 : (rk == 0) = false := beq_eq_false_iff_ne.2 hz0
            go_wp2_with (go_at_call 11; refine Calls.mono (cV _ (by assumption)) ?_; rintro e w3 ⟨⟨A1, c1, rfl, s1⟩, b1⟩)
            go_roundw
            case rel => exact ⟨k + 1, cur, A0, c0, by omega, by go_num, rfl, R, Lib.hid (SC.out.keep rMember_ok (by decide) (kept_of (bel_call By0 b1))), bel_call (bel_call hbel By0) b1⟩
            case measure => simp [intOf]; omega
        · as_aux_lemma =>
            have G := Lib.hid g
            clear g
            go_upto_region 22 with (go_at_call 11; refine Calls.mono (cV _ (by assumption)) ?_; rintro e w3 ⟨⟨A1, c1, rfl, s1⟩, b1⟩)
            have B3 : Below wo.heap.size wo w3 := bel_call By0 b1
            have R2 := Lib.hid G.out.right
            have hx8 := R2.out.few
            have S3n := SC.out.keep rMember_ok (by decide) (kept_of B3)
            have d1 : w3.cell? ⟨wo.heap.size, 1, none⟩ = some (.string x.by_) := (b1.cell (p := ⟨wo.heap.size, 1, none⟩) (cell_lt y0_1)).trans y0_1
            have d2 : w3.cell? ⟨wo.heap.size, 2, none⟩ = some (.string x.name) := (b1.cell (p := ⟨wo.heap.size, 2, none⟩) (cell_lt y0_2)).trans y0_2
            have k1 := held_cells d1
            have k2 := held_cells d2
            have cOm : ∀ W, Below w3.heap.size w3 W → Calls Try.prog 13 #[.slice A0 cur.length c0, .string x.by_] W fun e w' => e = .returned (.int .i64 (ofOf cur x.by_)) ∧ Below W.heap.size W w' := fun W hb => of_any x.by_ cur _ W _ (S3n.keep rMember_ok (by decide) (kept_of hb))
            have cOw : ∀ W, Below w3.heap.size w3 W → Calls Try.prog 13 #[.slice A0 cur.length c0, .string x.name] W fun e w' => e = .returned (.int .i64 (ofOf cur x.name)) ∧ Below W.heap.size W w' := fun W hb => of_any x.name cur _ W _ (S3n.keep rMember_ok (by decide) (kept_of hb))
            have cOi : ∀ nm W, Below w3.heap.size w3 W → Calls Try.prog 13 #[.slice A1 rl.length c1, .string nm] W fun e w' => e = .returned (.int .i64 (ofOf rl nm)) ∧ Below W.heap.size W w' := fun nm W hb => of_any nm rl _ W _ (s1.keep rMember_ok (by decide) (kept_of hb))
            have cRx : ∀ W, Below w3.heap.size w3 W → Calls Try.prog 12 #[.slice A1 rl.length c1] W fun e w' => e = .returned (.bool true) ∧ Below w3.heap.size w3 w' := fun W hb => (right_any rl _ W _ (s1.keep rMember_ok (by decide) (kept_of hb)) (by omega)).mono fun _ _ hh => ⟨by rw [← (right_iff _).2 R2.out]; exact hh.1, bel_call hb hh.2⟩
            have cSt : ∀ W, Below w3.heap.size w3 W → Calls Try.prog 21 #[.slice A0 cur.length c0, .slice A1 rl.length c1, .string x.by_] W fun e w' => (∃ b q, e = .returned (.tuple #[.bool b, .int .i64 q]) ∧ (b, q) = stepOf cur rl x.by_) ∧ Below w3.heap.size w3 w' := fun W hb => (step_any cur rl x.by_ _ _ W _ _ (S3n.keep rMember_ok (by decide) (kept_of hb)) (s1.keep rMember_ok (by decide) (kept_of hb)) (by omega) (by omega)).mono fun _ _ hh => ⟨hh.1, bel_call hb hh.2⟩
            have Gm := Lib.hid G.out.mine
            have Gh := Lib.hid G.out.high
            have Gr := Lib.hid G.out.rest
            have Gd := Lib.hid G.out.differ
            have Gs := Lib.hid G.out.same
            have S1 := Lib.hid s1
            have cOx := cOi x.name
            clear G s1 d1 d2 cS cC cV y0_0 y0_1 y0_2 y0_3 b1 x_0 x_1 x_2 x_3 x_R
            obtain ⟨mi, hmi⟩ : ∃ mi, mi = ofOf cur x.by_ := ⟨_, rfl⟩
            obtain ⟨wi, hwi⟩ : ∃ wi, wi = ofOf cur x.name := ⟨_, rfl⟩
            obtain ⟨ii, hii⟩ : ∃ ii, ii = ofOf rl x.name := ⟨_, rfl⟩
            rw [← hmi] at cOm Gm Gh
            rw [← hwi] at cOw Gh Gd Gs
            rw [← hii] at cOx Gh Gd Gs
            clear hmi hwi hii
            go_region_held3 (fun W => Below w3.heap.size w3 W) (first | assumption | exact (Below.refl _ _).drew | exact Below.drew (by assumption) | exact bel_call (by assumption) (by assumption)) (first | (go_at_call_of 13 x.by_; refine Calls.mono (cOm _ (by assumption)) ?_; rintro e wA ⟨rfl, hA⟩) | (go_at_call_of 13 A0; refine Calls.mono (cOw _ (by assumption)) ?_; rintro e wB ⟨rfl, hB⟩) | (go_at_call_of 13 A1; refine Calls.mono (cOx _ (by assumption)) ?_; rintro e wC ⟨rfl, hC⟩))
            go_upto_region 23 with fail
            go_cut [32, 113] from 32 to 185 (fun s32 s113 wx => s32 = .int .i64 k ∧ s113 = .bool false ∧ Below w3.heap.size w3 wx)
            case first =>
              cases hsm : (x.by_.toList == x.name.toList)
              · have m3 : decide (mi < 3) = false := decide_eq_false fun h => Gm.out ⟨h, hsm⟩
                go_wp2_with (go_at_call 12; refine Calls.mono (cRx _ (by assumption)) ?_; rintro e w4 ⟨rfl, B4⟩)
                all_goals go_meet
                case rel => exact ⟨rfl, rfl, by assumption⟩
              · go_wp2_with (go_at_call 12; refine Calls.mono (cRx _ (by assumption)) ?_; rintro e w4 ⟨rfl, B4⟩)
                all_goals go_meet
                all_goals exact ⟨rfl, rfl, by assumption⟩
            case rest =>
              obtain ⟨rfl, rfl, hcb⟩ := hcut
              go_upto_region 25 with fail
              have e1 := k1 _ hcb
              have e2 := k2 _ hcb
              obtain ⟨wp, rfl⟩ : ∃ wp : World, wp = wc := ⟨_, rfl⟩
              go_cut [32, 132] from 32 to 185 (fun s32 s132 wx => s32 = .int .i64 k ∧ s132 = .bool false ∧ wx = wp)
              case first =>
                cases hsm : (x.by_.toList == x.name.toList)
                · by_cases h4 : mi < 4
                  · have m3 : decide (max wi ii ≥ 3) = false := decide_eq_false fun h => Gh.out ⟨h4, h, .inl hsm⟩
                    go_wp2
                    all_goals go_meet
                    all_goals exact ⟨rfl, rfl, rfl⟩
                  · go_wp2
                    all_goals go_meet
                    all_goals exact ⟨rfl, rfl, rfl⟩
                · by_cases h4 : mi < 4 ∧ 3 ≤ max wi ii
                  · have hi0 : ii = 0 := Classical.byContradiction fun h => Gh.out ⟨h4.1, h4.2, .inr h⟩
                    subst hi0
                    obtain ⟨h4, h5⟩ := h4
                    go_wp2
                    all_goals go_meet
                    all_goals exact ⟨rfl, rfl, rfl⟩
                  · go_wp2
                    all_goals first
                      | (exfalso; simp_all; omega)
                      | (go_meet; exact ⟨rfl, rfl, rfl⟩)
              case rest =>
                obtain ⟨rfl, rfl, rfl⟩ := hcut
                obtain ⟨An, cn0, hvn, hln, hcn, hnn, hsn⟩ := S3n
                simp only [Value.slice.injEq, true_and] at hvn
                obtain ⟨rfl, rfl⟩ := hvn
                unfold maxLen at hcn
                obtain ⟨wp, rfl⟩ : ∃ wp : World, wp = wc := ⟨_, rfl⟩
                go_wp2_with fail
                go_loopw [135] (fun i wr => ∃ (j : Nat), j ≤ cur.length ∧ i = .int .i64 j ∧ Below w3.heap.size w3 wr) (fun i _ => cur.length - (intOf i).toNat)
                case atStart => exact ⟨0, by omega, by go_num, hcb⟩
                case round =>
                  obtain ⟨j, hj, rfl, hbj⟩ := hrel
                  have hzj := hbj.size
                  by_cases hlt2 : j < cur.length
                  · obtain ⟨wq, rfl⟩ : ∃ wq : World, wq = wr := ⟨_, rfl⟩
                    obtain ⟨m, m_b, m_o, m_k, m_d, m_m, rfl, m_l, m_S, m_0, m_1, m_R, m_name_le, m_role_ok⟩ := get_Member hsn hlt2 (kept_of hbj)
                    obtain ⟨y1, hy1, cy1, fzy1, By1, qy1⟩ := boxed wq #[.string m.name, .int .i64 m.role] 44
                    have y1_0 := cy1 0 _ rfl
                    have y1_1 := cy1 1 _ rfl
                    clear cy1
                    have zy1 := By1.size
                    have q2 : y1.cell? ⟨wo.heap.size, 2, none⟩ = some (.string x.name) := k2 y1 (bel_call hbj By1)
                    have hmm := Lib.hid m_m
                    clear m_k m_d m_m m_R
                    cases hme : (m.name.toList == x.name.toList)
                    · have hr := Gr.out m hmm.out hme
                      have n0 := held_cells y1_0
                      have n1 := held_cells y1_1
                      have n2 := held_cells q2
                      have cOz : ∀ W, Below y1.heap.size y1 W → Calls Try.prog 13 #[.slice A1 rl.length c1, .string m.name] W fun e w' => e = .returned (.int .i64 m.role) ∧ Below W.heap.size W w' := fun W hb => by have := cOi m.name W (bel_call (bel_call hbj By1) hb); rwa [hr] at this
                      clear hr
                      go_wp2_with fail
                      go_region_held3 (fun W => Below y1.heap.size y1 W) (first | assumption | exact (Below.refl _ _).drew | exact Below.drew (by assumption) | exact bel_call (by assumption) (by assumption)) (first | (go_at_call 13; refine Calls.mono (cOz _ (by assumption)) ?_; rintro e wD ⟨rfl, hD⟩))
                      go_wp2
                      go_roundw
                      case rel => exact ⟨j + 1, by omega, by go_num, bel_call (bel_call hbj By1) (by assumption)⟩
                      case measure => simp [intOf]; omega
                    · go_wp2_with fail
                      go_quiet (fail)
                      go_wp2
                      go_roundw
                      case rel => exact ⟨j + 1, by omega, by go_num, below_drewN (bel_call hbj By1) _⟩
                      case measure => simp [intOf]; omega
                  · obtain rfl : j = cur.length := by omega
                    obtain ⟨wq, rfl⟩ : ∃ wq : World, wq = wr := ⟨_, rfl⟩
                    have e3 := k1 wq hbj
                    clear Gm Gh Gr cOm cOw cOi cOx cRx hsn
                    by_cases hws : wi = ii
                    · have hst := Gs.out hws
                      subst hws
                      rw [hst] at cSt
                      go_wp2_with (go_at_call 21; refine Calls.mono (cSt _ (by assumption)) ?_; rintro e w8 ⟨⟨b8, q8, rfl, h8⟩, B8⟩; cases h8)
                      go_roundw
                      case rel => exact ⟨k + 1, rl, A1, c1, by omega, by go_num, rfl, R2, Lib.hid (S1.out.keep rMember_ok (by decide) (kept_of B8)), bel_call (bel_call hbel B3) B8⟩
                      case measure => simp [intOf]; omega
                    · have hst := Gd.out hws
                      rw [hst] at cSt
                      have hws' : (wi == ii) = false := beq_eq_false_iff_ne.2 hws
                      go_wp2_with (go_at_call 21; refine Calls.mono (cSt _ (by assumption)) ?_; rintro e w8 ⟨⟨b8, q8, rfl, h8⟩, B8⟩; cases h8)
                      go_roundw
                      case rel => exact ⟨k + 1, rl, A1, c1, by omega, by go_num, rfl, R2, Lib.hid (S1.out.keep rMember_ok (by decide) (kept_of B8)), bel_call (bel_call hbel B3) B8⟩
                      case measure => simp [intOf]; omega
    · obtain rfl : k = l.length := by omega
      obtain ⟨wo, rfl⟩ : ∃ wo : World, wo = wr := ⟨_, rfl⟩
      have hown := R.out.own
      rw [← R.out.owners] at hown
      have hall := with_all fun m hm => (R.out.each m hm).2
      have cW := fun n W (hb : Below wo.heap.size wo W) => with_any cur n _ W _ (SC.out.keep rMember_ok (by decide) (kept_of hb)) (by omega)
      unfold ownersOf at hown
      have cW4 := cW 4
      have cW0 := cW 0
      clear cW
      go_wp2_with (first
        | (go_at_call_of 23 (Value.int IntKind.i64 4); refine Calls.mono (cW4 _ (Below.refl _ _)) ?_; rintro e w4 ⟨⟨v4, rfl, A4, c4, rfl, _⟩, b4⟩)
        | (go_at_call_of 23 (Value.int IntKind.i64 0); refine Calls.mono (cW0 _ (by assumption)) ?_; rintro e w5 ⟨⟨v5, rfl, A5, c5, rfl, _⟩, b5⟩))
      all_goals go_ret
      all_goals first
        | exact ⟨rfl, bel_call (bel_call hbel b4) b5⟩
        | (exfalso; simp_all; omega)
end Go.Proofs.Ytanhholjfkofoaa
