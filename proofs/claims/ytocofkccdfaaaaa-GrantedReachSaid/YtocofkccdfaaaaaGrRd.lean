/- Layer granted: Readers. Conditions: as each theorem says. -/
import Derived.Test.YtocofkccdfaaaaaGrCl
namespace Go.Proofs.Ytocofkccdfaaaaa
open Go.RowKit Go.Deep

def memsAt (st : State) (s : Nm) : List Member := (nowM ((findF st s).getD zeroF)).members
theorem memsOf_take {st : State} {c : List At} {k : Nat} {x : At} (hx : c[k]? = some x) : memsOf st (c.take (k + 1)) = memsOf st (c.take k) ++ (memsAt st x.name).map Member.name := by
  rw [List.take_add_one, hx]
  simp [memsOf, memsAt]
theorem now_mem {f : Folder} : nowM f = zeroM ∨ nowM f ∈ f.manifests := by
  unfold nowM
  rcases h : f.manifests.getLast? with _ | m
  · exact .inl rfl
  · exact .inr (List.mem_of_getLast? h)
theorem memsAt_small {st : State} (h : Small st) (s : Nm) : (memsAt st s).length ≤ 20 ∧ ∀ m ∈ memsAt st s, m.name.size ≤ 20 := by
  unfold memsAt
  cases hf : findF st s with
  | none => exact ⟨Nat.zero_le _, fun m hm => by cases hm⟩
  | some f =>
    rcases now_mem (f := f) with e | e
    · rw [Option.getD_some, e]
      exact ⟨Nat.zero_le _, fun m hm => by cases hm⟩
    · have := (h.short f (findF_mem hf)).man _ e
      exact ⟨this.2.1, this.2.2⟩
theorem memsOf_len {st : State} (h : Small st) : ∀ c : List At, (memsOf st c).length ≤ 20 * c.length
  | [] => by simp [memsOf]
  | x :: c => by
    have := memsOf_len h c
    have h2 := (memsAt_small h x.name).1
    unfold memsAt at h2
    simp only [memsOf, List.flatMap_cons, List.length_append, List.length_map, List.length_cons] at this ⊢
    omega
theorem memsOf_size {st : State} (h : Small st) {c : List At} {x : Nm} (hx : x ∈ memsOf st c) : x.size ≤ 1000 := by
  unfold memsOf at hx
  obtain ⟨a, _, h2⟩ := List.mem_flatMap.1 hx
  obtain ⟨m, h3, rfl⟩ := List.mem_map.1 h2
  have := (memsAt_small h a.name).2 m h3
  omega
theorem read_size {st : State} (h : Small st) {c : List At} {x : Nm} (hx : ClR (depE st.deposits) (memsOf st c) x) : x.size ≤ 1000 := by
  refine hx.closed (fun x => x.size ≤ 1000) (fun y hy => memsOf_size h hy) fun e he _ => ?_
  obtain ⟨a, b⟩ := e
  obtain ⟨p, hp, _, rfl⟩ := mem_depE.1 he
  have := (h.pairs p hp).2
  dsimp only
  omega
theorem deps_take {l : List Pair} {q : Nat} {p : Pair} (hp : l[q]? = some p) {y : Nm} {P : Nm → Prop} (h : ∀ r ∈ l.take q, r.frm = y → P r.to) (k : p.frm = y → P p.to) : ∀ r ∈ l.take (q + 1), r.frm = y → P r.to := by
  rw [List.take_add_one, hp]
  intro r hr e
  rcases List.mem_append.1 hr with hr | hr
  · exact h r hr e
  · obtain rfl : r = p := by simpa using hr
    exact k e
theorem field_mems (a b c : Nm) (x y : Int) (g : Bool) (v u : Value) (w : World) : (Instr.field 72 (.agg #[.string a, .int .i64 x, v, .string b, u, .int .i64 y, .bool g, .string c]) 4).run Try.prog w = .ok u w := by kernel_rfl
theorem stay2 {w w0 wq W : World} (h0 : w.heap.size ≤ w0.heap.size) (hq : Below w0.heap.size w0 wq) (hW : Below w0.heap.size w0 W) : ∀ b, b < w.heap.size → W.heap[b]? = wq.heap[b]? := fun b hb => (hW.block b (Nat.lt_of_lt_of_le hb h0)).trans (hq.block b (Nat.lt_of_lt_of_le hb h0)).symm
set_option maxHeartbeats 8000000 in
set_option maxRecDepth 100000 in
theorem readers_any (st : State) (hsm : Small st) (fo : Nm) (hfo : fo.size ≤ 140737488355328) (cs : List Value) (w : World) (S : Nat → Prop) (h : rState S w cs st) : Calls Try.prog 15 #[.agg cs.toArray, .string fo] w fun e w' => (∃ (v : Value) (R : List Nm), e = .returned v ∧ Sl 1 rStr (fun _ => True) w' v R ∧ IsNames (ReadP st fo) R) ∧ Below w.heap.size w w' := by
  have HR := Lib.hid (rState_keep h (show Kept S (fun z => z < w.heap.size) w w from fun b _ hl => ⟨hl, rfl⟩))
  have HSM := Lib.hid hsm
  clear hsm
  replace h := HR.out
  obtain ⟨st_A1, st_c1, st_A2, st_c2, st_A3, st_c3, rfl, st_turn_ok, st_users_l, st_users_m, st_users_n, st_users_s, st_deposits_l, st_deposits_m, st_deposits_n, st_deposits_s, st_folders_l, st_folders_m, st_folders_n, st_folders_s⟩ := open_State h
  obtain ⟨w0, hw0, cw0, fw0, Bw0, qw0⟩ := boxed w #[.int .i64 st.turn, .slice st_A1 st.users.length st_c1, .slice st_A2 st.deposits.length st_c2, .slice st_A3 st.folders.length st_c3] 26
  have HB0 := Lib.hid Bw0
  have HC0 := Lib.hid cw0
  have HST := Lib.hid fun W (hW : Below w0.heap.size w0 W) => rState_keep HR.out (kept_of (bel_call HB0.out hW))
  have s0 := cw0 0 _ rfl
  have s1 := cw0 1 _ rfl
  have s2 := cw0 2 _ rfl
  have s3 := cw0 3 _ rfl
  clear cw0 fw0 Bw0 st_users_s st_folders_s
  obtain ⟨istring, histring, hzstring, h1string, h2string⟩ := info_parts (show (Try.prog.info? 9).map (fun i => (i.zero, i.size, i.bytes)) = some (some (.string ⟨#[]⟩), 1, 16) from by kernel_rfl)
  go_enter Try.func15, Try.ntmps15
  go_wp2_with fail
  clear hw0 s0 s1 s2 s3
  refine Calls.mono (chain_any st fo hfo _ w0 _ (HST.out _ (Below.refl _ _))) ?_
  rintro e w1 ⟨⟨v1, rfl, hs1⟩, b1⟩
  obtain ⟨c, hc⟩ : ∃ c, chainOf st 4 fo = c := ⟨_, rfl⟩
  have HCC := Lib.hid hc
  rw [hc] at hs1
  have hc4 : c.length ≤ 4 := by rw [← hc]; exact chainOf_len _ _ _
  obtain ⟨A1, c1, rfl, hl1, hcm1, hn1, hs1⟩ := hs1
  unfold maxLen at hcm1
  have HB1 := Lib.hid b1
  clear hc b1
  go_wp2
  go_loopw [5, 19] (fun vo i wr => ∃ (k : Nat), k ≤ c.length ∧ i = .int .i64 k ∧ Hid (Grow 9 1 rStr (fun _ => False) wr w1.heap.size vo (memsOf st (c.take k))) ∧ Below w1.heap.size w1 wr) (fun _ i _ => c.length - (RowKit.intOf i).toNat)
  case atStart => exact ⟨0, by omega, by go_num, Grow.nil, Below.refl _ _⟩
  case round =>
    obtain ⟨k, hk, rfl, HG, hbel⟩ := hrel
    have B0 := Lib.hid (bel_call HB1.out hbel)
    obtain ⟨A2, n2, c2, rfl, hn2⟩ := HG.out.shape'
    clear hn2
    have hz1 := hbel.size
    by_cases hlt : k < c.length
    · obtain ⟨x, hx⟩ : ∃ x, c[k]? = some x := ⟨_, List.getElem?_eq_getElem hlt⟩
      obtain ⟨b, o, ys, hA, hbl, hRx, hcz⟩ := SlAt.elem hs1 hx (by decide) hbel
      obtain ⟨rfl, x_name_le, x_seq_ok⟩ := open_At hRx
      have u0 := hcz 0 _ rfl
      have u1 := hcz 1 _ rfl
      rw [Nat.add_zero] at u0
      subst hA
      have hki : (k : Int) < (c.length : Int) := by omega
      have HT := Lib.hid (memsOf_take (st := st) hx)
      have HML := Lib.hid (memsOf_len HSM.out (c.take k))
      have hkl : (c.take k).length ≤ 4 := by have := len_take c k; omega
      obtain ⟨w2, hw2, cw2, fw2, Bw2, qw2⟩ := boxed wr #[.string x.name, .int .i64 x.seq] 68
      have HB2 := Lib.hid (bel_call B0.out Bw2)
      have HG2 := Lib.hid (HG.out.below rStr_ok Bw2)
      have x0 := cw2 0 _ rfl
      have cc := fun j v hj => (HB2.out.cell (p := ⟨w.heap.size, j, none⟩) qw0).trans (HC0.out j v hj)
      have s0 := cc 0 _ rfl
      have s1 := cc 1 _ rfl
      have s2 := cc 2 _ rfl
      have s3 := cc 3 _ rfl
      have HBW2 := Lib.hid Bw2
      clear cc hx hcz cw2 fw2 Bw2
      go_wp2_with fail
      clear hw2 s0 s1 s2 s3 x0 u0 u1
      refine Calls.mono (find_any st x.name _ w2 _ (HST.out _ HB2.out)) ?_
      rintro e3 w3 ⟨⟨cf, rfl, hf⟩, b3⟩
      obtain ⟨f, hfe⟩ : ∃ f, (findF st x.name).getD zeroF = f := ⟨_, rfl⟩
      rw [hfe] at hf
      obtain ⟨ok3, hok3⟩ : ∃ b, (findF st x.name).isSome = b := ⟨_, rfl⟩
      rw [hok3]
      have HFR := Lib.hid hf
      obtain ⟨f_A2, f_c2, f_A3, f_c3, f_A4, f_c4, f_A5, f_c5, f_A6, f_c6, rfl, f_name_le, f_turn_ok, f_manifests_l, f_manifests_m, f_manifests_n, f_manifests_s, f_epochs_l, f_epochs_m, f_epochs_n, f_epochs_s, f_items_l, f_items_m, f_items_n, f_items_s, f_wraps_l, f_wraps_m, f_wraps_n, f_wraps_s, f_links_l, f_links_m, f_links_n, f_links_s⟩ := open_Folder hf
      obtain ⟨w4, hw4, cw4, fw4, Bw4, qw4⟩ := boxed w3 #[.string f.name, .int .i64 f.turn, .slice f_A2 f.manifests.length f_c2, .slice f_A3 f.epochs.length f_c3, .slice f_A4 f.items.length f_c4, .slice f_A5 f.wraps.length f_c5, .slice f_A6 f.links.length f_c6] 43
      have t0 := cw4 0 _ rfl
      have t1 := cw4 1 _ rfl
      have t2 := cw4 2 _ rfl
      have t3 := cw4 3 _ rfl
      have t4 := cw4 4 _ rfl
      have t5 := cw4 5 _ rfl
      have t6 := cw4 6 _ rfl
      have HB24 := Lib.hid (bel_call b3 Bw4)
      have HG4 := Lib.hid (HG2.out.below rStr_ok HB24.out)
      have HN := Lib.hid (now_any f _ w4 _ (rFolder_keep HFR.out (kept_of Bw4)))
      have HMS := Lib.hid (show memsAt st x.name = (nowM f).members by rw [memsAt, hfe])
      clear hfe hok3 b3 cw4 fw4 Bw4 f_manifests_s f_epochs_s f_items_s f_wraps_s f_links_s
      go_wp2_with fail
      clear hw4 t0 t1 t2 t3 t4 t5 t6
      refine Calls.mono HN.out ?_
      rintro e5 w5 ⟨⟨cm, rfl, hm⟩, b5⟩
      obtain ⟨m, hme⟩ : ∃ m, nowM f = m := ⟨_, rfl⟩
      rw [hme] at hm HMS
      obtain ⟨m_A2, m_c2, m_A4, m_c4, rfl, m_folder_le, m_seq_ok, m_prev_l, m_prev_m, m_prev_n, m_prev_s, m_parent_le, m_members_l, m_members_m, m_members_n, m_members_s, m_cut_ok, m_who_le⟩ := open_Manifest hm
      have hfd := field_mems m.folder m.parent m.who m.seq m.cut m.gone (.slice m_A2 m.prev.length m_c2) (.slice m_A4 m.members.length m_c4)
      have HG5 := Lib.hid (HG4.out.below rStr_ok b5)
      have HB5 := Lib.hid (bel_call hbel (bel_call HBW2.out (bel_call HB24.out b5)))
      have hml : m.members.length ≤ 20 := by have := (memsAt_small HSM.out x.name).1; rwa [HMS.out] at this
      clear hme b5 m_prev_s
      go_wp2
      clear hfd
      go_loopw [5, 34] (fun vo i wr2 => ∃ j : Nat, j ≤ m.members.length ∧ i = .int .i64 j ∧ Hid (Grow 9 1 rStr (fun _ => False) wr2 w1.heap.size vo (memsOf st (c.take k) ++ (m.members.take j).map Member.name)) ∧ Below w1.heap.size w1 wr2) (fun _ i _ => m.members.length - (RowKit.intOf i).toNat)
      case atStart => exact ⟨0, by omega, by go_num, (Lib.hid (by simpa using HG5.out)), HB5.out⟩
      case round =>
        clear HG HG2 HG4 HG5
        obtain ⟨wr2, rfl⟩ : ∃ q, q = wr := ⟨_, rfl⟩
        obtain ⟨j, hj, rfl, HG, hbel2⟩ := hrel
        obtain ⟨A6, n6, c6, rfl, hn6⟩ := HG.out.shape'
        clear hn6
        by_cases hlj : j < m.members.length
        · obtain ⟨y, hy⟩ : ∃ y, m.members[j]? = some y := ⟨_, List.getElem?_eq_getElem hlj⟩
          obtain ⟨b', o', ys', hA', hSb, hlen', hcz', hRy⟩ := m_members_s j y hy
          have hcy := fun q v hq => ((stay2 HB0.out.size (bel_call HB1.out HB5.out) (bel_call HB1.out hbel2)) b' hSb).trans rfl |> fun e => (World.cell?_of_block (a := ⟨b', o' + (j * 2 + q), none⟩) e).trans (hcz' q v hq)
          obtain ⟨rfl, y_name_le, y_role_ok⟩ := open_Member hRy
          have u0 := hcy 0 _ rfl
          have u1 := hcy 1 _ rfl
          rw [Nat.add_zero] at u0
          rw [← Nat.add_assoc] at u1
          subst hA'
          have hji : (j : Int) < (m.members.length : Int) := by omega
          have HTJ := Lib.hid (show (memsOf st (c.take k) ++ (m.members.take j).map Member.name) ++ [y.name] = memsOf st (c.take k) ++ (m.members.take (j + 1)).map Member.name by rw [List.take_add_one, hy, List.map_append, List.append_assoc]; rfl)
          have hll : (memsOf st (c.take k) ++ (m.members.take j).map Member.name).length ≤ 200 := by
            rw [List.length_append, List.length_map]
            have := HML.out
            have := len_take m.members j
            omega
          obtain ⟨w6, hw6, cw6, fw6, Bw6, qw6⟩ := boxed wr2 #[.string y.name, .int .i64 y.role] 93
          have HG6 := Lib.hid (HG.out.below rStr_ok Bw6)
          have HB6 := Lib.hid (bel_call hbel2 Bw6)
          have x0 := cw6 0 _ rfl
          have hz6 : w1.heap.size ≤ w6.heap.size := HB6.out.size
          have HYL := Lib.hid y_name_le
          clear hy hcy cw6 fw6 Bw6
          go_wp2_with (at_builtin; go_loud (refine wpList_grow1 (R := rStr) _ _ rfl (.tmp 38) (.tmp 41) 47 rfl 9 istring _ 1 16 Try.underlying47 histring hzstring h1string h2string rfl (by decide) rStr_ok w1.heap.size hz6 _ _ rfl HG6.out _ _ rfl (by simp only [World.size_alloc, World.size_setCell, World.size_drew]) _ (by intro b hb; exact hb.elim) ⟨rfl, HYL.out⟩ (by omega) (by decide) ?_); intro v7 w7 g7 gg7 go7; obtain ⟨A7, n7, c7, rfl, hn7⟩ := g7.shape'; have G7 := Lib.hid g7; have GG7 := Lib.hid gg7; clear hn7 g7 gg7 go7)
          go_roundw
          case rel =>
            refine ⟨j + 1, by omega, by go_num, ?_, ?_⟩
            · show Grow _ _ _ _ _ _ _ _
              rw [← HTJ.out]
              exact G7.out
            · exact Below.grown HB6.out GG7.out hz6 fun b hb => (HG6.out.base_le b hb).1
          case measure => simp [RowKit.intOf]; omega
        · obtain rfl : j = m.members.length := by omega
          have HGE := Lib.hid (show Grow 9 1 rStr (fun _ => False) wr2 w1.heap.size (.slice A6 n6 c6) (memsOf st (c.take (k + 1))) by rw [HT.out, HMS.out]; have := HG.out; rwa [List.take_length] at this)
          clear HG
          go_wp2
          go_roundw
          case rel => exact ⟨k + 1, by omega, by go_num, HGE, hbel2⟩
          case measure => simp [RowKit.intOf]; omega
    · obtain rfl : k = c.length := by omega
      rw [List.take_length] at HG
      have hS80 : (memsOf st c).length ≤ 80 := by have := memsOf_len HSM.out c; omega
      have hd100 : st.deposits.length ≤ 100 := by have := HSM.out.all; omega
      have HCL := Lib.hid (Cl.start (depE st.deposits) (memsOf st c))
      clear hlt hk
      go_wp2
      go_loopw [5, 12] (fun vo i wr => ∃ (q : Nat) (L : List Nm), q ≤ L.length ∧ i = .int .i64 q ∧ Hid (Grow 9 1 rStr (fun _ => False) wr w1.heap.size vo L) ∧ Hid (Cl (depE st.deposits) (memsOf st c) L q) ∧ Below w1.heap.size w1 wr) (fun _ i _ => 200 - (RowKit.intOf i).toNat)
      case atStart => exact ⟨0, _, by omega, by go_num, HG, HCL, hbel⟩
      case round =>
        clear HG HCL hbel hz1 B0
        obtain ⟨wr3, rfl⟩ : ∃ q, q = wr := ⟨_, rfl⟩
        obtain ⟨q, L, hq, rfl, HG, HCL, hbel⟩ := hrel
        have B0 := Lib.hid (bel_call HB1.out hbel)
        obtain ⟨A6, n6, c6, rfl, hn6⟩ := HG.out.shape'
        have hLL : L.length ≤ 180 := by have := HCL.out.len; rw [depE_len] at this; omega
        have s2 := (B0.out.cell (p := ⟨w.heap.size, 2, none⟩) qw0).trans (HC0.out 2 _ rfl)
        have hz1 := hbel.size
        subst hn6
        by_cases hlt : q < L.length
        · obtain ⟨y, hy⟩ : ∃ y, L[q]? = some y := ⟨_, List.getElem?_eq_getElem hlt⟩
          have HQ := Lib.hid (show ∀ r ∈ st.deposits.take 0, r.frm = y → r.to ∈ L from fun r hr => by simp at hr)
          have HY := Lib.hid hy
          clear hy
          go_wp2
          clear s2
          go_loopw [5, 54] (fun vo i wr => ∃ (d : Nat) (L' : List Nm), d ≤ st.deposits.length ∧ i = .int .i64 d ∧ q < L'.length ∧ Hid (L'[q]? = some y) ∧ Hid (Grow 9 1 rStr (fun _ => False) wr w1.heap.size vo L') ∧ Hid (Cl (depE st.deposits) (memsOf st c) L' q) ∧ Hid (∀ r ∈ st.deposits.take d, r.frm = y → r.to ∈ L') ∧ Below w1.heap.size w1 wr) (fun _ i _ => st.deposits.length - (RowKit.intOf i).toNat)
          case atStart => exact ⟨0, L, by omega, by go_num, hlt, HY, HG, HCL, HQ, hbel⟩
          case round =>
            clear HQ HG HCL hbel hLL hlt hz1 B0 hq HY
            obtain ⟨wr4, rfl⟩ : ∃ q, q = wr := ⟨_, rfl⟩
            obtain ⟨d, L', hd, rfl, hqL, HY, HG, HCL, HQ, hbel⟩ := hrel
            have B0 := Lib.hid (bel_call HB1.out hbel)
            have hLL : L'.length ≤ 180 := by have := HCL.out.len; rw [depE_len] at this; omega
            have hz1 := hbel.size
            obtain ⟨A7, c7, hv7, hl7, hc7, hn7, hs7⟩ := Own.sl rStr_ok HG.out
            subst hv7
            unfold maxLen at hc7
            by_cases hld : d < st.deposits.length
            · obtain ⟨p, hp⟩ : ∃ p, st.deposits[d]? = some p := ⟨_, List.getElem?_eq_getElem hld⟩
              obtain ⟨b, o, ys, hA, hbl, hRp, hcz⟩ := SlAt.elem st_deposits_s hp (by decide) (bel_call HB0.out B0.out)
              obtain ⟨y', by_, oy, hy', _, _, hA7, q0⟩ := get_str hs7 hqL (Kept.refl wr4 fun _ h => h)
              obtain rfl : y = y' := Option.some.inj (HY.out.symm.trans hy')
              obtain ⟨rfl, p_frm_le, p_to_le⟩ := open_Pair hRp
              have u0 := hcz 0 _ rfl
              have u1 := hcz 1 _ rfl
              rw [Nat.add_zero] at u0
              subst hA
              subst hA7
              have hdi : (d : Int) < (st.deposits.length : Int) := by omega
              have hqi : (q : Int) < (L'.length : Int) := by omega
              obtain ⟨w6, hw6, cw6, fw6, Bw6, qw6⟩ := boxed wr4 #[.string p.frm, .string p.to] 32
              have HG6 := Lib.hid (HG.out.below rStr_ok Bw6)
              have HB6 := Lib.hid (bel_call hbel Bw6)
              have x0 := cw6 0 _ rfl
              have x1 := cw6 1 _ rfl
              have q6 := (Bw6.cell (p := ⟨by_, oy + q, none⟩) (cell_lt q0)).trans q0
              have hz6 : w1.heap.size ≤ w6.heap.size := HB6.out.size
              have HPL := Lib.hid p_to_le
              have HP := Lib.hid hp
              have HSL := Lib.hid (Own.sl rStr_ok HG6.out)
              clear hp hy' hcz cw6 fw6 Bw6 q0
              by_cases hfr : p.frm = y
              · have hse : (p.frm.toList == y.toList) = true := by rw [hfr]; simp
                have HCN := Lib.hid (fun nq => contains_any L' _ p.to (w6.drewN nq) _ (HSL.out.keep rStr_ok (by decide) (kept_of (belN (Below.refl _ _) nq))))
                have HFR := Lib.hid hfr
                clear hfr
                cases hmem : memB L' p.to with
                | true =>
                  have HQ2 := Lib.hid (deps_take HP.out (P := fun x => x ∈ L') HQ.out fun _ => memB_iff.1 hmem)
                  rw [hmem] at HCN
                  clear hmem
                  go_wp2_with fail
                  go_quiet ((go_at_call 43; refine Calls.quiet_of_same (HCN.out _)))
                  go_wp2
                  go_roundw
                  case rel => exact ⟨d + 1, L', by omega, by go_num, hqL, HY, (HG6.out.below rStr_ok (belN (Below.refl _ _) _)), HCL, HQ2, belN HB6.out _⟩
                  case measure => simp [RowKit.intOf]; omega
                | false =>
                  have HNM := Lib.hid (show p.to ∉ L' from fun hm => by rw [memB_iff.2 hm] at hmem; cases hmem)
                  have HED := Lib.hid (show (y, p.to) ∈ depE st.deposits from mem_depE.2 ⟨p, List.mem_of_getElem? HP.out, HFR.out, rfl⟩)
                  rw [hmem] at HCN
                  clear hmem
                  go_wp2_with fail
                  go_quiet ((go_at_call 43; refine Calls.quiet_of_same (HCN.out _)))
                  generalize hw7 : w6.drewN nq = w7
                  have B67 : Below w6.heap.size w6 w7 := by rw [← hw7]; exact belN (Below.refl _ _) _
                  have HG7 := Lib.hid (HG6.out.below rStr_ok B67)
                  have x1' := (B67.cell (p := ⟨wr4.heap.size, 1, none⟩) qw6).trans x1
                  have HB7 := Lib.hid (bel_call HB6.out B67)
                  have hz7 : w1.heap.size ≤ w7.heap.size := HB7.out.size
                  clear hw7 B67 x0 x1 q6 hw6
                  go_wp2_with (at_builtin; go_loud (refine wpList_grow1 (R := rStr) _ _ rfl (.tmp 72) (.tmp 75) 47 rfl 9 istring _ 1 16 Try.underlying47 histring hzstring h1string h2string rfl (by decide) rStr_ok w1.heap.size hz7 _ _ rfl HG7.out _ _ rfl (by simp only [World.size_alloc, World.size_setCell, World.size_drew]) _ (by intro b hb; exact hb.elim) ⟨rfl, HPL.out⟩ (by omega) (by decide) ?_); intro v8 w8 g8 gg8 go8; obtain ⟨A8, n8, c8, rfl, hn8⟩ := g8.shape'; have G8 := Lib.hid g8; have GG8 := Lib.hid gg8; clear hn8 g8 gg8 go8)
                  go_roundw
                  case rel => exact ⟨d + 1, L' ++ [p.to], by omega, by go_num, by rw [List.length_append]; omega, (Lib.hid (by rw [List.getElem?_append_left hqL]; exact HY.out)), G8, (Lib.hid (HCL.out.add (List.mem_of_getElem? HY.out) HED.out HNM.out (by omega))), (Lib.hid (deps_take HP.out (P := fun x => x ∈ L' ++ [p.to]) (fun r hr e => List.mem_append_left _ (HQ.out r hr e)) fun _ => List.mem_append_right _ (by simp))), Below.grown HB7.out GG8.out hz7 fun b hb => (HG7.out.base_le b hb).1⟩
                  case measure => simp [RowKit.intOf]; omega
              · have hse : (p.frm.toList == y.toList) = false := eqS_ne hfr
                have HQ2 := Lib.hid (deps_take HP.out (P := fun x => x ∈ L') HQ.out fun e => absurd e hfr)
                clear hfr
                go_wp2_with fail
                go_quiet (fail)
                go_wp2
                go_roundw
                case rel => exact ⟨d + 1, L', by omega, by go_num, hqL, HY, (HG6.out.below rStr_ok (belN (Below.refl _ _) _)), HCL, HQ2, belN HB6.out _⟩
                case measure => simp [RowKit.intOf]; omega
            · obtain rfl : d = st.deposits.length := by omega
              have HN := Lib.hid (HCL.out.next HY.out fun z hz => by
                obtain ⟨p, hp, e1, e2⟩ := mem_depE.1 hz
                subst e2
                exact HQ.out p (by rw [List.take_length]; exact hp) e1)
              go_wp2
              go_roundw
              case rel => exact ⟨q + 1, L', by omega, by go_num, HG, HN, hbel⟩
              case measure => simp [RowKit.intOf]; omega
        · obtain rfl : q = L.length := by omega
          have HALL := Lib.hid (HCL.out.all (Nat.le_refl _))
          have HS9 := Lib.hid (sorted_any HG.out (by omega) fun s hs => read_size HSM.out ((HALL.out s).1 hs))
          have HBS := Lib.hid fun b hb => (HG.out.base_le b hb).1
          clear HG s2
          go_wp2_with fail
          refine Calls.mono HS9.out ?_
          rintro e5 w5 ⟨⟨v', rfl, R, hR, hI, hRl⟩, hg5⟩
          have HRR := Lib.hid hR
          have HI := Lib.hid (show IsNames (ReadP st fo) R from ⟨hI.1, fun x => (hI.2 x).trans ((HALL.out x).trans (by rw [ReadP, HCC.out]))⟩)
          have HB5 := Lib.hid (bel_call HB0.out (bel_call HB1.out (Below.grown hbel hg5 hz1 HBS.out)))
          clear hR hI hRl hg5
          go_wp2
          go_ret
          exact ⟨⟨v', R, rfl, HRR.out, HI.out⟩, HB5.out⟩
end Go.Proofs.Ytocofkccdfaaaaa
