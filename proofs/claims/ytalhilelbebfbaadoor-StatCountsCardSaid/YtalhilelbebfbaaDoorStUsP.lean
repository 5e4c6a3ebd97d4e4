/- Layer stat: Users. Conditions: at most forty calls, users of at most twenty bytes; the table of fields reads as the text lays it. -/
import Derived.Test.YtalhilelbebfbaaDoorStUsr
import Derived.Test.YtalhilelbebfbaaDoorStUsR
import Derived.Test.YtalhilelbebfbaaDoorCaM
namespace Go.Proofs.YtalhilelbebfbaaDoor
open Go.RowKit Go.Deep Go.Maps Go.WideMaps

theorem ownS_below {w w' : World} {b n : Nat} {D : DataW Unit} (h : w.ownsMap Tryd.prog 9 (plainElem Tryd.prog 3) b n D) (hb : Below w.heap.size w w') : w'.ownsMap Tryd.prog 9 (plainElem Tryd.prog 3) b n D :=
  h.kept (row := none) ⟨hb.os, hb.tape, hb.output, hb.size, fun k hk _ => hb.block k hk⟩ (by simp)
theorem zeroN (w : World) : (zeroValue 3).run Tryd.prog w = .ok (.int .i64 0) w := by kernel_rfl
theorem ownS_size {w : World} {R : Value → Option (DataW Unit × List MemPlace)} {b n : Nat} {D : DataW Unit} (h : w.ownsMap Tryd.prog 9 R b n D) : Maps.size D ≤ n := by
  obtain ⟨es, clock, _, _, hs, rfl⟩ := h
  rw [size_eq, length_sorted, List.length_map]
  simpa using hs
theorem i64_wrapU (x : Int) : I64 (wrap64 x) := by
  have h := wrap64_wf x
  simp [Lit.wf] at h
  exact h
set_option maxHeartbeats 1000000 in
set_option maxRecDepth 100000 in
theorem users_any (l : List Call) (hl40 : l.length ≤ 40) (hz : ∀ x ∈ l, x.user.size ≤ 20) (v : Value) (w : World) (S : Nat → Prop) (h : Sl 8 rCall S w v l) (h0 : 0 < w.heap.size) (hcf : ∀ r : Nat, r < 17 → w.cell? ⟨0, r, none⟩ = some (.int .i64 (fieldsOf r : Nat))) :
    Calls Tryd.prog 14 #[v] w fun e w' => (∃ u R, e = .returned u ∧ Sl 1 rStr (fun _ => True) w' u R ∧ IsNames (UserOf l) R) ∧ Below w.heap.size w w' := by
  have HZ := Lib.hid hz
  have HCF := Lib.hid hcf
  clear hz hcf
  obtain ⟨A, c, rfl, hl, hc, hn, hs⟩ := h
  unfold maxLen at hc
  have hmm := @run_makeMap Tryd.prog
  go_enter Tryd.func14, Tryd.ntmps14
  go_wp2
  clear hmm
  go_loopw [9] (fun i wr => ∃ (k n : Nat) (D : DataW Unit), k ≤ l.length ∧ n ≤ k ∧ i = .int .i64 k ∧ Hid (wr.ownsMap Tryd.prog 9 (plainElem Tryd.prog 3) w.heap.size n D) ∧ Hid (MapIsS D (UserOf (l.take k))) ∧ Below w.heap.size w wr) (fun i _ => l.length - (RowKit.intOf i).toNat)
  case atStart => exact ⟨0, 0, .map [], by omega, by omega, by go_num, World.ownsMap_made _ _ _ _, MapIsS.start.congr (fun x => ⟨False.elim, fun ⟨c, hc, _⟩ => by simp at hc⟩), by go_grown⟩
  case round =>
    obtain ⟨k, n, D, hk, hnk, rfl, HO, HM, hbel⟩ := hrel
    have hzb := hbel.size
    by_cases hlt : k < l.length
    · obtain ⟨x, b, o, A7, c7, hx, hm, rfl, hb, x0, x1, x2, x3, x4, x5, x6, x7, u1, u2, u3, u4⟩ := get_Call hs hlt (kept_of hbel)
      have HT := Lib.hid (show l.take (k + 1) = l.take k ++ [x] by rw [List.take_add_one, hx]; rfl)
      obtain ⟨w0, hw0, cw0, fw0, Bw0, qw0⟩ := boxed wr #[.int .i64 x.kind, .string x.user, .string x.folder, .string x.name, .string x.other, .int .i64 x.role, .int .i64 x.version, .slice A7 x.dlen c7] 46
      have B0 := Lib.hid (bel_call hbel Bw0)
      have CM := Lib.hid (may_any x.kind x.user x.folder x.name x.other x.role x.version A7 x.dlen c7 u1 u2 u3 u4 w0 (by have := B0.out.size; omega) (fun r hr => (B0.out.cell (p := ⟨0, r, none⟩) h0).trans (HCF.out r hr)))
      have s0 := cw0 0 _ rfl
      have s1 := cw0 1 _ rfl
      have s2 := cw0 2 _ rfl
      have s3 := cw0 3 _ rfl
      have s4 := cw0 4 _ rfl
      have s5 := cw0 5 _ rfl
      have s6 := cw0 6 _ rfl
      have s7 := cw0 7 _ rfl
      have HO0 := Lib.hid (ownS_below HO.out Bw0)
      have HXZ := Lib.hid (HZ.out x hm)
      have hkey : keyOf Tryd.prog 9 (.string x.user) = some (.string x.user.data.toList) := keyOf_string_mk Tryd.underlying9 (by unfold maxLen; omega)
      have HB0 := Lib.hid Bw0
      cases hmc : mayC x with
      | false =>
        have CM2 := Lib.hid (show _ from by have := CM.out; rw [show mayP nameOk x.kind x.user x.folder x.name x.other x.role x.version x.dlen = false from hmc] at this; exact this)
        have HM2 := Lib.hid (show MapIsS D (UserOf (l.take (k + 1))) by
          rw [HT.out]
          exact HM.out.congr fun s => by rw [userOf_snoc, hmc]; simp)
        clear hx hm hmc CM u1 u2 u3 u4 cw0 fw0 Bw0
        go_wp2_with (go_at_call 21; refine Calls.mono CM2.out ?_; rintro e w1 ⟨rfl, B1⟩)
        go_roundw
        case rel => exact ⟨k + 1, n, D, by omega, by omega, by go_num, ownS_below HO0.out B1, HM2, bel_call B0.out B1⟩
        case measure => simp [RowKit.intOf]; omega
      | true =>
        have CM2 := Lib.hid (show _ from by have := CM.out; rw [show mayP nameOk x.kind x.user x.folder x.name x.other x.role x.version x.dlen = true from hmc] at this; exact this)
        have HM2 := Lib.hid (show ∀ d, MapIsS (D.put (.string x.user.data.toList) d) (UserOf (l.take (k + 1))) by
          intro d
          rw [HT.out]
          exact (HM.out.put x.user d).congr fun s => by rw [userOf_snoc, hmc]; simp [or_comm])
        clear hx hm hmc CM u1 u2 u3 u4 cw0 fw0 Bw0
        go_wp2_with (first
          | (go_at_call 21; refine Calls.mono CM2.out ?_; rintro e w1 ⟨rfl, B1⟩; have y1 := (B1.cell (p := ⟨wr.heap.size, 1, none⟩) qw0).trans s1; have HO1 := Lib.hid (ownS_below HO0.out B1); have HB1 := Lib.hid (bel_call B0.out B1))
          | (at_lookup; refine wpList_lookup_own_int _ rfl _ _ 53 rfl 9 3 .i64 keyS Tryd.underlying53 Tryd.underlying3 (zeroN _) w.heap.size n D rfl HO1.out _ _ rfl hkey ?_; intro c0 hat hwc; clear hat hwc)
          | (at_mapUpdate; refine wpList_mapUpdate_own _ rfl _ _ _ 53 rfl 9 3 keyS Tryd.underlying53 _ w.heap.size n D rfl HO1.out (by unfold maxLen; omega) _ (.int .i64 (wrap64 (c0 + 1))) _ rfl rfl hkey _ [] (plainElem_int Tryd.underlying3 (by have h : I64 (wrap64 (c0 + 1)) := i64_wrapU _; simp [Lit.wf]; exact h)) ?_; intro w5 hown1 hgrow1; have HO5 := Lib.hid hown1; have GG := Lib.hid hgrow1; clear hown1 hgrow1))
        go_roundw
        case rel => exact ⟨k + 1, n + 1, _, by omega, by omega, by go_num, HO5.out, HM2.out _, Below.grown HB1.out GG.out (by have := HB1.out.size; omega) fun b hb => (by cases hb; exact Nat.le_refl _)⟩
        case measure => simp [RowKit.intOf]; omega
    · obtain rfl : k = l.length := by omega
      have HM2 := Lib.hid (show MapIsS D (UserOf l) by have := HM.out; rwa [List.take_length] at this)
      have hsz := ownS_size HO.out
      obtain ⟨w0, hw0, cw0, fw0, Bw0, qw0⟩ := boxed wr #[.map (some w.heap.size)] 53
      have B0 := Lib.hid (bel_call hbel Bw0)
      have CS := Lib.hid (sortedS_any w.heap.size n D (UserOf l) HM2.out w0 (ownS_below HO.out Bw0) (by omega) (fun s ⟨c, hc, _, he⟩ => by have := HZ.out c hc; rw [← he]; omega) wr.heap.size qw0 (cw0 0 _ rfl))
      clear cw0 fw0 Bw0
      go_wp2_with (first
        | (go_at_call 23; refine Calls.mono (keysS_any _ _) ?_; rintro e w1 ⟨rfl, hw1⟩; obtain rfl := hw1.trans hw0; clear hw1)
        | (go_at_call 22; refine Calls.mono CS.out ?_; rintro e w2 ⟨⟨u, R, rfl, SU, IU⟩, B2⟩; have SU' := Lib.hid SU; have IU' := Lib.hid IU; clear SU IU))
      go_ret
      exact ⟨⟨_, R, rfl, SU'.out, IU'.out⟩, bel_call B0.out B2⟩
end Go.Proofs.YtalhilelbebfbaaDoor
