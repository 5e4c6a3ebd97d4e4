/- Layer show: Tree, Text. Conditions: as each theorem says. -/
import Derived.Test.YtkapaafbnbnpjaaGreatDoorSeTree
import Derived.Laws.EntriesVeiled
namespace Go.Proofs.YtkapaafbnbnpjaaGreatDoor
open Go.RowKit Go.Deep

def TreePost (st : State) (w : World) (e : Ending) (w' : World) : Prop := (∃ v : Value, e = .returned v ∧ ∃ L : List Nm, Sl 1 rStr (fun _ => True) w' v L ∧ TreeL st 4 0 ⟨#[]⟩ L ∧ OkLines L ∧ L.length ≤ 500000) ∧ Below w.heap.size w w'
set_option maxHeartbeats 4000000 in
theorem tree_any (st : State) (hsm : Small st) (hby : ByOk st) (cs : List Value) (w : World) (S : Nat → Prop) (h : rState S w cs st) (hp : Pow w) :
    Calls Tryz.prog 7 #[.agg cs.toArray] w (TreePost st w) := by
  have HR := Lib.hid (rState_keep (S' := fun z => z < w.heap.size) h fun b _ hl => ⟨hl, rfl⟩)
  have HSM := Lib.hid hsm
  have HBY := Lib.hid hby
  have HP := Lib.hid hp
  obtain ⟨st_A1, st_c1, st_A2, st_c2, st_A3, st_c3, rfl, st_turn_ok, st_users_l, st_users_m, st_users_n, st_users_s, st_deposits_l, st_deposits_m, st_deposits_n, st_deposits_s, st_folders_l, st_folders_m, st_folders_n, st_folders_s⟩ := open_State h
  clear hsm hby hp st_users_s st_deposits_s st_folders_s
  go_enter Tryz.func7, Tryz.ntmps7
  go_wp2_with fail
  have HT := Lib.hid (show ∀ W : World, (((w.alloc (.cells #[.int .i64 st.turn, .slice st_A1 st.users.length st_c1, .slice st_A2 st.deposits.length st_c2, .slice st_A3 st.folders.length st_c3] 26)).alloc (.cells #[.slice none 0 0] 37)).alloc (.cells #[.func (.func 18) #[] #[.pointer (some ⟨w.heap.size, 0, none⟩), .pointer (some ⟨w.heap.size + 1, 0, none⟩), .pointer (some ⟨w.heap.size + 1 + 1, 0, none⟩)]] 58)) = W →
      TS [.int .i64 st.turn, .slice st_A1 st.users.length st_c1, .slice st_A2 st.deposits.length st_c2, .slice st_A3 st.folders.length st_c3] w.heap.size (w.heap.size + 1) (w.heap.size + 1 + 1) (w.heap.size + 3) w W (.slice none 0 0) [] from fun W hW => by
    subst hW
    exact ⟨by go_grown, blk_alloc_old _ (blk_alloc_old _ (heap_alloc_new w _)), blk_alloc_new _ (by simp), blk_alloc_old _ (blk_alloc_new _ (by simp)), Grow.nil, by simp⟩)
  generalize hW : World.alloc _ _ = W
  have hT := HT.out W hW
  have hT2 := Lib.hid hT
  have c : Calls Tryz.prog 18 #[.string ⟨#[]⟩, .int .i64 0, .pointer (some ⟨w.heap.size, 0, none⟩), .pointer (some ⟨w.heap.size + 1, 0, none⟩), .pointer (some ⟨w.heap.size + 1 + 1, 0, none⟩)] W (BelowPost st _ w.heap.size (w.heap.size + 1) (w.heap.size + 1 + 1) (w.heap.size + 3) w 4 0 ⟨#[]⟩ [] (.slice none 0 0) W) := below_any st HSM.out HBY.out _ w HR.out HP.out w.heap.size (w.heap.size + 1) (w.heap.size + 1 + 1) (w.heap.size + 3) (by omega) (by omega) (by omega) (by omega) (by omega) (by omega) 4 0 rfl ⟨#[]⟩ [] (.slice none 0 0) W (by decide) hT
  have C := Lib.hid c
  clear c hT hW HT
  refine Calls.mono C.out ?_
  rintro e w1 ⟨rfl, v1, L1, hT1, hG1, hTr, hOk, hLn⟩
  have hout := (blk_cells hT1.out).1 0 _ rfl
  have HT1 := Lib.hid hT1
  have HTR := Lib.hid hTr
  have HOK := Lib.hid hOk
  have HLN := Lib.hid hLn
  clear hT1 hG1 hTr hOk hLn C
  go_wp2
  go_ret
  exact ⟨⟨_, rfl, L1, HT1.out.grow.sl rStr_ok (S := fun _ => True) (fun _ _ _ => trivial) (fun _ _ => trivial), HTR.out, HOK.out, Nat.le_trans HLN.out (by decide)⟩, HT1.out.below⟩

theorem textL_snoc (L : List Nm) (x : Nm) : textL (L ++ [x]) = textL L ++ (x.data.toList ++ [10]) := by simp [textL]
set_option maxHeartbeats 2000000 in
theorem text_any (L : List Nm) (hL : L.length ≤ 500000) (hO : OkLines L) (v : Value) (w : World) (S : Nat → Prop) (h : Sl 1 rStr S w v L) :
    Calls Tryz.prog 13 #[v] w fun e w' => e = .returned (.string ⟨(textL L).toArray⟩) ∧ Below w.heap.size w w' := by
  obtain ⟨A, cp, rfl, hl, hcp, hn, hs⟩ := h
  unfold maxLen at hcp
  have HO := Lib.hid hO
  clear hO
  go_enter Tryz.func13, Tryz.ntmps13
  go_wp2
  go_loopw [8] (fun i wr => ∃ (k : Nat), k ≤ L.length ∧ i = .int .i64 k ∧ Hid ((textL (L.take k)).length ≤ k * 1048701) ∧ Hid (IsB w.heap.size w.heap.size (textL (L.take k)) wr) ∧ Below w.heap.size w wr) (fun i _ => L.length - (RowKit.intOf i).toNat)
  case atStart => exact ⟨0, by omega, by go_num, Lib.hid (by simp [textL]), Lib.hid (IsB.fresh w), by go_grown⟩
  case round =>
    obtain ⟨k, hk, rfl, HL, HB, hbel⟩ := hrel
    have hzr := hbel.size
    by_cases hlt : k < L.length
    · obtain ⟨x, hx⟩ : ∃ x, L[k]? = some x := ⟨_, List.getElem?_eq_getElem hlt⟩
      obtain ⟨b, o, rfl, q2, hz⟩ := str_at hs hx
      have x2 : wr.cell? ⟨b, o + k, none⟩ = some (.string x) := (hbel.cell (p := ⟨b, o + k, none⟩) (cell_lt q2)).trans q2
      have hxs := HO.out x (List.mem_of_getElem? hx)
      have HT := Lib.hid (show L.take (k + 1) = L.take k ++ [x] by rw [List.take_add_one, hx]; rfl)
      obtain ⟨y, hy⟩ : ∃ y : Nm, x ++ ⟨#[10]⟩ = y := ⟨_, rfl⟩
      have hys : y.size ≤ 1048701 := by rw [← hy, ByteArray.size_append]; show _ + 1 ≤ _; omega
      have hyd := Lib.hid (show y.data.toList = x.data.toList ++ [10] by rw [← hy]; simp [ByteArray.data_append])
      have hg : ¬ 9223372036854775807 < x.size + 1 := by omega
      have hlen := HL.out
      have hkk : k * 1048701 ≤ 500000 * 1048701 := Nat.mul_le_mul_right _ (by omega)
      have CW := Lib.hid (write_any w.heap.size w.heap.size (textL (L.take k)) y wr HB.out (by omega) hzr)
      clear hx q2 hlen hkk
      go_wp2_with fail
      refine Calls.mono CW.out ?_
      rintro e w2 ⟨rfl, I2, B2⟩
      have I2' := Lib.hid I2
      have B2' := Lib.hid (hbel.trans B2)
      clear I2 B2
      go_wp2
      go_roundw
      case rel =>
        refine ⟨k + 1, by omega, by go_num, Lib.hid ?_, Lib.hid ?_, B2'.out⟩
        · rw [HT.out, textL_snoc, List.length_append, ← hyd.out, Nat.add_mul]
          have := HL.out
          have h2 : y.data.toList.length = y.size := by simp
          omega
        · rw [HT.out, textL_snoc, ← hyd.out]
          exact I2'.out
      case measure => simp [RowKit.intOf]; omega
    · obtain rfl : k = L.length := by omega
      have CS := Lib.hid (string_any w.heap.size w.heap.size (textL L) wr (by have := HB.out; rwa [List.take_length] at this) hzr)
      go_wp2_with fail
      refine Calls.mono CS.out ?_
      rintro e w2 ⟨rfl, B2⟩
      go_wp2
      go_ret
      exact ⟨rfl, hbel.trans B2⟩
end Go.Proofs.YtkapaafbnbnpjaaGreatDoor
