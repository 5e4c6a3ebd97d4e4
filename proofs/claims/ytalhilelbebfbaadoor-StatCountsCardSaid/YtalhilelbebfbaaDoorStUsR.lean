/- Layer stat: the document's Users. Conditions: at most forty calls, users of at most twenty bytes. -/
import Derived.Test.YtalhilelbebfbaaDoorStPut
import Derived.Test.YtalhilelbebfbaaDoorCaR
import Derived.Test.YtalhilelbebfbaaDoorCaC
namespace Go.Proofs.YtalhilelbebfbaaDoor
open Go.RowKit Go.Deep

def mayC (x : Call) : Bool := mayP nameOk x.kind x.user x.folder x.name x.other x.role x.version x.dlen
def UserOf (l : List Call) (s : Nm) : Prop := ∃ c ∈ l, mayC c = true ∧ c.user = s
theorem userOf_snoc (l : List Call) (x : Call) (s : Nm) : UserOf (l ++ [x]) s ↔ UserOf l s ∨ (mayC x = true ∧ s = x.user) := by
  constructor
  · rintro ⟨c, hc, h1, h2⟩
    rcases List.mem_append.1 hc with hc | hc
    · exact .inl ⟨c, hc, h1, h2⟩
    · obtain rfl := List.mem_singleton.1 hc
      exact .inr ⟨h1, h2.symm⟩
  · rintro (⟨c, hc, h1, h2⟩ | ⟨h1, h2⟩)
    · exact ⟨c, List.mem_append_left _ hc, h1, h2⟩
    · exact ⟨x, List.mem_append_right _ (List.mem_singleton.2 rfl), h1, h2.symm⟩
theorem IsNames.congr {P Q : Nm → Prop} {R : List Nm} (h : IsNames P R) (e : ∀ x, P x ↔ Q x) : IsNames Q R := ⟨h.1, fun x => (h.2 x).trans (e x)⟩
set_option maxHeartbeats 1000000 in
theorem refusers_any (l : List Call) (hl40 : l.length ≤ 40) (hz : ∀ x ∈ l, x.user.size ≤ 20) (v : Value) (w : World) (S : Nat → Prop) (h : Sl 8 rCall S w v l) :
    Calls Tryd.prog 15 #[v] w fun e w' => (∃ u R, e = .returned u ∧ Sl 1 rStr (fun _ => True) w' u R ∧ IsNames (UserOf l) R) ∧ Below w.heap.size w w' := by
  have HZ := Lib.hid hz
  clear hz
  obtain ⟨A, c, rfl, hl, hc, hn, hs⟩ := h
  unfold maxLen at hc
  go_enter Tryd.func15, Tryd.ntmps15
  go_wp2
  go_loopw [3, 4] (fun s i wr => ∃ (k : Nat) (R : List Nm), k ≤ l.length ∧ i = .int .i64 k ∧ Hid (RowC 9 1 wr s (strs R)) ∧ Hid (∀ b, s.ownBlock = some b → w.heap.size ≤ b) ∧ Hid (IsNames (UserOf (l.take k)) R) ∧ Hid (R.length ≤ k) ∧ Below w.heap.size w wr) (fun _ i _ => l.length - (RowKit.intOf i).toNat)
  case atStart => exact ⟨0, [], by omega, by go_num, RowC.nil _, fun b hb => (by cases hb), IsNames.nil fun x ⟨c, hc, _⟩ => (by simp at hc), Nat.le_refl _, by go_grown⟩
  case round =>
    obtain ⟨k, R, hk, rfl, HR, HO, HI, HK, hbel⟩ := hrel
    have hzb := hbel.size
    obtain ⟨Ar, nr, cr, rfl⟩ := HR.out.shape3
    by_cases hlt : k < l.length
    · obtain ⟨x, b, o, A7, c7, hx, hm, rfl, hb, x0, x1, x2, x3, x4, x5, x6, x7, u1, u2, u3, u4⟩ := get_Call hs hlt (kept_of hbel)
      have HT := Lib.hid (show l.take (k + 1) = l.take k ++ [x] by rw [List.take_add_one, hx]; rfl)
      have CM := Lib.hid (refmay_any x.kind x.user x.folder x.name x.other x.role x.version A7 x.dlen c7 u1 u2 u3 u4 wr)
      have HXZ := Lib.hid (HZ.out x hm)
      have HRS := Lib.hid (show ∀ s ∈ R, s.size ≤ 1000 by
        intro s hsR
        obtain ⟨c, hc, _, rfl⟩ := (HI.out.2 s).1 hsR
        have := HZ.out c (List.mem_of_mem_take hc)
        omega)
      cases hmc : mayC x with
      | false =>
        have CM2 := Lib.hid (show _ from by have := CM.out; rw [show mayP nameOk x.kind x.user x.folder x.name x.other x.role x.version x.dlen = false from hmc] at this; exact this)
        have HI2 := Lib.hid (show IsNames (UserOf (l.take (k + 1))) R by
          rw [HT.out]
          exact HI.out.congr fun s => by rw [userOf_snoc, hmc]; simp)
        clear hx hm hmc CM u1 u2 u3 u4
        go_wp2_with (go_at_call 24; refine Calls.mono CM2.out ?_; rintro e w1 ⟨rfl, B1⟩)
        go_roundw
        case rel => exact ⟨k + 1, R, by omega, by go_num, HR.out.keep fun b hb => B1.block b (HR.out.lt b hb), HO, HI2, (show R.length ≤ k + 1 by have := HK.out; omega), bel_call hbel B1⟩
        case measure => simp [RowKit.intOf]; omega
      | true =>
        have CM2 := Lib.hid (show _ from by have := CM.out; rw [show mayP nameOk x.kind x.user x.folder x.name x.other x.role x.version x.dlen = true from hmc] at this; exact this)
        have HI2 := Lib.hid (show IsNames (UserOf (l.take (k + 1))) (putS R x.user) by
          rw [HT.out]
          exact (putS_is HI.out x.user).congr fun s => by rw [userOf_snoc, hmc]; simp [or_comm])
        have hbk : b < wr.heap.size := by omega
        clear hx hm hmc CM u1 u2 u3 u4
        go_wp2_with (first
          | (go_at_call 24; refine Calls.mono CM2.out ?_; rintro e w1 ⟨rfl, B1⟩; have y1 := (B1.cell (p := ⟨b, o + k * 8 + 1, none⟩) hbk).trans x1)
          | (go_at_call 25; refine Calls.mono (put_any (HR.out.keep fun b hb => B1.block b (HR.out.lt b hb)) (by have := HK.out; omega) HRS.out HI.out.1 _) ?_; rintro e w2 ⟨v2, rfl, h2⟩; have H2 := Lib.hid h2; clear h2))
        go_roundw
        case rel =>
          refine ⟨k + 1, putS R x.user, by omega, by go_num, H2.out.1, ?_, HI2, (show _ ≤ k + 1 by have := HK.out; have := putS_len R x.user; omega), Below.grown (bel_call hbel B1) H2.out.2.1 (by have := B1.size; omega) HO.out⟩
          intro b hb
          rcases H2.out.2.2 with h | ⟨q, h, hq⟩
          · exact HO.out b (h ▸ hb)
          · rw [h] at hb
            have := B1.size
            obtain rfl := Option.some.inj hb
            omega
        case measure => simp [RowKit.intOf]; omega
    · obtain rfl : k = l.length := by omega
      have HI2 := Lib.hid (show IsNames (UserOf l) R by have := HI.out; rwa [List.take_length] at this)
      go_wp2
      go_ret
      refine ⟨⟨_, R, rfl, strs_sl HR.out (by have := HK.out; omega) (fun s hsR => ?_), HI2.out⟩, hbel⟩
      obtain ⟨c, hc, _, rfl⟩ := (HI2.out.2 s).1 hsR
      have := HZ.out c hc
      omega
end Go.Proofs.YtalhilelbebfbaaDoor
