/- Layer stat: Bytes. Conditions: at most forty answers of at most a thousand bytes each. -/
import Derived.Test.YtalhilelbebfbaaDoorCaD
namespace Go.Proofs.YtalhilelbebfbaaDoor
open Go.RowKit Go.Deep Go.Maps

def bytesOf (L : List (Int × Nat)) : Nat := (L.map Prod.snd).sum
theorem bytes_snoc (L : List (Int × Nat)) (x : Int × Nat) : bytesOf (L ++ [x]) = bytesOf L + x.2 := by simp [bytesOf]
theorem bytes_le : ∀ (L : List (Int × Nat)), (∀ x ∈ L, x.2 ≤ 1000) → bytesOf L ≤ 1000 * L.length
  | [], _ => by simp [bytesOf]
  | x :: L, h => by
    have h1 := h x (List.mem_cons_self ..)
    have h2 := bytes_le L fun y hy => h y (List.mem_cons_of_mem _ hy)
    have e : bytesOf (x :: L) = x.2 + bytesOf L := by simp [bytesOf]
    rw [e, List.length_cons]
    omega
set_option maxHeartbeats 1000000 in
theorem bytes_any (L : List (Int × Nat)) (hL : L.length ≤ 40) (hd : ∀ x ∈ L, x.2 ≤ 1000) (v : Value) (w : World) (S : Nat → Prop) (h : Sl 7 rAnsD S w v L) :
    Calls Tryd.prog 12 #[v] w fun e w' => e = .returned (.int .i64 (bytesOf L : Nat)) ∧ Below w.heap.size w w' := by
  have HD := Lib.hid hd
  clear hd
  obtain ⟨A, c, rfl, hl, hc, hn, hs⟩ := h
  unfold maxLen at hc
  go_enter Tryd.func12, Tryd.ntmps12
  go_wp2
  go_loopw [3, 8] (fun s i wr => ∃ (k m : Nat), k ≤ L.length ∧ i = .int .i64 k ∧ s = .int .i64 m ∧ Hid (m = bytesOf (L.take k)) ∧ Below w.heap.size w wr) (fun _ i _ => L.length - (RowKit.intOf i).toNat)
  case atStart => exact ⟨0, 0, by omega, by go_num, by go_num, rfl, by go_grown⟩
  case round =>
    obtain ⟨k, m, hk, rfl, rfl, HM, hbel⟩ := hrel
    have hz := hbel.size
    by_cases hlt : k < L.length
    · obtain ⟨x, b, o, n, t, A3, A4, A5, A6, c3, n4, c4, n5, c5, n6, c6, hx, hm, rfl, hb, x0, x1, x2, x3, x4, x5, x6, _⟩ := get_AnsD hs hlt (kept_of hbel)
      have HT := Lib.hid (show bytesOf (L.take (k + 1)) = bytesOf (L.take k) + x.2 by rw [List.take_add_one, hx]; exact bytes_snoc _ _)
      have hb1 := bytes_le (L.take k) fun y hy => HD.out y (List.mem_of_mem_take hy)
      have hb2 := HD.out x hm
      rw [List.length_take, ← HM.out] at hb1
      have hwr : IntKind.i64.wrap ((m : Int) + (x.2 : Int)) = (m : Int) + (x.2 : Int) := IntWalk.i64_in _ (by omega)
      clear hx hm hb1 hb2
      go_wp2
      go_roundw
      case rel => exact ⟨k + 1, m + x.2, by omega, by go_num, by first | rfl | go_num, by show _ = _; rw [HT.out, HM.out], by go_grown⟩
      case measure => simp [RowKit.intOf]; omega
    · obtain rfl : k = L.length := by omega
      have HM2 := Lib.hid (show m = bytesOf L by have := HM.out; rwa [List.take_length] at this)
      go_wp2
      go_ret
      exact ⟨by rw [HM2.out]; rfl, hbel⟩
end Go.Proofs.YtalhilelbebfbaaDoor
