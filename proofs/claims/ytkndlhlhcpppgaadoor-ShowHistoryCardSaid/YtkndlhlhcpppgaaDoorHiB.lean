/- Layer show: History. Conditions: at most twenty versions, each written by a user of at most twenty bytes. -/
import Derived.Test.YtkndlhlhcpppgaaDoorHiA
import Derived.Test.YtkndlhlhcpppgaaDoorPast
import Derived.Test.YtkndlhlhcpppgaaDoorStep
import Derived.Test.YtkndlhlhcpppgaaDoorShF
import Derived.Deep.RegionHeld3
namespace Go.Proofs.YtkndlhlhcpppgaaDoor
open Go.RowKit Go.Deep

def goneS : ByteArray := ⟨#[32, 40, 103, 111, 110, 101, 41]⟩
def byOf (p : Past) : ByteArray := if p.gone then p.who ++ goneS else p.who
def pastRow (p : Past) : List ByteArray := [itoaS p.number, itoaS p.epoch, byOf p]
def headRow : List ByteArray := [⟨#[118, 101, 114, 115, 105, 111, 110]⟩, ⟨#[101, 112, 111, 99, 104]⟩, ⟨#[98, 121]⟩]
def histRows (l : List Past) : List (List ByteArray) := headRow :: l.map pastRow

theorem hist_ok (l : List Past) (hl : l.length ≤ 20) (hI : ∀ p ∈ l, I64 p.number ∧ I64 p.epoch ∧ p.who.size ≤ 20) : OkRows (histRows l) := by
  refine ⟨by rw [histRows, List.length_cons, List.length_map]; omega, fun r hr => ?_⟩
  rcases List.mem_cons.1 hr with rfl | hr
  · exact ⟨by decide, fun s hs => by simp only [headRow, List.mem_cons, List.mem_nil_iff, or_false] at hs; rcases hs with rfl | rfl | rfl <;> decide⟩
  · obtain ⟨p, hp, rfl⟩ := List.mem_map.1 hr
    obtain ⟨h1, h2, h3⟩ := hI p hp
    refine ⟨by simp [pastRow], fun s hs => ?_⟩
    simp only [pastRow, List.mem_cons, List.mem_nil_iff, or_false] at hs
    rcases hs with rfl | rfl | rfl
    · have := itoaS_size _ h1; omega
    · have := itoaS_size _ h2; omega
    · unfold byOf
      split
      · rw [ByteArray.size_append]; show _ + 7 ≤ _; omega
      · omega
theorem sl_three {S : Nat → Prop} {W : World} {b : Nat} {T : TypeId} {x y z : ByteArray} (hb : W.heap[b]? = some (.cells #[.string x, .string y, .string z] T (0, 0))) (hS : S b) (hx : x.size ≤ 1000) (hy : y.size ≤ 1000) (hz : z.size ≤ 1000) :
    Sl 1 rStr S W (.slice (some ⟨b, 0, none⟩) 3 3) [x, y, z] :=
  sl_strs (l := [x, y, z]) hb hS (by simp) fun s hs => by simp at hs; rcases hs with rfl | rfl | rfl <;> omega

section
variable {w X Y : World} {row : Option Nat}
theorem gb_refl : w.grownBy w row := ⟨rfl, rfl, rfl, Nat.le_refl _, fun _ _ _ => rfl⟩
theorem gb_drew (h : w.grownBy X row) : w.grownBy X.drew row := ⟨h.os, h.tape, h.output, h.size, h.block⟩
theorem gb_alloc (h : w.grownBy X row) (o : Obj) : w.grownBy (X.alloc o) row := grown_trans h (World.grownBy_alloc X o row)
theorem gb_call (h : w.grownBy X row) (hb : Below X.heap.size X Y) : w.grownBy Y row := grown_trans h ⟨hb.os, hb.tape, hb.output, hb.size, fun b hl _ => hb.block b hl⟩
theorem gb_below (hb : Below w.heap.size w Y) : w.grownBy Y row := gb_call gb_refl hb
theorem gb_cell {b o : Nat} (h : w.grownBy X row) (hb : b < w.heap.size) (hr : row ≠ some b) : X.cell? ⟨b, o, none⟩ = w.cell? ⟨b, o, none⟩ := World.cell?_of_block (h.block b hb fun e => hr e.symm)
end

theorem step_row {ops : Array Oper} {o : Oper} {a : Act} {K : Act → World → Prop} {Q : Exit → Act → World → Prop} {E : Prop} (hgd : o.guard = none) (s x : Operand)
    (ho : o.op = .call { callee := .builtin .append, args := #[s, x], argTypes := #[22, 22] }) (X : World) (y z t : ByteArray) (base : Nat) (v : Value) (l : List (List ByteArray)) (hs : a.eval s = v)
    (hown : Grow 25 1 rRow (fun _ => False) X base v l) (hbase : base ≤ X.heap.size) (hx : a.eval x = .slice (some ⟨X.heap.size + 1, 0, none⟩) 1 1) (hy : y.size ≤ 1000) (hz : z.size ≤ 1000) (ht : t.size ≤ 1000) (hl : l.length ≤ 1000)
    (h : ∀ v' w', Grow 25 1 rRow (fun _ => False) w' base v' (l ++ [[y, z, t]]) → X.grownBy w' v.ownBlock → K (a.put o.dst v') w') :
    if Region.wanted o (yielded ops a.tmps) = true then Oper.wp Tryd.prog o a ((X.alloc (.cells #[.string y, .string z, .string t] 9)).alloc (.cells #[.slice (some ⟨X.heap.size, 0, none⟩) 3 3] 25)) K Q else E := by
  obtain ⟨irow, hirow, hzrow, h1row, h2row⟩ := info_parts (show (Tryd.prog.info? 25).map (fun i => (i.zero, i.size, i.bytes)) = some (some (.slice none 0 0), 1, 24) from by kernel_rfl)
  have hbl := hown.base_le
  refine step_grow _ hgd s x _ ho 25 irow _ 1 24 Tryd.underlying22 hirow hzrow h1row h2row rfl (by decide) rRow_ok base (by simp; omega) v l hs ((hown.alloc rRow_ok _).alloc rRow_ok _) _ 1 1 hx [[y, z, t]] rfl ?_ (by omega) (by decide) ?_
  · refine SlAt_one [.slice (some ⟨X.heap.size, 0, none⟩) 3 3] ⟨by simp, fun h => h, fun h => ?_⟩ rfl (fun j u hj => ?_) ⟨_, rfl, sl_three (blk_alloc_old _ (heap_alloc_new X _)) ⟨by simp; omega, fun h => h, fun h => ?_⟩ hy hz ht⟩
    · have := (hbl _ h).2; omega
    · rcases j with _ | j
      · obtain rfl := Option.some.inj (show some _ = some u from hj)
        rw [cell_of_row _ (X.heap.size + 1) _ #[.slice (some ⟨X.heap.size, 0, none⟩) 3 3] 25 (0, 0) (blk_alloc_new _ (by simp))]
        rfl
      · simp at hj
    · have := (hbl _ h).2; omega
  · intro v' w' g1 g2
    exact h v' w' g1 (grown_trans (gb_alloc (gb_alloc gb_refl _) _) g2)

set_option maxHeartbeats 2000000 in
theorem history_any (l : List Past) (hl20 : l.length ≤ 20) (hby : ∀ p ∈ l, I64 p.number ∧ I64 p.epoch ∧ p.who.size ≤ 20) (v : Value) (w : World) (S : Nat → Prop) (h : Sl 4 rPast S w v l) (hp : Pow w) :
    Calls Tryd.prog 12 #[v] w fun e w' => (∃ u, e = .returned u ∧ Sl 1 rStr (fun _ => True) w' u (tableOf (histRows l))) ∧ Below w.heap.size w w' := by
  obtain ⟨A, cp, rfl, hl, hcp, hn, hs⟩ := h
  unfold maxLen at hcp
  have HB := Lib.hid hby
  have HP := Lib.hid hp
  clear hby hp
  obtain ⟨irow, hirow, hzrow, h1row, h2row⟩ := info_parts (show (Tryd.prog.info? 25).map (fun i => (i.zero, i.size, i.bytes)) = some (some (.slice none 0 0), 1, 24) from by kernel_rfl)
  go_enter Tryd.func12, Tryd.ntmps12
  go_wp2
  go_loopw [3, 11] (fun v3 i wr => ∃ k : Nat, k ≤ l.length ∧ i = .int .i64 k ∧ Hid (Grow 25 1 rRow (fun _ => False) wr w.heap.size v3 (histRows (l.take k))) ∧ Below w.heap.size w wr) (fun _ i _ => l.length - (intOf i).toNat)
  case atStart =>
    refine ⟨0, by omega, by go_num, ?_, by go_grown⟩
    exact Grow.one rRow_ok (x := headRow) (blk_alloc_new _ (by simp)) (by simp) rfl ⟨_, rfl, sl_three (blk_alloc_old _ (heap_alloc_new w _)) ⟨by simp; omega, fun h => h, by simp [Value.ownBlock]⟩ (by decide) (by decide) (by decide)⟩
  case round =>
    obtain ⟨k, hk, rfl, HG, hbel⟩ := hrel
    obtain ⟨A0, n0, c0, rfl, hn0⟩ := HG.out.shape'
    have HN := Lib.hid hn0
    clear hn0
    have hzb := hbel.size
    by_cases hlt : k < l.length
    · obtain ⟨x, b, o, hx, _, hm, rfl, hb, _, x0, x1, x2, x3, _, hn1, hn2, hz⟩ := get_Past hs hlt (kept_of hbel)
      have HT := Lib.hid (show histRows (l.take (k + 1)) = histRows (l.take k) ++ [pastRow x] by rw [histRows, histRows, List.take_add_one, hx, List.map_append]; rfl)
      have hby := (HB.out x hm).2.2
      obtain ⟨num, ep, gone, who⟩ := x
      dsimp only at x0 x1 x2 x3 hn1 hn2 hz hby
      clear hx hm
      cases gone with
      | true =>
        go_wp2_with fail
        obtain ⟨W1, hW1, c1, f1, B1, q1⟩ := boxed wr #[.int .i64 num, .int .i64 ep, .bool true, .string who] 32
        rw [hW1]
        have hbl := HG.out.base_le
        have k0 : ∀ W, W1.grownBy W (Value.slice A0 n0 c0).ownBlock → W.cell? ⟨wr.heap.size, 0, none⟩ = some (.int .i64 num) := fun W hW => (gb_cell hW (by omega) (fun e => by have := (hbl _ e).2; omega)).trans (c1 0 _ rfl)
        have k1 : ∀ W, W1.grownBy W (Value.slice A0 n0 c0).ownBlock → W.cell? ⟨wr.heap.size, 1, none⟩ = some (.int .i64 ep) := fun W hW => (gb_cell hW (by omega) (fun e => by have := (hbl _ e).2; omega)).trans (c1 1 _ rfl)
        have BW : ∀ W, W1.grownBy W (Value.slice A0 n0 c0).ownBlock → Below w.heap.size w W := fun W hW => Below.grown (bel_call hbel B1) hW (by omega) fun b hb => (hbl b hb).1
        have ca := fun W hW => num_any num hn1 W (HP.out.below (BW W hW))
        have cb := fun W hW => num_any ep hn2 W (HP.out.below (BW W hW))
        have HBW := Lib.hid BW
        have HL9 := Lib.hid (show (histRows (l.take k)).length ≤ 1000 by rw [histRows, List.length_cons, List.length_map, List.length_take]; omega)
        have s1 := itoaS_size num hn1
        have s2 := itoaS_size ep hn2
        have s3 : (who ++ { data := #[32, 40, 103, 111, 110, 101, 41] } : ByteArray).size ≤ 1000 := by rw [ByteArray.size_append]; show _ + 7 ≤ _; omega
        have GX : ∀ X, Below W1.heap.size W1 X → Grow 25 1 rRow (fun _ => False) X w.heap.size (.slice A0 n0 c0) (histRows (l.take k)) := fun X hX => HG.out.below rRow_ok (bel_call B1 hX)
        have HGX := Lib.hid GX
        clear hW1 c1 f1 BW GX hbl
        go_region_held3 (fun W => W1.grownBy W (Value.slice A0 n0 c0).ownBlock) (first | assumption | exact gb_alloc (by assumption) _ | exact gb_drew (by assumption) | exact gb_drew gb_refl | exact gb_refl | exact gb_call (by assumption) (by assumption)) (first
          | (go_at_call_of 21 num; refine Calls.mono (ca _ (by assumption)) ?_; rintro e wA ⟨rfl, hA⟩; have hA' := bel_call (w := W1) (by first | assumption | exact (Below.refl _ _).drew | exact Below.refl _ _ | exact Below.drew (by assumption)) hA)
          | (go_at_call_of 21 ep; refine Calls.mono (cb _ (by assumption)) ?_; rintro e wC ⟨rfl, hC⟩; have hC' := bel_call (w := W1) (by first | assumption | exact (Below.refl _ _).drew | exact Below.refl _ _ | exact Below.drew (by assumption)) hC)
          | (refine step_row rfl (.tmp 21) (.tmp 30) rfl _ (itoaS num) (itoaS ep) _ w.heap.size (.slice A0 n0 c0) _ rfl (HGX.out _ (by assumption)) (by have := hbel.size; have := B1.size; have := Below.size (by assumption : Below W1.heap.size W1 _); omega) rfl (by omega) (by omega) (by omega) HL9.out ?_; intro v1 w5 g1 gg1; have GB5 := grown_trans (gb_below (by assumption : Below W1.heap.size W1 _)) gg1; have G5 := Lib.hid g1; clear g1 gg1))
        go_wp2
        go_roundw
        case rel =>
          refine ⟨k + 1, by omega, by go_num, ?_, HBW.out _ GB5⟩
          show Grow _ _ _ _ _ _ _ _
          rw [HT.out]
          exact G5.out
        case measure => simp [intOf]; omega
      | false =>
        go_wp2_with fail
        obtain ⟨W1, hW1, c1, f1, B1, q1⟩ := boxed wr #[.int .i64 num, .int .i64 ep, .bool false, .string who] 32
        rw [hW1]
        have hbl := HG.out.base_le
        have k0 : ∀ W, W1.grownBy W (Value.slice A0 n0 c0).ownBlock → W.cell? ⟨wr.heap.size, 0, none⟩ = some (.int .i64 num) := fun W hW => (gb_cell hW (by omega) (fun e => by have := (hbl _ e).2; omega)).trans (c1 0 _ rfl)
        have k1 : ∀ W, W1.grownBy W (Value.slice A0 n0 c0).ownBlock → W.cell? ⟨wr.heap.size, 1, none⟩ = some (.int .i64 ep) := fun W hW => (gb_cell hW (by omega) (fun e => by have := (hbl _ e).2; omega)).trans (c1 1 _ rfl)
        have BW : ∀ W, W1.grownBy W (Value.slice A0 n0 c0).ownBlock → Below w.heap.size w W := fun W hW => Below.grown (bel_call hbel B1) hW (by omega) fun b hb => (hbl b hb).1
        have ca := fun W hW => num_any num hn1 W (HP.out.below (BW W hW))
        have cb := fun W hW => num_any ep hn2 W (HP.out.below (BW W hW))
        have HBW := Lib.hid BW
        have HL9 := Lib.hid (show (histRows (l.take k)).length ≤ 1000 by rw [histRows, List.length_cons, List.length_map, List.length_take]; omega)
        have s1 := itoaS_size num hn1
        have s2 := itoaS_size ep hn2
        have s3 : who.size ≤ 1000 := by omega
        have GX : ∀ X, Below W1.heap.size W1 X → Grow 25 1 rRow (fun _ => False) X w.heap.size (.slice A0 n0 c0) (histRows (l.take k)) := fun X hX => HG.out.below rRow_ok (bel_call B1 hX)
        have HGX := Lib.hid GX
        clear hW1 c1 f1 BW GX hbl
        go_region_held3 (fun W => W1.grownBy W (Value.slice A0 n0 c0).ownBlock) (first | assumption | exact gb_alloc (by assumption) _ | exact gb_drew (by assumption) | exact gb_drew gb_refl | exact gb_refl | exact gb_call (by assumption) (by assumption)) (first
          | (go_at_call_of 21 num; refine Calls.mono (ca _ (by assumption)) ?_; rintro e wA ⟨rfl, hA⟩; have hA' := bel_call (w := W1) (by first | assumption | exact (Below.refl _ _).drew | exact Below.refl _ _ | exact Below.drew (by assumption)) hA)
          | (go_at_call_of 21 ep; refine Calls.mono (cb _ (by assumption)) ?_; rintro e wC ⟨rfl, hC⟩; have hC' := bel_call (w := W1) (by first | assumption | exact (Below.refl _ _).drew | exact Below.refl _ _ | exact Below.drew (by assumption)) hC)
          | (refine step_row rfl (.tmp 21) (.tmp 30) rfl _ (itoaS num) (itoaS ep) _ w.heap.size (.slice A0 n0 c0) _ rfl (HGX.out _ (by assumption)) (by have := hbel.size; have := B1.size; have := Below.size (by assumption : Below W1.heap.size W1 _); omega) rfl (by omega) (by omega) (by omega) HL9.out ?_; intro v1 w5 g1 gg1; have GB5 := grown_trans (gb_below (by assumption : Below W1.heap.size W1 _)) gg1; have G5 := Lib.hid g1; clear g1 gg1))
        go_wp2
        go_roundw
        case rel =>
          refine ⟨k + 1, by omega, by go_num, ?_, HBW.out _ GB5⟩
          show Grow _ _ _ _ _ _ _ _
          rw [HT.out]
          exact G5.out
        case measure => simp [intOf]; omega
    · obtain rfl : k = l.length := by omega
      have HR := Lib.hid (HG.out.sl (S := fun _ => True) rRow_ok (fun _ _ _ => trivial) (fun _ _ => trivial))
      have hok : OkRows (histRows l) := hist_ok l hl20 HB.out
      have ct := table_any (histRows l) hok (.slice A0 n0 c0) wr (fun _ => True) (by have := HR.out; rw [List.take_length] at this; exact this)
      have CT := Lib.hid ct
      clear hok ct
      go_wp2_with (go_at_call 7; refine Calls.mono CT.out ?_; rintro e w9 ⟨⟨u, rfl, SU⟩, B9⟩; have SU' := Lib.hid SU; clear SU)
      go_ret
      exact ⟨⟨_, rfl, SU'.out⟩, bel_call hbel B9⟩
end Go.Proofs.YtkndlhlhcpppgaaDoor
