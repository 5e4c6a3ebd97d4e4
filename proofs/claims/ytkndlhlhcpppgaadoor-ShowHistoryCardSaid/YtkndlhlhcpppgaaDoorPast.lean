/- A version of an item: how its cells read. No condition. -/
import Derived.Test.YtkndlhlhcpppgaaDoorApi
namespace Go.Proofs.YtkndlhlhcpppgaaDoor
open Go.RowKit Go.Deep Go.ChangeShapes Go.WideShapes

structure Past where
  number : Int
  epoch : Int
  gone : Bool
  who : ByteArray

def rPast : Rp Past := fun S w cs x => cs = [.int .i64 x.number, .int .i64 x.epoch, .bool x.gone, .string x.who] ∧ I64 x.number ∧ I64 x.epoch ∧ x.who.size ≤ 140737488355328
theorem rPast_len {S : Nat → Prop} {w : World} {cs : List Value} {x : Past} (h : rPast S w cs x) : cs.length = 4 := by
  obtain ⟨rfl, c0, c1, c2⟩ := h
  rfl
theorem rPast_keep {S S' : Nat → Prop} {w w' : World} {cs : List Value} {x : Past} (h : rPast S w cs x) (k : Kept S S' w w') : rPast S' w' cs x := by
  obtain ⟨e, c0, c1, c2⟩ := h
  exact ⟨e, c0, c1, c2⟩
theorem rPast_one {S : Nat → Prop} {w : World} {cs : List Value} {x : Past} (h : rPast S w cs x) : ∀ u ∈ cs, u.oneCell' = true := by
  obtain ⟨e, c0, c1, c2⟩ := h
  intro u hu
  rw [e] at hu
  simp only [List.mem_cons, List.not_mem_nil, or_false] at hu
  rcases hu with rfl | rfl | rfl | rfl <;> rfl
theorem rPast_ok : RpOk 4 rPast := ⟨rPast_len, rPast_keep, rPast_one⟩
theorem open_Past {S : Nat → Prop} {w : World} {cs : List Value} {x : Past} (h : rPast S w cs x) : cs = [.int .i64 x.number, .int .i64 x.epoch, .bool x.gone, .string x.who] ∧ I64 x.number ∧ I64 x.epoch ∧ x.who.size ≤ 140737488355328 := by
  obtain ⟨e, c0, c1, c2⟩ := h
  exact ⟨e, c0, c1, c2⟩
theorem get_Past {S S' : Nat → Prop} {w wr : World} {A : Option Addr} {l : List Past} {k : Nat} (s : SlAt 4 rPast S w A l) (hk : k < l.length) (hb : Kept S S' w wr) :
    ∃ x b o, l[k]? = some x ∧ l.drop k = x :: l.drop (k + 1) ∧ x ∈ l ∧ A = some ⟨b, o, none⟩ ∧ b < w.heap.size ∧ S b ∧ wr.cell? ⟨b, o + k * 4, none⟩ = some (.int .i64 x.number) ∧ wr.cell? ⟨b, o + k * 4 + 1, none⟩ = some (.int .i64 x.epoch) ∧ wr.cell? ⟨b, o + k * 4 + 2, none⟩ = some (.bool x.gone) ∧ wr.cell? ⟨b, o + k * 4 + 3, none⟩ = some (.string x.who) ∧ rPast S' wr [.int .i64 x.number, .int .i64 x.epoch, .bool x.gone, .string x.who] x ∧ I64 x.number ∧ I64 x.epoch ∧ x.who.size ≤ 140737488355328 := by
  obtain ⟨x, hx, hd, hm⟩ := at_k hk
  obtain ⟨b, o, ys, hA, hS, _, hc, hR⟩ := s k _ hx
  have hR' := rPast_keep hR hb
  obtain ⟨e, hrest⟩ := open_Past hR'
  subst e
  have c0' : wr.cell? ⟨b, o + k * 4, none⟩ = _ := cell_kept (p := ⟨b, o + (k * 4 + 0), none⟩) hb hS (hc 0 _ rfl)
  have c1' : wr.cell? ⟨b, o + k * 4 + 1, none⟩ = _ := cell_kept (p := ⟨b, o + (k * 4 + 1), none⟩) hb hS (hc 1 _ rfl)
  have c2' : wr.cell? ⟨b, o + k * 4 + 2, none⟩ = _ := cell_kept (p := ⟨b, o + (k * 4 + 2), none⟩) hb hS (hc 2 _ rfl)
  have c3' : wr.cell? ⟨b, o + k * 4 + 3, none⟩ = _ := cell_kept (p := ⟨b, o + (k * 4 + 3), none⟩) hb hS (hc 3 _ rfl)
  exact ⟨x, b, o, hx, hd, hm, hA, cell_lt (hc 0 _ rfl), hS, c0', c1', c2', c3', hR', hrest⟩
theorem rdPast {w : World} : Rd Tryd.prog w 32 rPast := by
  intro H enc base spare held fuel cs x h hz
  obtain ⟨hl, n, hf⟩ := rd_fields Tryd.underlying32 (by kernel_rfl) (by kernel_rfl) h hz
  match cs, hl with
  | [c0, c1, c2, c3], _ =>
    obtain ⟨y0, t0, z0⟩ := hf 0 _ rfl
    obtain ⟨a0, (e0 : c0 = _), b0⟩ := rd1_int Tryd.underlying3 t0 z0
    obtain ⟨y1, t1, z1⟩ := hf 1 _ rfl
    obtain ⟨a1, (e1 : c1 = _), b1⟩ := rd1_int Tryd.underlying3 t1 z1
    obtain ⟨y2, t2, z2⟩ := hf 2 _ rfl
    obtain ⟨a2, (e2 : c2 = _)⟩ := rd1_bool Tryd.underlying4 t2 z2
    obtain ⟨y3, t3, z3⟩ := hf 3 _ rfl
    obtain ⟨a3, (e3 : c3 = _), b3⟩ := rd1_str Tryd.underlying9 t3 z3
    subst e0 e1 e2 e3
    exact ⟨⟨a0, a1, a2, a3⟩, ⟨rfl, b0, b1, b3⟩⟩

end Go.Proofs.YtkndlhlhcpppgaaDoor
