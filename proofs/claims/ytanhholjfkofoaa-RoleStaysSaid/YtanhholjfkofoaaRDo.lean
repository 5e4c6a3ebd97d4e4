/- What is done to a list of members: how its cells read. No condition. -/
import Derived.Test.YtanhholjfkofoaaApi
namespace Go.Proofs.Ytanhholjfkofoaa
open Go.RowKit Go.Deep Go.ChangeShapes Go.WideShapes

structure RDo where
  kind : Int
  by_ : ByteArray
  name : ByteArray
  role : Int

def rRDo : Rp RDo := fun S w cs x => cs = [.int .i64 x.kind, .string x.by_, .string x.name, .int .i64 x.role] ∧ I64 x.kind ∧ x.by_.size ≤ 140737488355328 ∧ x.name.size ≤ 140737488355328 ∧ I64 x.role
theorem rRDo_len {S : Nat → Prop} {w : World} {cs : List Value} {x : RDo} (h : rRDo S w cs x) : cs.length = 4 := by
  obtain ⟨rfl, c0, c1, c2, c3⟩ := h
  rfl
theorem rRDo_keep {S S' : Nat → Prop} {w w' : World} {cs : List Value} {x : RDo} (h : rRDo S w cs x) (k : Kept S S' w w') : rRDo S' w' cs x := by
  obtain ⟨e, c0, c1, c2, c3⟩ := h
  exact ⟨e, c0, c1, c2, c3⟩
theorem rRDo_one {S : Nat → Prop} {w : World} {cs : List Value} {x : RDo} (h : rRDo S w cs x) : ∀ u ∈ cs, u.oneCell' = true := by
  obtain ⟨e, c0, c1, c2, c3⟩ := h
  intro u hu
  rw [e] at hu
  simp only [List.mem_cons, List.not_mem_nil, or_false] at hu
  rcases hu with rfl | rfl | rfl | rfl <;> rfl
theorem rRDo_ok : RpOk 4 rRDo := ⟨rRDo_len, rRDo_keep, rRDo_one⟩
theorem open_RDo {S : Nat → Prop} {w : World} {cs : List Value} {x : RDo} (h : rRDo S w cs x) : cs = [.int .i64 x.kind, .string x.by_, .string x.name, .int .i64 x.role] ∧ I64 x.kind ∧ x.by_.size ≤ 140737488355328 ∧ x.name.size ≤ 140737488355328 ∧ I64 x.role := by
  obtain ⟨e, c0, c1, c2, c3⟩ := h
  exact ⟨e, c0, c1, c2, c3⟩
theorem get_RDo {S S' : Nat → Prop} {w wr : World} {A : Option Addr} {l : List RDo} {k : Nat} (s : SlAt 4 rRDo S w A l) (hk : k < l.length) (hb : Kept S S' w wr) :
    ∃ x b o, l[k]? = some x ∧ l.drop k = x :: l.drop (k + 1) ∧ x ∈ l ∧ A = some ⟨b, o, none⟩ ∧ b < w.heap.size ∧ S b ∧ wr.cell? ⟨b, o + k * 4, none⟩ = some (.int .i64 x.kind) ∧ wr.cell? ⟨b, o + k * 4 + 1, none⟩ = some (.string x.by_) ∧ wr.cell? ⟨b, o + k * 4 + 2, none⟩ = some (.string x.name) ∧ wr.cell? ⟨b, o + k * 4 + 3, none⟩ = some (.int .i64 x.role) ∧ rRDo S' wr [.int .i64 x.kind, .string x.by_, .string x.name, .int .i64 x.role] x ∧ I64 x.kind ∧ x.by_.size ≤ 140737488355328 ∧ x.name.size ≤ 140737488355328 ∧ I64 x.role := by
  obtain ⟨x, hx, hd, hm⟩ := at_k hk
  obtain ⟨b, o, ys, hA, hS, _, hc, hR⟩ := s k _ hx
  have hR' := rRDo_keep hR hb
  obtain ⟨e, hrest⟩ := open_RDo hR'
  subst e
  have c0' : wr.cell? ⟨b, o + k * 4, none⟩ = _ := cell_kept (p := ⟨b, o + (k * 4 + 0), none⟩) hb hS (hc 0 _ rfl)
  have c1' : wr.cell? ⟨b, o + k * 4 + 1, none⟩ = _ := cell_kept (p := ⟨b, o + (k * 4 + 1), none⟩) hb hS (hc 1 _ rfl)
  have c2' : wr.cell? ⟨b, o + k * 4 + 2, none⟩ = _ := cell_kept (p := ⟨b, o + (k * 4 + 2), none⟩) hb hS (hc 2 _ rfl)
  have c3' : wr.cell? ⟨b, o + k * 4 + 3, none⟩ = _ := cell_kept (p := ⟨b, o + (k * 4 + 3), none⟩) hb hS (hc 3 _ rfl)
  exact ⟨x, b, o, hx, hd, hm, hA, cell_lt (hc 0 _ rfl), hS, c0', c1', c2', c3', hR', hrest⟩
theorem rdRDo {w : World} : Rd Try.prog w 46 rRDo := by
  intro H enc base spare held fuel cs x h hz
  obtain ⟨hl, n, hf⟩ := rd_fields Try.underlying46 (by kernel_rfl) (by kernel_rfl) h hz
  match cs, hl with
  | [c0, c1, c2, c3], _ =>
    obtain ⟨y0, t0, z0⟩ := hf 0 _ rfl
    obtain ⟨a0, (e0 : c0 = _), b0⟩ := rd1_int Try.underlying3 t0 z0
    obtain ⟨y1, t1, z1⟩ := hf 1 _ rfl
    obtain ⟨a1, (e1 : c1 = _), b1⟩ := rd1_str Try.underlying9 t1 z1
    obtain ⟨y2, t2, z2⟩ := hf 2 _ rfl
    obtain ⟨a2, (e2 : c2 = _), b2⟩ := rd1_str Try.underlying9 t2 z2
    obtain ⟨y3, t3, z3⟩ := hf 3 _ rfl
    obtain ⟨a3, (e3 : c3 = _), b3⟩ := rd1_int Try.underlying3 t3 z3
    subst e0 e1 e2 e3
    exact ⟨⟨a0, a1, a2, a3⟩, ⟨rfl, b0, b1, b2, b3⟩⟩

end Go.Proofs.Ytanhholjfkofoaa
