/- What is done to three boxes: how its cells read. No condition. -/
import Derived.Test.YtgecoannpbghjaaApi
namespace Go.Proofs.Ytgecoannpbghjaa
open Go.RowKit Go.Deep Go.ChangeShapes Go.WideShapes

structure IDo where
  kind : Int
  a : Int
  b : Int
  v : Int

def rIDo : Rp IDo := fun S w cs x => cs = [.int .i64 x.kind, .int .i64 x.a, .int .i64 x.b, .int .i64 x.v] ∧ I64 x.kind ∧ I64 x.a ∧ I64 x.b ∧ I64 x.v
theorem rIDo_len {S : Nat → Prop} {w : World} {cs : List Value} {x : IDo} (h : rIDo S w cs x) : cs.length = 4 := by
  obtain ⟨rfl, c0, c1, c2, c3⟩ := h
  rfl
theorem rIDo_keep {S S' : Nat → Prop} {w w' : World} {cs : List Value} {x : IDo} (h : rIDo S w cs x) (k : Kept S S' w w') : rIDo S' w' cs x := by
  obtain ⟨e, c0, c1, c2, c3⟩ := h
  exact ⟨e, c0, c1, c2, c3⟩
theorem rIDo_one {S : Nat → Prop} {w : World} {cs : List Value} {x : IDo} (h : rIDo S w cs x) : ∀ u ∈ cs, u.oneCell' = true := by
  obtain ⟨e, c0, c1, c2, c3⟩ := h
  intro u hu
  rw [e] at hu
  simp only [List.mem_cons, List.not_mem_nil, or_false] at hu
  rcases hu with rfl | rfl | rfl | rfl <;> rfl
theorem rIDo_ok : RpOk 4 rIDo := ⟨rIDo_len, rIDo_keep, rIDo_one⟩
theorem open_IDo {S : Nat → Prop} {w : World} {cs : List Value} {x : IDo} (h : rIDo S w cs x) : cs = [.int .i64 x.kind, .int .i64 x.a, .int .i64 x.b, .int .i64 x.v] ∧ I64 x.kind ∧ I64 x.a ∧ I64 x.b ∧ I64 x.v := by
  obtain ⟨e, c0, c1, c2, c3⟩ := h
  exact ⟨e, c0, c1, c2, c3⟩
theorem get_IDo {S S' : Nat → Prop} {w wr : World} {A : Option Addr} {l : List IDo} {k : Nat} (s : SlAt 4 rIDo S w A l) (hk : k < l.length) (hb : Kept S S' w wr) :
    ∃ x b o, l[k]? = some x ∧ l.drop k = x :: l.drop (k + 1) ∧ x ∈ l ∧ A = some ⟨b, o, none⟩ ∧ b < w.heap.size ∧ S b ∧ wr.cell? ⟨b, o + k * 4, none⟩ = some (.int .i64 x.kind) ∧ wr.cell? ⟨b, o + k * 4 + 1, none⟩ = some (.int .i64 x.a) ∧ wr.cell? ⟨b, o + k * 4 + 2, none⟩ = some (.int .i64 x.b) ∧ wr.cell? ⟨b, o + k * 4 + 3, none⟩ = some (.int .i64 x.v) ∧ rIDo S' wr [.int .i64 x.kind, .int .i64 x.a, .int .i64 x.b, .int .i64 x.v] x ∧ I64 x.kind ∧ I64 x.a ∧ I64 x.b ∧ I64 x.v := by
  obtain ⟨x, hx, hd, hm⟩ := at_k hk
  obtain ⟨b, o, ys, hA, hS, _, hc, hR⟩ := s k _ hx
  have hR' := rIDo_keep hR hb
  obtain ⟨e, hrest⟩ := open_IDo hR'
  subst e
  have c0' : wr.cell? ⟨b, o + k * 4, none⟩ = _ := cell_kept (p := ⟨b, o + (k * 4 + 0), none⟩) hb hS (hc 0 _ rfl)
  have c1' : wr.cell? ⟨b, o + k * 4 + 1, none⟩ = _ := cell_kept (p := ⟨b, o + (k * 4 + 1), none⟩) hb hS (hc 1 _ rfl)
  have c2' : wr.cell? ⟨b, o + k * 4 + 2, none⟩ = _ := cell_kept (p := ⟨b, o + (k * 4 + 2), none⟩) hb hS (hc 2 _ rfl)
  have c3' : wr.cell? ⟨b, o + k * 4 + 3, none⟩ = _ := cell_kept (p := ⟨b, o + (k * 4 + 3), none⟩) hb hS (hc 3 _ rfl)
  exact ⟨x, b, o, hx, hd, hm, hA, cell_lt (hc 0 _ rfl), hS, c0', c1', c2', c3', hR', hrest⟩
theorem rdIDo {w : World} : Rd Try.prog w 47 rIDo := by
  intro H enc base spare held fuel cs x h hz
  obtain ⟨hl, n, hf⟩ := rd_fields Try.underlying47 (by kernel_rfl) (by kernel_rfl) h hz
  match cs, hl with
  | [c0, c1, c2, c3], _ =>
    obtain ⟨y0, t0, z0⟩ := hf 0 _ rfl
    obtain ⟨a0, (e0 : c0 = _), b0⟩ := rd1_int Try.underlying3 t0 z0
    obtain ⟨y1, t1, z1⟩ := hf 1 _ rfl
    obtain ⟨a1, (e1 : c1 = _), b1⟩ := rd1_int Try.underlying3 t1 z1
    obtain ⟨y2, t2, z2⟩ := hf 2 _ rfl
    obtain ⟨a2, (e2 : c2 = _), b2⟩ := rd1_int Try.underlying3 t2 z2
    obtain ⟨y3, t3, z3⟩ := hf 3 _ rfl
    obtain ⟨a3, (e3 : c3 = _), b3⟩ := rd1_int Try.underlying3 t3 z3
    subst e0 e1 e2 e3
    exact ⟨⟨a0, a1, a2, a3⟩, ⟨rfl, b0, b1, b2, b3⟩⟩

end Go.Proofs.Ytgecoannpbghjaa
