/- A call: how its cells read. No condition. -/
import Derived.Test.YtalhilelbebfbaaDoorCaP
import Derived.Test.YtalhilelbebfbaaDoorArgs
namespace Go.Proofs.YtalhilelbebfbaaDoor
open Go.RowKit Go.Deep Go.ChangeShapes Go.WideShapes

theorem one_sliceL {P : Program} {w : World} {t e : TypeId} (ht : P.underlying t = some (.slice e)) {H : Type} {enc : TypeId × Value → H} {base : Nat} {spare : Nat → Bool} {held : Bool} {fuel : Nat} {v : Value} {x : DataW H × List MemPlace}
    (h : DataW.trod enc P w base spare held fuel t [v] = some x) : ∃ A n c, v = .slice A n c ∧ n ≤ 9223372036854775807 := by
  rcases open_slice ht h with ⟨hv, _⟩ | ⟨a, len, cap, m, n, D, Pl, hv, _, h2, h3, _⟩
  · exact ⟨none, 0, 0, by simpa using hv, by omega⟩
  · exact ⟨some a, len, cap, by simpa using hv, by unfold maxLen at h3; omega⟩
structure Call where
  kind : Int
  user : ByteArray
  folder : ByteArray
  name : ByteArray
  other : ByteArray
  role : Int
  version : Int
  dlen : Nat

def rCall : Rp Call := fun _ _ cs x => ∃ (A : Option Addr) (c : Nat), cs = [.int .i64 x.kind, .string x.user, .string x.folder, .string x.name, .string x.other, .int .i64 x.role, .int .i64 x.version, .slice A x.dlen c] ∧ x.user.size ≤ 140737488355328 ∧ x.folder.size ≤ 140737488355328 ∧ x.name.size ≤ 140737488355328 ∧ x.other.size ≤ 140737488355328
theorem rCall_ok : RpOk 8 rCall := ⟨fun ⟨_, _, h, _⟩ => by rw [h]; rfl, fun h _ => h, fun ⟨_, _, h, _⟩ u hu => by
  rw [h] at hu
  simp only [List.mem_cons, List.not_mem_nil, or_false] at hu
  rcases hu with rfl | rfl | rfl | rfl | rfl | rfl | rfl | rfl <;> rfl⟩
theorem rdCall {w : World} : Rd Tryd.prog w 46 rCall := by
  intro H enc base spare held fuel cs x h hz
  obtain ⟨hl, n, hf⟩ := rd_fields Tryd.underlying46 (by kernel_rfl) (by kernel_rfl) h hz
  match cs, hl with
  | [c0, c1, c2, c3, c4, c5, c6, c7], _ =>
    obtain ⟨y0, t0, z0⟩ := hf 0 _ rfl
    obtain ⟨a0, (e0 : c0 = _), b0⟩ := rd1_int Tryd.underlying3 t0 z0
    obtain ⟨y1, t1, z1⟩ := hf 1 _ rfl
    obtain ⟨a1, (e1 : c1 = _), b1⟩ := rd1_str Tryd.underlying9 t1 z1
    obtain ⟨y2, t2, z2⟩ := hf 2 _ rfl
    obtain ⟨a2, (e2 : c2 = _), b2⟩ := rd1_str Tryd.underlying9 t2 z2
    obtain ⟨y3, t3, z3⟩ := hf 3 _ rfl
    obtain ⟨a3, (e3 : c3 = _), b3⟩ := rd1_str Tryd.underlying9 t3 z3
    obtain ⟨y4, t4, z4⟩ := hf 4 _ rfl
    obtain ⟨a4, (e4 : c4 = _), b4⟩ := rd1_str Tryd.underlying9 t4 z4
    obtain ⟨y5, t5, z5⟩ := hf 5 _ rfl
    obtain ⟨a5, (e5 : c5 = _), b5⟩ := rd1_int Tryd.underlying3 t5 z5
    obtain ⟨y6, t6, z6⟩ := hf 6 _ rfl
    obtain ⟨a6, (e6 : c6 = _), b6⟩ := rd1_int Tryd.underlying3 t6 z6
    obtain ⟨y7, t7, z7⟩ := hf 7 _ rfl
    obtain ⟨A7, n7, d7, o7, m7⟩ := one_sliceL Tryd.underlying29 t7
    have o7' : c7 = _ := o7
    subst e0 e1 e2 e3 e4 e5 e6 o7'
    exact ⟨⟨a0, a1, a2, a3, a4, a5, a6, n7⟩, A7, d7, rfl, b1, b2, b3, b4⟩
theorem get_Call {S S' : Nat → Prop} {w wr : World} {A : Option Addr} {l : List Call} {k : Nat} (s : SlAt 8 rCall S w A l) (hk : k < l.length) (hb : Kept S S' w wr) :
    ∃ x b o A7 c7, l[k]? = some x ∧ x ∈ l ∧ A = some ⟨b, o, none⟩ ∧ b < w.heap.size ∧ wr.cell? ⟨b, o + k * 8, none⟩ = some (.int .i64 x.kind) ∧ wr.cell? ⟨b, o + k * 8 + 1, none⟩ = some (.string x.user) ∧ wr.cell? ⟨b, o + k * 8 + 2, none⟩ = some (.string x.folder) ∧ wr.cell? ⟨b, o + k * 8 + 3, none⟩ = some (.string x.name) ∧ wr.cell? ⟨b, o + k * 8 + 4, none⟩ = some (.string x.other) ∧ wr.cell? ⟨b, o + k * 8 + 5, none⟩ = some (.int .i64 x.role) ∧ wr.cell? ⟨b, o + k * 8 + 6, none⟩ = some (.int .i64 x.version) ∧ wr.cell? ⟨b, o + k * 8 + 7, none⟩ = some (.slice A7 x.dlen c7) ∧ x.user.size ≤ 140737488355328 ∧ x.folder.size ≤ 140737488355328 ∧ x.name.size ≤ 140737488355328 ∧ x.other.size ≤ 140737488355328 := by
  obtain ⟨x, hx, hd, hm⟩ := at_k hk
  obtain ⟨b, o, ys, hA, hS, _, hc, A7, c7, rfl, u1, u2, u3, u4⟩ := s k _ hx
  exact ⟨x, b, o, A7, c7, hx, hm, hA, cell_lt (hc 0 _ rfl), cell_kept (p := ⟨b, o + (k * 8 + 0), none⟩) hb hS (hc 0 _ rfl), cell_kept (p := ⟨b, o + (k * 8 + 1), none⟩) hb hS (hc 1 _ rfl), cell_kept (p := ⟨b, o + (k * 8 + 2), none⟩) hb hS (hc 2 _ rfl), cell_kept (p := ⟨b, o + (k * 8 + 3), none⟩) hb hS (hc 3 _ rfl), cell_kept (p := ⟨b, o + (k * 8 + 4), none⟩) hb hS (hc 4 _ rfl), cell_kept (p := ⟨b, o + (k * 8 + 5), none⟩) hb hS (hc 5 _ rfl), cell_kept (p := ⟨b, o + (k * 8 + 6), none⟩) hb hS (hc 6 _ rfl), cell_kept (p := ⟨b, o + (k * 8 + 7), none⟩) hb hS (hc 7 _ rfl), u1, u2, u3, u4⟩

end Go.Proofs.YtalhilelbebfbaaDoor
