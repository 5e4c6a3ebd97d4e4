/- Members, versions and answers: how their cells read. No condition. -/
import Derived.Test.YtmkgiaheeebbbaaStCount
namespace Go.Proofs.Ytmkgiaheeebbbaa
open Go.RowKit Go.Deep Go.ChangeShapes Go.WideShapes

structure Member where
  name : ByteArray
  role : Int

def rMember : Rp Member := fun S w cs x => cs = [.string x.name, .int .i64 x.role] ∧ x.name.size ≤ 140737488355328 ∧ I64 x.role
theorem rMember_len {S : Nat → Prop} {w : World} {cs : List Value} {x : Member} (h : rMember S w cs x) : cs.length = 2 := by
  obtain ⟨rfl, c0, c1⟩ := h
  rfl
theorem rMember_keep {S S' : Nat → Prop} {w w' : World} {cs : List Value} {x : Member} (h : rMember S w cs x) (k : Kept S S' w w') : rMember S' w' cs x := by
  obtain ⟨e, c0, c1⟩ := h
  exact ⟨e, c0, c1⟩
theorem rMember_one {S : Nat → Prop} {w : World} {cs : List Value} {x : Member} (h : rMember S w cs x) : ∀ u ∈ cs, u.oneCell' = true := by
  obtain ⟨e, c0, c1⟩ := h
  intro u hu
  rw [e] at hu
  simp only [List.mem_cons, List.not_mem_nil, or_false] at hu
  rcases hu with rfl | rfl <;> rfl
theorem rMember_ok : RpOk 2 rMember := ⟨rMember_len, rMember_keep, rMember_one⟩
theorem open_Member {S : Nat → Prop} {w : World} {cs : List Value} {x : Member} (h : rMember S w cs x) : cs = [.string x.name, .int .i64 x.role] ∧ x.name.size ≤ 140737488355328 ∧ I64 x.role := by
  obtain ⟨e, c0, c1⟩ := h
  exact ⟨e, c0, c1⟩
theorem get_Member {S S' : Nat → Prop} {w wr : World} {A : Option Addr} {l : List Member} {k : Nat} (s : SlAt 2 rMember S w A l) (hk : k < l.length) (hb : Kept S S' w wr) :
    ∃ x b o, l[k]? = some x ∧ l.drop k = x :: l.drop (k + 1) ∧ x ∈ l ∧ A = some ⟨b, o, none⟩ ∧ b < w.heap.size ∧ S b ∧ wr.cell? ⟨b, o + k * 2, none⟩ = some (.string x.name) ∧ wr.cell? ⟨b, o + k * 2 + 1, none⟩ = some (.int .i64 x.role) ∧ rMember S' wr [.string x.name, .int .i64 x.role] x ∧ x.name.size ≤ 140737488355328 ∧ I64 x.role := by
  obtain ⟨x, hx, hd, hm⟩ := at_k hk
  obtain ⟨b, o, ys, hA, hS, _, hc, hR⟩ := s k _ hx
  have hR' := rMember_keep hR hb
  obtain ⟨e, hrest⟩ := open_Member hR'
  subst e
  have c0' : wr.cell? ⟨b, o + k * 2, none⟩ = _ := cell_kept (p := ⟨b, o + (k * 2 + 0), none⟩) hb hS (hc 0 _ rfl)
  have c1' : wr.cell? ⟨b, o + k * 2 + 1, none⟩ = _ := cell_kept (p := ⟨b, o + (k * 2 + 1), none⟩) hb hS (hc 1 _ rfl)
  exact ⟨x, b, o, hx, hd, hm, hA, cell_lt (hc 0 _ rfl), hS, c0', c1', hR', hrest⟩
theorem rdMember {w : World} : Rd Try.prog w 74 rMember := by
  intro H enc base spare held fuel cs x h hz
  obtain ⟨hl, n, hf⟩ := rd_fields Try.underlying74 (by kernel_rfl) (by kernel_rfl) h hz
  match cs, hl with
  | [c0, c1], _ =>
    obtain ⟨y0, t0, z0⟩ := hf 0 _ rfl
    obtain ⟨a0, (e0 : c0 = _), b0⟩ := rd1_str Try.underlying9 t0 z0
    obtain ⟨y1, t1, z1⟩ := hf 1 _ rfl
    obtain ⟨a1, (e1 : c1 = _), b1⟩ := rd1_int Try.underlying3 t1 z1
    subst e0 e1
    exact ⟨⟨a0, a1⟩, ⟨rfl, b0, b1⟩⟩

structure Past where
  number : Int
  epoch : Int
  gone : Bool
  who : ByteArray

def rPast : Rp Past := fun S w cs x => cs = [.int .i64 x.number, .int .i64 x.epoch, .bool x.gone, .string x.who] ∧ I64 x.number ∧ I64 x.epoch ∧ x.who.size ≤ 140737488355328
theorem rPast_len {S : Nat → Prop} {w : World} {cs : List Value} {x : Past} (h : rPast S w cs x) : cs.length = 4 := by
  obtain ⟨rfl, c0, c1, c2⟩ := h
  rfl
theorem rPast_keep {S S' : Nat → Prop} {w w' : World} {cs : List Value} {x : Past} (h : rPast S w cs x) (k : Kept S S' w w') : rPast S' w' cs x := by
  obtain ⟨e, c0, c1, c2⟩ := h
  exact ⟨e, c0, c1, c2⟩
theorem rPast_one {S : Nat → Prop} {w : World} {cs : List Value} {x : Past} (h : rPast S w cs x) : ∀ u ∈ cs, u.oneCell' = true := by
  obtain ⟨e, c0, c1, c2⟩ := h
  intro u hu
  rw [e] at hu
  simp only [List.mem_cons, List.not_mem_nil, or_false] at hu
  rcases hu with rfl | rfl | rfl | rfl <;> rfl
theorem rPast_ok : RpOk 4 rPast := ⟨rPast_len, rPast_keep, rPast_one⟩
theorem open_Past {S : Nat → Prop} {w : World} {cs : List Value} {x : Past} (h : rPast S w cs x) : cs = [.int .i64 x.number, .int .i64 x.epoch, .bool x.gone, .string x.who] ∧ I64 x.number ∧ I64 x.epoch ∧ x.who.size ≤ 140737488355328 := by
  obtain ⟨e, c0, c1, c2⟩ := h
  exact ⟨e, c0, c1, c2⟩
theorem get_Past {S S' : Nat → Prop} {w wr : World} {A : Option Addr} {l : List Past} {k : Nat} (s : SlAt 4 rPast S w A l) (hk : k < l.length) (hb : Kept S S' w wr) :
    ∃ x b o, l[k]? = some x ∧ l.drop k = x :: l.drop (k + 1) ∧ x ∈ l ∧ A = some ⟨b, o, none⟩ ∧ b < w.heap.size ∧ S b ∧ wr.cell? ⟨b, o + k * 4, none⟩ = some (.int .i64 x.number) ∧ wr.cell? ⟨b, o + k * 4 + 1, none⟩ = some (.int .i64 x.epoch) ∧ wr.cell? ⟨b, o + k * 4 + 2, none⟩ = some (.bool x.gone) ∧ wr.cell? ⟨b, o + k * 4 + 3, none⟩ = some (.string x.who) ∧ rPast S' wr [.int .i64 x.number, .int .i64 x.epoch, .bool x.gone, .string x.who] x ∧ I64 x.number ∧ I64 x.epoch ∧ x.who.size ≤ 140737488355328 := by
  obtain ⟨x, hx, hd, hm⟩ := at_k hk
  obtain ⟨b, o, ys, hA, hS, _, hc, hR⟩ := s k _ hx
  have hR' := rPast_keep hR hb
  obtain ⟨e, hrest⟩ := open_Past hR'
  subst e
  have c0' : wr.cell? ⟨b, o + k * 4, none⟩ = _ := cell_kept (p := ⟨b, o + (k * 4 + 0), none⟩) hb hS (hc 0 _ rfl)
  have c1' : wr.cell? ⟨b, o + k * 4 + 1, none⟩ = _ := cell_kept (p := ⟨b, o + (k * 4 + 1), none⟩) hb hS (hc 1 _ rfl)
  have c2' : wr.cell? ⟨b, o + k * 4 + 2, none⟩ = _ := cell_kept (p := ⟨b, o + (k * 4 + 2), none⟩) hb hS (hc 2 _ rfl)
  have c3' : wr.cell? ⟨b, o + k * 4 + 3, none⟩ = _ := cell_kept (p := ⟨b, o + (k * 4 + 3), none⟩) hb hS (hc 3 _ rfl)
  exact ⟨x, b, o, hx, hd, hm, hA, cell_lt (hc 0 _ rfl), hS, c0', c1', c2', c3', hR', hrest⟩
theorem rdPast {w : World} : Rd Try.prog w 60 rPast := by
  intro H enc base spare held fuel cs x h hz
  obtain ⟨hl, n, hf⟩ := rd_fields Try.underlying60 (by kernel_rfl) (by kernel_rfl) h hz
  match cs, hl with
  | [c0, c1, c2, c3], _ =>
    obtain ⟨y0, t0, z0⟩ := hf 0 _ rfl
    obtain ⟨a0, (e0 : c0 = _), b0⟩ := rd1_int Try.underlying3 t0 z0
    obtain ⟨y1, t1, z1⟩ := hf 1 _ rfl
    obtain ⟨a1, (e1 : c1 = _), b1⟩ := rd1_int Try.underlying3 t1 z1
    obtain ⟨y2, t2, z2⟩ := hf 2 _ rfl
    obtain ⟨a2, (e2 : c2 = _)⟩ := rd1_bool Try.underlying4 t2 z2
    obtain ⟨y3, t3, z3⟩ := hf 3 _ rfl
    obtain ⟨a3, (e3 : c3 = _), b3⟩ := rd1_str Try.underlying9 t3 z3
    subst e0 e1 e2 e3
    exact ⟨⟨a0, a1, a2, a3⟩, ⟨rfl, b0, b1, b3⟩⟩

structure Answer where
  err : Int
  number : Int
  who : ByteArray
  data : List Int
  names : List ByteArray
  members : List Member
  history : List Past

def rAnswer : Rp Answer := fun S w cs x => ∃ v3 v4 v5 v6, cs = [.int .i64 x.err, .int .i64 x.number, .string x.who, v3, v4, v5, v6] ∧ I64 x.err ∧ I64 x.number ∧ x.who.size ≤ 140737488355328 ∧ Sl 1 rByte S w v3 x.data ∧ Sl 1 rStr S w v4 x.names ∧ Sl 2 rMember S w v5 x.members ∧ Sl 4 rPast S w v6 x.history
theorem rAnswer_len {S : Nat → Prop} {w : World} {cs : List Value} {x : Answer} (h : rAnswer S w cs x) : cs.length = 7 := by
  obtain ⟨v3, v4, v5, v6, rfl, c0, c1, c2, c3, c4, c5, c6⟩ := h
  rfl
theorem rAnswer_keep {S S' : Nat → Prop} {w w' : World} {cs : List Value} {x : Answer} (h : rAnswer S w cs x) (k : Kept S S' w w') : rAnswer S' w' cs x := by
  obtain ⟨v3, v4, v5, v6, e, c0, c1, c2, c3, c4, c5, c6⟩ := h
  exact ⟨v3, v4, v5, v6, e, c0, c1, c2, c3.keep rByte_ok (by decide) k, c4.keep rStr_ok (by decide) k, c5.keep rMember_ok (by decide) k, c6.keep rPast_ok (by decide) k⟩
theorem rAnswer_one {S : Nat → Prop} {w : World} {cs : List Value} {x : Answer} (h : rAnswer S w cs x) : ∀ u ∈ cs, u.oneCell' = true := by
  obtain ⟨v3, v4, v5, v6, e, c0, c1, c2, c3, c4, c5, c6⟩ := h
  obtain ⟨A3, k3, rfl, _⟩ := c3
  obtain ⟨A4, k4, rfl, _⟩ := c4
  obtain ⟨A5, k5, rfl, _⟩ := c5
  obtain ⟨A6, k6, rfl, _⟩ := c6
  intro u hu
  rw [e] at hu
  simp only [List.mem_cons, List.not_mem_nil, or_false] at hu
  rcases hu with rfl | rfl | rfl | rfl | rfl | rfl | rfl <;> rfl
theorem rAnswer_ok : RpOk 7 rAnswer := ⟨rAnswer_len, rAnswer_keep, rAnswer_one⟩
theorem open_Answer {S : Nat → Prop} {w : World} {cs : List Value} {x : Answer} (h : rAnswer S w cs x) : ∃ A3 c3 A4 c4 A5 c5 A6 c6, cs = [.int .i64 x.err, .int .i64 x.number, .string x.who, .slice A3 x.data.length c3, .slice A4 x.names.length c4, .slice A5 x.members.length c5, .slice A6 x.history.length c6] ∧ I64 x.err ∧ I64 x.number ∧ x.who.size ≤ 140737488355328 ∧ x.data.length ≤ c3 ∧ c3 ≤ 9223372036854775807 ∧ x.data.length ≤ 140737488355328 ∧ SlAt 1 rByte S w A3 x.data ∧ x.names.length ≤ c4 ∧ c4 ≤ 9223372036854775807 ∧ x.names.length ≤ 140737488355328 ∧ SlAt 1 rStr S w A4 x.names ∧ x.members.length ≤ c5 ∧ c5 ≤ 9223372036854775807 ∧ x.members.length ≤ 140737488355328 ∧ SlAt 2 rMember S w A5 x.members ∧ x.history.length ≤ c6 ∧ c6 ≤ 9223372036854775807 ∧ x.history.length ≤ 140737488355328 ∧ SlAt 4 rPast S w A6 x.history := by
  obtain ⟨v3, v4, v5, v6, e, c0, c1, c2, c3, c4, c5, c6⟩ := h
  obtain ⟨A3, k3, rfl, l3, m3, n3, s3⟩ := c3
  obtain ⟨A4, k4, rfl, l4, m4, n4, s4⟩ := c4
  obtain ⟨A5, k5, rfl, l5, m5, n5, s5⟩ := c5
  obtain ⟨A6, k6, rfl, l6, m6, n6, s6⟩ := c6
  exact ⟨A3, k3, A4, k4, A5, k5, A6, k6, e, c0, c1, c2, l3, (by simpa [maxLen] using m3), n3, s3, l4, (by simpa [maxLen] using m4), n4, s4, l5, (by simpa [maxLen] using m5), n5, s5, l6, (by simpa [maxLen] using m6), n6, s6⟩
theorem get_Answer {S S' : Nat → Prop} {w wr : World} {A : Option Addr} {l : List Answer} {k : Nat} (s : SlAt 7 rAnswer S w A l) (hk : k < l.length) (hb : Kept S S' w wr) :
    ∃ x b o A3 c3 A4 c4 A5 c5 A6 c6, l[k]? = some x ∧ l.drop k = x :: l.drop (k + 1) ∧ x ∈ l ∧ A = some ⟨b, o, none⟩ ∧ b < w.heap.size ∧ S b ∧ wr.cell? ⟨b, o + k * 7, none⟩ = some (.int .i64 x.err) ∧ wr.cell? ⟨b, o + k * 7 + 1, none⟩ = some (.int .i64 x.number) ∧ wr.cell? ⟨b, o + k * 7 + 2, none⟩ = some (.string x.who) ∧ wr.cell? ⟨b, o + k * 7 + 3, none⟩ = some (.slice A3 x.data.length c3) ∧ wr.cell? ⟨b, o + k * 7 + 4, none⟩ = some (.slice A4 x.names.length c4) ∧ wr.cell? ⟨b, o + k * 7 + 5, none⟩ = some (.slice A5 x.members.length c5) ∧ wr.cell? ⟨b, o + k * 7 + 6, none⟩ = some (.slice A6 x.history.length c6) ∧ rAnswer S' wr [.int .i64 x.err, .int .i64 x.number, .string x.who, .slice A3 x.data.length c3, .slice A4 x.names.length c4, .slice A5 x.members.length c5, .slice A6 x.history.length c6] x ∧ I64 x.err ∧ I64 x.number ∧ x.who.size ≤ 140737488355328 ∧ x.data.length ≤ c3 ∧ c3 ≤ 9223372036854775807 ∧ x.data.length ≤ 140737488355328 ∧ SlAt 1 rByte S' wr A3 x.data ∧ x.names.length ≤ c4 ∧ c4 ≤ 9223372036854775807 ∧ x.names.length ≤ 140737488355328 ∧ SlAt 1 rStr S' wr A4 x.names ∧ x.members.length ≤ c5 ∧ c5 ≤ 9223372036854775807 ∧ x.members.length ≤ 140737488355328 ∧ SlAt 2 rMember S' wr A5 x.members ∧ x.history.length ≤ c6 ∧ c6 ≤ 9223372036854775807 ∧ x.history.length ≤ 140737488355328 ∧ SlAt 4 rPast S' wr A6 x.history := by
  obtain ⟨x, hx, hd, hm⟩ := at_k hk
  obtain ⟨b, o, ys, hA, hS, _, hc, hR⟩ := s k _ hx
  have hR' := rAnswer_keep hR hb
  obtain ⟨A3, c3, A4, c4, A5, c5, A6, c6, e, hrest⟩ := open_Answer hR'
  subst e
  have c0' : wr.cell? ⟨b, o + k * 7, none⟩ = _ := cell_kept (p := ⟨b, o + (k * 7 + 0), none⟩) hb hS (hc 0 _ rfl)
  have c1' : wr.cell? ⟨b, o + k * 7 + 1, none⟩ = _ := cell_kept (p := ⟨b, o + (k * 7 + 1), none⟩) hb hS (hc 1 _ rfl)
  have c2' : wr.cell? ⟨b, o + k * 7 + 2, none⟩ = _ := cell_kept (p := ⟨b, o + (k * 7 + 2), none⟩) hb hS (hc 2 _ rfl)
  have c3' : wr.cell? ⟨b, o + k * 7 + 3, none⟩ = _ := cell_kept (p := ⟨b, o + (k * 7 + 3), none⟩) hb hS (hc 3 _ rfl)
  have c4' : wr.cell? ⟨b, o + k * 7 + 4, none⟩ = _ := cell_kept (p := ⟨b, o + (k * 7 + 4), none⟩) hb hS (hc 4 _ rfl)
  have c5' : wr.cell? ⟨b, o + k * 7 + 5, none⟩ = _ := cell_kept (p := ⟨b, o + (k * 7 + 5), none⟩) hb hS (hc 5 _ rfl)
  have c6' : wr.cell? ⟨b, o + k * 7 + 6, none⟩ = _ := cell_kept (p := ⟨b, o + (k * 7 + 6), none⟩) hb hS (hc 6 _ rfl)
  exact ⟨x, b, o, A3, c3, A4, c4, A5, c5, A6, c6, hx, hd, hm, hA, cell_lt (hc 0 _ rfl), hS, c0', c1', c2', c3', c4', c5', c6', hR', hrest⟩
theorem rdAnswer {w : World} : Rd Try.prog w 39 rAnswer := by
  intro H enc base spare held fuel cs x h hz
  obtain ⟨hl, n, hf⟩ := rd_fields Try.underlying39 (by kernel_rfl) (by kernel_rfl) h hz
  match cs, hl with
  | [c0, c1, c2, c3, c4, c5, c6], _ =>
    obtain ⟨y0, t0, z0⟩ := hf 0 _ rfl
    obtain ⟨a0, (e0 : c0 = _), b0⟩ := rd1_int Try.underlying26 t0 z0
    obtain ⟨y1, t1, z1⟩ := hf 1 _ rfl
    obtain ⟨a1, (e1 : c1 = _), b1⟩ := rd1_int Try.underlying3 t1 z1
    obtain ⟨y2, t2, z2⟩ := hf 2 _ rfl
    obtain ⟨a2, (e2 : c2 = _), b2⟩ := rd1_str Try.underlying9 t2 z2
    obtain ⟨y3, t3, z3⟩ := hf 3 _ rfl
    obtain ⟨a3, b3⟩ := rd1_sl (rd_slice Try.underlying34 (by kernel_rfl) (of_decide_eq_true (by kernel_rfl)) (by decide) (rd_byte Try.underlying5) rByte_ok.len) t3 z3
    have b3' : Sl 1 rByte _ w c3 a3 := b3
    obtain ⟨y4, t4, z4⟩ := hf 4 _ rfl
    obtain ⟨a4, b4⟩ := rd1_sl (rd_slice Try.underlying35 (by kernel_rfl) (of_decide_eq_true (by kernel_rfl)) (by decide) (rd_str Try.underlying9) rStr_ok.len) t4 z4
    have b4' : Sl 1 rStr _ w c4 a4 := b4
    obtain ⟨y5, t5, z5⟩ := hf 5 _ rfl
    obtain ⟨a5, b5⟩ := rd1_sl (rd_slice Try.underlying36 (by kernel_rfl) (of_decide_eq_true (by kernel_rfl)) (by decide) rdMember rMember_len) t5 z5
    have b5' : Sl 2 rMember _ w c5 a5 := b5
    obtain ⟨y6, t6, z6⟩ := hf 6 _ rfl
    obtain ⟨a6, b6⟩ := rd1_sl (rd_slice Try.underlying37 (by kernel_rfl) (of_decide_eq_true (by kernel_rfl)) (by decide) rdPast rPast_len) t6 z6
    have b6' : Sl 4 rPast _ w c6 a6 := b6
    subst e0 e1 e2
    exact ⟨⟨a0, a1, a2, a3, a4, a5, a6⟩, ⟨c3, c4, c5, c6, rfl, b0, b1, b2, b3', b4', b5', b6'⟩⟩

end Go.Proofs.Ytmkgiaheeebbbaa
