/- The program's plain structures, how their cells read, and that every reading of an argument is one. No condition. -/
import Derived.Test.YtkapaafbnbnpjaaGreatDoorRep
import Derived.Deep.Fields
import Derived.Lib.Hide
namespace Go.Proofs.YtkapaafbnbnpjaaGreatDoor
open Go.RowKit Go.Deep Go.ChangeShapes Go.WideShapes

/-- A struct whose fields are one cell each: the cells, and each field's own reading. -/
theorem rd_fields {P : Program} {w : World} {t : TypeId} {fs : Array Field} (ht : P.underlying t = some (.struct fs)) (hone : oneCellFields P fs = true) (hC : P.cellsOf t = fs.size)
    {H : Type} {enc : TypeId × Value → H} {base : Nat} {spare : Nat → Bool} {held : Bool} {fuel : Nat} {cs : List Value} {x : DataW H × List MemPlace}
    (h : DataW.trod enc P w base spare held fuel t cs = some x) (hz : Sized P t x.1) :
    cs.length = fs.size ∧ ∃ n, ∀ j f, fs[j]? = some f → ∃ y, DataW.trod enc P w base spare held n f.type [cs.getD j undef] = some y ∧ Sized P f.type y.1 := by
  obtain ⟨xs, n, _, hx, hl, hxl, hf⟩ := DataW.trod_struct ht h
  subst hx
  refine ⟨hl.trans hC, n, fun j f hj => ?_⟩
  obtain ⟨ho, hk⟩ := hone_of hone j f hj
  have hjl : j < fs.size := (Array.getElem?_eq_some_iff.1 hj).1
  have h1 := hf j f hj
  rw [ho, hk, take1_drop cs j undef (by omega), List.getElem?_eq_getElem (by omega)] at h1
  refine ⟨_, h1, fun m hm => hz m ?_⟩
  simp only [DataW.weights, ht]
  exact DataW.weights_mem_each (j := j) (t := f.type) (by simp [hj]) (by simp [List.getElem?_eq_getElem (show j < xs.length by omega)]) m hm

theorem kept_of {S : Nat → Prop} {w wr : World} (h : Below w.heap.size w wr) : Kept S S w wr := Kept.below h fun _ h => h

theorem bcell {W w1 : World} (hb : Below W.heap.size W w1) : (∀ b o, b < W.heap.size → w1.cell? ⟨b, o, none⟩ = W.cell? ⟨b, o, none⟩) ∧ (∀ b o, b < W.heap.size → w1.frozen? ⟨b, o, none⟩ = W.frozen? ⟨b, o, none⟩) :=
  ⟨fun b o h => hb.cell (p := ⟨b, o, none⟩) h, fun b o h => hb.frozen (p := ⟨b, o, none⟩) h⟩
theorem bel_call {w W w1 : World} (h : Below w.heap.size w W) (h1 : Below W.heap.size W w1) : Below w.heap.size w w1 := h.trans (h1.mono h.size)

theorem ret_bool {a b : Bool} (h : a = b) : Ending.returned (.bool a) = .returned (.bool b) := by rw [h]
theorem ret_int {k : IntKind} {a b : Int} (h : a = b) : Ending.returned (.int k a) = .returned (.int k b) := by rw [h]

/-- One by one, then all. -/
theorem list_of {α β : Type} {p : Nat → β → Prop} {q : β → α → Prop} {len : Nat} (h : ∀ i, i < len → ∃ r : α × β, p i r.2 ∧ q r.2 r.1) : ∃ l : List α, l.length = len ∧ ∀ i x, l[i]? = some x → ∃ ys, p i ys ∧ q ys x := by
  induction len with
  | zero => exact ⟨[], rfl, fun i x hi => by simp at hi⟩
  | succ k ih =>
    obtain ⟨l, hl, hl'⟩ := ih (fun i hi => h i (by omega))
    obtain ⟨r, q1, q2⟩ := h k (by omega)
    refine ⟨l ++ [r.1], by simp [hl], fun i x hi => ?_⟩
    rcases Nat.lt_or_ge i k with hlt | hge
    · exact hl' i x (by rwa [List.getElem?_append_left (by omega)] at hi)
    · rw [List.getElem?_append_right (by omega)] at hi
      have : i = k := by
        rcases Nat.lt_or_ge (i - l.length) 1 with h1 | h1
        · omega
        · rw [List.getElem?_eq_none (by simpa using h1)] at hi; cases hi
      subst this
      simp [hl] at hi
      subst hi
      exact ⟨r.2, q1, q2⟩

theorem at_k {α : Type} {l : List α} {k : Nat} (h : k < l.length) : ∃ x, l[k]? = some x ∧ l.drop k = x :: l.drop (k + 1) ∧ x ∈ l := ⟨l[k], List.getElem?_eq_getElem h, List.drop_eq_getElem_cons h, List.getElem_mem h⟩

/-- A slice whose elements read as something reads as a list. -/
theorem rd_slice {α : Type} {P : Program} {w : World} {t e : TypeId} {sz : Nat} {R : Rp α} (ht : P.underlying t = some (.slice e)) (hC : P.cellsOf e = sz) (hby : 0 < P.bytesOf e) (hsz : 0 < sz) (hR : Rd P w e R) (hlen : ∀ {S : Nat → Prop} {w : World} {cs : List Value} {x : α}, R S w cs x → cs.length = sz) : Rd P w t (rSl sz R) := by
  intro H enc base spare held fuel cs x h hz
  rcases open_slice ht h with ⟨rfl, _⟩ | ⟨a, len, cap, m, n, D, Pl, rfl, hb, hl, hm, hmm, hxx, hx⟩
  · exact ⟨[], _, rfl, Sl_nil _ _ _ _⟩
  · have hlm : len ≤ m := by rw [hmm]; split <;> omega
    have hall : ∀ i, i < len → ∃ q : α × List Value, w.cells? base (a.add (i * sz)) sz = some q.2 ∧ R (fun _ => True) w q.2 q.1 := by
      intro i hi
      obtain ⟨cs', h1, h2⟩ := hx i (by omega)
      obtain ⟨y, hy⟩ := hR h2 (fun q hq => hz q (by
        rw [hxx]
        simp only [DataW.weights, ht, List.mem_cons, List.mem_append]
        exact .inr (.inl (sized_all (List.mem_map.2 ⟨i, List.mem_range.2 hi, rfl⟩) q hq))))
      rw [hC] at h1
      exact ⟨(y, cs'), h1, hy⟩
    obtain ⟨l, hll, hl'⟩ := list_of (p := fun i ys => w.cells? base (a.add (i * sz)) sz = some ys) (q := fun ys x => R (fun _ => True) w ys x) hall
    have hlen47 : len ≤ 140737488355328 := by
      have h1 := hz ((((List.range len).map D).length + ((List.range (m - len)).map fun j => D (len + j)).length) * P.bytesOf e) (by rw [hxx]; simp [DataW.weights, ht])
      have h2 : len ≤ (((List.range len).map D).length + ((List.range (m - len)).map fun j => D (len + j)).length) * P.bytesOf e := by
        rw [List.length_map, List.length_range]
        exact Nat.le_trans (Nat.le_add_right _ _) (Nat.le_mul_of_pos_right _ hby)
      exact Nat.le_trans h2 (Nat.le_trans h1 (by decide))
    refine ⟨l, _, rfl, some a, cap, by rw [hll], by omega, hm, by omega, fun i x hi => ?_⟩
    have hil : i < len := by have := (List.getElem?_eq_some_iff.1 hi).1; omega
    obtain ⟨ys, h1, h2⟩ := hl' i x hi
    obtain ⟨_, hyl, hyc⟩ := World.cells?_some h1
    obtain ⟨b, o, sp⟩ := a
    obtain ⟨q0, h0, _⟩ := hall 0 (by omega)
    obtain ⟨_, hyl0, hyc0⟩ := World.cells?_some h0
    have h00 := hyc0 0 hsz
    rw [List.getElem?_eq_getElem (by omega), Nat.zero_mul] at h00
    have hsp : sp = none := World.cell?_spot h00
    subst hsp
    refine ⟨b, o, ys, rfl, trivial, hyl, fun j y hj => ?_, h2⟩
    have hjl : j < sz := by have := (List.getElem?_eq_some_iff.1 hj).1; omega
    have h3 := hyc j hjl
    rw [hj, add_add] at h3
    have e : (⟨b, o, none⟩ : Addr).add (i * sz + j) = ⟨b, o + (i * sz + j), none⟩ := by
      unfold Addr.add
      split
      · rename_i h; rw [h]; rfl
      · rfl
    rw [e] at h3
    exact h3

structure User where
  name : ByteArray
  lost : Bool

def rUser : Rp User := fun S w cs x => cs = [.string x.name, .bool x.lost] ∧ x.name.size ≤ 140737488355328
theorem rUser_len {S : Nat → Prop} {w : World} {cs : List Value} {x : User} (h : rUser S w cs x) : cs.length = 2 := by
  obtain ⟨rfl, c0⟩ := h
  rfl
theorem rUser_keep {S S' : Nat → Prop} {w w' : World} {cs : List Value} {x : User} (h : rUser S w cs x) (k : Kept S S' w w') : rUser S' w' cs x := by
  obtain ⟨e, c0⟩ := h
  exact ⟨e, c0⟩
theorem rUser_one {S : Nat → Prop} {w : World} {cs : List Value} {x : User} (h : rUser S w cs x) : ∀ u ∈ cs, u.oneCell' = true := by
  obtain ⟨e, c0⟩ := h
  intro u hu
  rw [e] at hu
  simp only [List.mem_cons, List.not_mem_nil, or_false] at hu
  rcases hu with rfl | rfl <;> rfl
theorem rUser_ok : RpOk 2 rUser := ⟨rUser_len, rUser_keep, rUser_one⟩
theorem open_User {S : Nat → Prop} {w : World} {cs : List Value} {x : User} (h : rUser S w cs x) : cs = [.string x.name, .bool x.lost] ∧ x.name.size ≤ 140737488355328 := by
  obtain ⟨e, c0⟩ := h
  exact ⟨e, c0⟩
theorem get_User {S S' : Nat → Prop} {w wr : World} {A : Option Addr} {l : List User} {k : Nat} (s : SlAt 2 rUser S w A l) (hk : k < l.length) (hb : Kept S S' w wr) :
    ∃ x b o, l[k]? = some x ∧ l.drop k = x :: l.drop (k + 1) ∧ x ∈ l ∧ A = some ⟨b, o, none⟩ ∧ b < w.heap.size ∧ S b ∧ wr.cell? ⟨b, o + k * 2, none⟩ = some (.string x.name) ∧ wr.cell? ⟨b, o + k * 2 + 1, none⟩ = some (.bool x.lost) ∧ rUser S' wr [.string x.name, .bool x.lost] x ∧ x.name.size ≤ 140737488355328 := by
  obtain ⟨x, hx, hd, hm⟩ := at_k hk
  obtain ⟨b, o, ys, hA, hS, _, hc, hR⟩ := s k _ hx
  have hR' := rUser_keep hR hb
  obtain ⟨e, hrest⟩ := open_User hR'
  subst e
  have c0' : wr.cell? ⟨b, o + k * 2, none⟩ = _ := cell_kept (p := ⟨b, o + (k * 2 + 0), none⟩) hb hS (hc 0 _ rfl)
  have c1' : wr.cell? ⟨b, o + k * 2 + 1, none⟩ = _ := cell_kept (p := ⟨b, o + (k * 2 + 1), none⟩) hb hS (hc 1 _ rfl)
  exact ⟨x, b, o, hx, hd, hm, hA, cell_lt (hc 0 _ rfl), hS, c0', c1', hR', hrest⟩
theorem rdUser {w : World} : Rd Tryz.prog w 54 rUser := by
  intro H enc base spare held fuel cs x h hz
  obtain ⟨hl, n, hf⟩ := rd_fields Tryz.underlying54 (by kernel_rfl) (by kernel_rfl) h hz
  match cs, hl with
  | [c0, c1], _ =>
    obtain ⟨y0, t0, z0⟩ := hf 0 _ rfl
    obtain ⟨a0, (e0 : c0 = _), b0⟩ := rd1_str Tryz.underlying9 t0 z0
    obtain ⟨y1, t1, z1⟩ := hf 1 _ rfl
    obtain ⟨a1, (e1 : c1 = _)⟩ := rd1_bool Tryz.underlying4 t1 z1
    subst e0 e1
    exact ⟨⟨a0, a1⟩, ⟨rfl, b0⟩⟩

structure Pair where
  frm : ByteArray
  to : ByteArray

def rPair : Rp Pair := fun S w cs x => cs = [.string x.frm, .string x.to] ∧ x.frm.size ≤ 140737488355328 ∧ x.to.size ≤ 140737488355328
theorem rPair_len {S : Nat → Prop} {w : World} {cs : List Value} {x : Pair} (h : rPair S w cs x) : cs.length = 2 := by
  obtain ⟨rfl, c0, c1⟩ := h
  rfl
theorem rPair_keep {S S' : Nat → Prop} {w w' : World} {cs : List Value} {x : Pair} (h : rPair S w cs x) (k : Kept S S' w w') : rPair S' w' cs x := by
  obtain ⟨e, c0, c1⟩ := h
  exact ⟨e, c0, c1⟩
theorem rPair_one {S : Nat → Prop} {w : World} {cs : List Value} {x : Pair} (h : rPair S w cs x) : ∀ u ∈ cs, u.oneCell' = true := by
  obtain ⟨e, c0, c1⟩ := h
  intro u hu
  rw [e] at hu
  simp only [List.mem_cons, List.not_mem_nil, or_false] at hu
  rcases hu with rfl | rfl <;> rfl
theorem rPair_ok : RpOk 2 rPair := ⟨rPair_len, rPair_keep, rPair_one⟩
theorem open_Pair {S : Nat → Prop} {w : World} {cs : List Value} {x : Pair} (h : rPair S w cs x) : cs = [.string x.frm, .string x.to] ∧ x.frm.size ≤ 140737488355328 ∧ x.to.size ≤ 140737488355328 := by
  obtain ⟨e, c0, c1⟩ := h
  exact ⟨e, c0, c1⟩
theorem get_Pair {S S' : Nat → Prop} {w wr : World} {A : Option Addr} {l : List Pair} {k : Nat} (s : SlAt 2 rPair S w A l) (hk : k < l.length) (hb : Kept S S' w wr) :
    ∃ x b o, l[k]? = some x ∧ l.drop k = x :: l.drop (k + 1) ∧ x ∈ l ∧ A = some ⟨b, o, none⟩ ∧ b < w.heap.size ∧ S b ∧ wr.cell? ⟨b, o + k * 2, none⟩ = some (.string x.frm) ∧ wr.cell? ⟨b, o + k * 2 + 1, none⟩ = some (.string x.to) ∧ rPair S' wr [.string x.frm, .string x.to] x ∧ x.frm.size ≤ 140737488355328 ∧ x.to.size ≤ 140737488355328 := by
  obtain ⟨x, hx, hd, hm⟩ := at_k hk
  obtain ⟨b, o, ys, hA, hS, _, hc, hR⟩ := s k _ hx
  have hR' := rPair_keep hR hb
  obtain ⟨e, hrest⟩ := open_Pair hR'
  subst e
  have c0' : wr.cell? ⟨b, o + k * 2, none⟩ = _ := cell_kept (p := ⟨b, o + (k * 2 + 0), none⟩) hb hS (hc 0 _ rfl)
  have c1' : wr.cell? ⟨b, o + k * 2 + 1, none⟩ = _ := cell_kept (p := ⟨b, o + (k * 2 + 1), none⟩) hb hS (hc 1 _ rfl)
  exact ⟨x, b, o, hx, hd, hm, hA, cell_lt (hc 0 _ rfl), hS, c0', c1', hR', hrest⟩
theorem rdPair {w : World} : Rd Tryz.prog w 56 rPair := by
  intro H enc base spare held fuel cs x h hz
  obtain ⟨hl, n, hf⟩ := rd_fields Tryz.underlying56 (by kernel_rfl) (by kernel_rfl) h hz
  match cs, hl with
  | [c0, c1], _ =>
    obtain ⟨y0, t0, z0⟩ := hf 0 _ rfl
    obtain ⟨a0, (e0 : c0 = _), b0⟩ := rd1_str Tryz.underlying9 t0 z0
    obtain ⟨y1, t1, z1⟩ := hf 1 _ rfl
    obtain ⟨a1, (e1 : c1 = _), b1⟩ := rd1_str Tryz.underlying9 t1 z1
    subst e0 e1
    exact ⟨⟨a0, a1⟩, ⟨rfl, b0, b1⟩⟩

structure At where
  name : ByteArray
  seq : Int

def rAt : Rp At := fun S w cs x => cs = [.string x.name, .int .i64 x.seq] ∧ x.name.size ≤ 140737488355328 ∧ I64 x.seq
theorem rAt_len {S : Nat → Prop} {w : World} {cs : List Value} {x : At} (h : rAt S w cs x) : cs.length = 2 := by
  obtain ⟨rfl, c0, c1⟩ := h
  rfl
theorem rAt_keep {S S' : Nat → Prop} {w w' : World} {cs : List Value} {x : At} (h : rAt S w cs x) (k : Kept S S' w w') : rAt S' w' cs x := by
  obtain ⟨e, c0, c1⟩ := h
  exact ⟨e, c0, c1⟩
theorem rAt_one {S : Nat → Prop} {w : World} {cs : List Value} {x : At} (h : rAt S w cs x) : ∀ u ∈ cs, u.oneCell' = true := by
  obtain ⟨e, c0, c1⟩ := h
  intro u hu
  rw [e] at hu
  simp only [List.mem_cons, List.not_mem_nil, or_false] at hu
  rcases hu with rfl | rfl <;> rfl
theorem rAt_ok : RpOk 2 rAt := ⟨rAt_len, rAt_keep, rAt_one⟩
theorem open_At {S : Nat → Prop} {w : World} {cs : List Value} {x : At} (h : rAt S w cs x) : cs = [.string x.name, .int .i64 x.seq] ∧ x.name.size ≤ 140737488355328 ∧ I64 x.seq := by
  obtain ⟨e, c0, c1⟩ := h
  exact ⟨e, c0, c1⟩
theorem get_At {S S' : Nat → Prop} {w wr : World} {A : Option Addr} {l : List At} {k : Nat} (s : SlAt 2 rAt S w A l) (hk : k < l.length) (hb : Kept S S' w wr) :
    ∃ x b o, l[k]? = some x ∧ l.drop k = x :: l.drop (k + 1) ∧ x ∈ l ∧ A = some ⟨b, o, none⟩ ∧ b < w.heap.size ∧ S b ∧ wr.cell? ⟨b, o + k * 2, none⟩ = some (.string x.name) ∧ wr.cell? ⟨b, o + k * 2 + 1, none⟩ = some (.int .i64 x.seq) ∧ rAt S' wr [.string x.name, .int .i64 x.seq] x ∧ x.name.size ≤ 140737488355328 ∧ I64 x.seq := by
  obtain ⟨x, hx, hd, hm⟩ := at_k hk
  obtain ⟨b, o, ys, hA, hS, _, hc, hR⟩ := s k _ hx
  have hR' := rAt_keep hR hb
  obtain ⟨e, hrest⟩ := open_At hR'
  subst e
  have c0' : wr.cell? ⟨b, o + k * 2, none⟩ = _ := cell_kept (p := ⟨b, o + (k * 2 + 0), none⟩) hb hS (hc 0 _ rfl)
  have c1' : wr.cell? ⟨b, o + k * 2 + 1, none⟩ = _ := cell_kept (p := ⟨b, o + (k * 2 + 1), none⟩) hb hS (hc 1 _ rfl)
  exact ⟨x, b, o, hx, hd, hm, hA, cell_lt (hc 0 _ rfl), hS, c0', c1', hR', hrest⟩
theorem rdAt {w : World} : Rd Tryz.prog w 65 rAt := by
  intro H enc base spare held fuel cs x h hz
  obtain ⟨hl, n, hf⟩ := rd_fields Tryz.underlying65 (by kernel_rfl) (by kernel_rfl) h hz
  match cs, hl with
  | [c0, c1], _ =>
    obtain ⟨y0, t0, z0⟩ := hf 0 _ rfl
    obtain ⟨a0, (e0 : c0 = _), b0⟩ := rd1_str Tryz.underlying9 t0 z0
    obtain ⟨y1, t1, z1⟩ := hf 1 _ rfl
    obtain ⟨a1, (e1 : c1 = _), b1⟩ := rd1_int Tryz.underlying3 t1 z1
    subst e0 e1
    exact ⟨⟨a0, a1⟩, ⟨rfl, b0, b1⟩⟩

structure Member where
  name : ByteArray
  role : Int

def rMember : Rp Member := fun S w cs x => cs = [.string x.name, .int .i64 x.role] ∧ x.name.size ≤ 140737488355328 ∧ I64 x.role
theorem rMember_len {S : Nat → Prop} {w : World} {cs : List Value} {x : Member} (h : rMember S w cs x) : cs.length = 2 := by
  obtain ⟨rfl, c0, c1⟩ := h
  rfl
theorem rMember_keep {S S' : Nat → Prop} {w w' : World} {cs : List Value} {x : Member} (h : rMember S w cs x) (k : Kept S S' w w') : rMember S' w' cs x := by
  obtain ⟨e, c0, c1⟩ := h
  exact ⟨e, c0, c1⟩
theorem rMember_one {S : Nat → Prop} {w : World} {cs : List Value} {x : Member} (h : rMember S w cs x) : ∀ u ∈ cs, u.oneCell' = true := by
  obtain ⟨e, c0, c1⟩ := h
  intro u hu
  rw [e] at hu
  simp only [List.mem_cons, List.not_mem_nil, or_false] at hu
  rcases hu with rfl | rfl <;> rfl
theorem rMember_ok : RpOk 2 rMember := ⟨rMember_len, rMember_keep, rMember_one⟩
theorem open_Member {S : Nat → Prop} {w : World} {cs : List Value} {x : Member} (h : rMember S w cs x) : cs = [.string x.name, .int .i64 x.role] ∧ x.name.size ≤ 140737488355328 ∧ I64 x.role := by
  obtain ⟨e, c0, c1⟩ := h
  exact ⟨e, c0, c1⟩
theorem get_Member {S S' : Nat → Prop} {w wr : World} {A : Option Addr} {l : List Member} {k : Nat} (s : SlAt 2 rMember S w A l) (hk : k < l.length) (hb : Kept S S' w wr) :
    ∃ x b o, l[k]? = some x ∧ l.drop k = x :: l.drop (k + 1) ∧ x ∈ l ∧ A = some ⟨b, o, none⟩ ∧ b < w.heap.size ∧ S b ∧ wr.cell? ⟨b, o + k * 2, none⟩ = some (.string x.name) ∧ wr.cell? ⟨b, o + k * 2 + 1, none⟩ = some (.int .i64 x.role) ∧ rMember S' wr [.string x.name, .int .i64 x.role] x ∧ x.name.size ≤ 140737488355328 ∧ I64 x.role := by
  obtain ⟨x, hx, hd, hm⟩ := at_k hk
  obtain ⟨b, o, ys, hA, hS, _, hc, hR⟩ := s k _ hx
  have hR' := rMember_keep hR hb
  obtain ⟨e, hrest⟩ := open_Member hR'
  subst e
  have c0' : wr.cell? ⟨b, o + k * 2, none⟩ = _ := cell_kept (p := ⟨b, o + (k * 2 + 0), none⟩) hb hS (hc 0 _ rfl)
  have c1' : wr.cell? ⟨b, o + k * 2 + 1, none⟩ = _ := cell_kept (p := ⟨b, o + (k * 2 + 1), none⟩) hb hS (hc 1 _ rfl)
  exact ⟨x, b, o, hx, hd, hm, hA, cell_lt (hc 0 _ rfl), hS, c0', c1', hR', hrest⟩
theorem rdMember {w : World} : Rd Tryz.prog w 79 rMember := by
  intro H enc base spare held fuel cs x h hz
  obtain ⟨hl, n, hf⟩ := rd_fields Tryz.underlying79 (by kernel_rfl) (by kernel_rfl) h hz
  match cs, hl with
  | [c0, c1], _ =>
    obtain ⟨y0, t0, z0⟩ := hf 0 _ rfl
    obtain ⟨a0, (e0 : c0 = _), b0⟩ := rd1_str Tryz.underlying9 t0 z0
    obtain ⟨y1, t1, z1⟩ := hf 1 _ rfl
    obtain ⟨a1, (e1 : c1 = _), b1⟩ := rd1_int Tryz.underlying3 t1 z1
    subst e0 e1
    exact ⟨⟨a0, a1⟩, ⟨rfl, b0, b1⟩⟩

structure Manifest where
  folder : ByteArray
  seq : Int
  prev : List Int
  parent : ByteArray
  members : List Member
  cut : Int
  gone : Bool
  who : ByteArray

def rManifest : Rp Manifest := fun S w cs x => ∃ v2 v4, cs = [.string x.folder, .int .i64 x.seq, v2, .string x.parent, v4, .int .i64 x.cut, .bool x.gone, .string x.who] ∧ x.folder.size ≤ 140737488355328 ∧ I64 x.seq ∧ Sl 1 rByte S w v2 x.prev ∧ x.parent.size ≤ 140737488355328 ∧ Sl 2 rMember S w v4 x.members ∧ I64 x.cut ∧ x.who.size ≤ 140737488355328
theorem rManifest_len {S : Nat → Prop} {w : World} {cs : List Value} {x : Manifest} (h : rManifest S w cs x) : cs.length = 8 := by
  obtain ⟨v2, v4, rfl, c0, c1, c2, c3, c4, c5, c6⟩ := h
  rfl
theorem rManifest_keep {S S' : Nat → Prop} {w w' : World} {cs : List Value} {x : Manifest} (h : rManifest S w cs x) (k : Kept S S' w w') : rManifest S' w' cs x := by
  obtain ⟨v2, v4, e, c0, c1, c2, c3, c4, c5, c6⟩ := h
  exact ⟨v2, v4, e, c0, c1, c2.keep rByte_ok (by decide) k, c3, c4.keep rMember_ok (by decide) k, c5, c6⟩
theorem rManifest_one {S : Nat → Prop} {w : World} {cs : List Value} {x : Manifest} (h : rManifest S w cs x) : ∀ u ∈ cs, u.oneCell' = true := by
  obtain ⟨v2, v4, e, c0, c1, c2, c3, c4, c5, c6⟩ := h
  obtain ⟨A2, k2, rfl, _⟩ := c2
  obtain ⟨A4, k4, rfl, _⟩ := c4
  intro u hu
  rw [e] at hu
  simp only [List.mem_cons, List.not_mem_nil, or_false] at hu
  rcases hu with rfl | rfl | rfl | rfl | rfl | rfl | rfl | rfl <;> rfl
theorem rManifest_ok : RpOk 8 rManifest := ⟨rManifest_len, rManifest_keep, rManifest_one⟩
theorem open_Manifest {S : Nat → Prop} {w : World} {cs : List Value} {x : Manifest} (h : rManifest S w cs x) : ∃ A2 c2 A4 c4, cs = [.string x.folder, .int .i64 x.seq, .slice A2 x.prev.length c2, .string x.parent, .slice A4 x.members.length c4, .int .i64 x.cut, .bool x.gone, .string x.who] ∧ x.folder.size ≤ 140737488355328 ∧ I64 x.seq ∧ x.prev.length ≤ c2 ∧ c2 ≤ 9223372036854775807 ∧ x.prev.length ≤ 140737488355328 ∧ SlAt 1 rByte S w A2 x.prev ∧ x.parent.size ≤ 140737488355328 ∧ x.members.length ≤ c4 ∧ c4 ≤ 9223372036854775807 ∧ x.members.length ≤ 140737488355328 ∧ SlAt 2 rMember S w A4 x.members ∧ I64 x.cut ∧ x.who.size ≤ 140737488355328 := by
  obtain ⟨v2, v4, e, c0, c1, c2, c3, c4, c5, c6⟩ := h
  obtain ⟨A2, k2, rfl, l2, m2, n2, s2⟩ := c2
  obtain ⟨A4, k4, rfl, l4, m4, n4, s4⟩ := c4
  exact ⟨A2, k2, A4, k4, e, c0, c1, l2, (by simpa [maxLen] using m2), n2, s2, c3, l4, (by simpa [maxLen] using m4), n4, s4, c5, c6⟩
theorem get_Manifest {S S' : Nat → Prop} {w wr : World} {A : Option Addr} {l : List Manifest} {k : Nat} (s : SlAt 8 rManifest S w A l) (hk : k < l.length) (hb : Kept S S' w wr) :
    ∃ x b o A2 c2 A4 c4, l[k]? = some x ∧ l.drop k = x :: l.drop (k + 1) ∧ x ∈ l ∧ A = some ⟨b, o, none⟩ ∧ b < w.heap.size ∧ S b ∧ wr.cell? ⟨b, o + k * 8, none⟩ = some (.string x.folder) ∧ wr.cell? ⟨b, o + k * 8 + 1, none⟩ = some (.int .i64 x.seq) ∧ wr.cell? ⟨b, o + k * 8 + 2, none⟩ = some (.slice A2 x.prev.length c2) ∧ wr.cell? ⟨b, o + k * 8 + 3, none⟩ = some (.string x.parent) ∧ wr.cell? ⟨b, o + k * 8 + 4, none⟩ = some (.slice A4 x.members.length c4) ∧ wr.cell? ⟨b, o + k * 8 + 5, none⟩ = some (.int .i64 x.cut) ∧ wr.cell? ⟨b, o + k * 8 + 6, none⟩ = some (.bool x.gone) ∧ wr.cell? ⟨b, o + k * 8 + 7, none⟩ = some (.string x.who) ∧ rManifest S' wr [.string x.folder, .int .i64 x.seq, .slice A2 x.prev.length c2, .string x.parent, .slice A4 x.members.length c4, .int .i64 x.cut, .bool x.gone, .string x.who] x ∧ x.folder.size ≤ 140737488355328 ∧ I64 x.seq ∧ x.prev.length ≤ c2 ∧ c2 ≤ 9223372036854775807 ∧ x.prev.length ≤ 140737488355328 ∧ SlAt 1 rByte S' wr A2 x.prev ∧ x.parent.size ≤ 140737488355328 ∧ x.members.length ≤ c4 ∧ c4 ≤ 9223372036854775807 ∧ x.members.length ≤ 140737488355328 ∧ SlAt 2 rMember S' wr A4 x.members ∧ I64 x.cut ∧ x.who.size ≤ 140737488355328 := by
  obtain ⟨x, hx, hd, hm⟩ := at_k hk
  obtain ⟨b, o, ys, hA, hS, _, hc, hR⟩ := s k _ hx
  have hR' := rManifest_keep hR hb
  obtain ⟨A2, c2, A4, c4, e, hrest⟩ := open_Manifest hR'
  subst e
  have c0' : wr.cell? ⟨b, o + k * 8, none⟩ = _ := cell_kept (p := ⟨b, o + (k * 8 + 0), none⟩) hb hS (hc 0 _ rfl)
  have c1' : wr.cell? ⟨b, o + k * 8 + 1, none⟩ = _ := cell_kept (p := ⟨b, o + (k * 8 + 1), none⟩) hb hS (hc 1 _ rfl)
  have c2' : wr.cell? ⟨b, o + k * 8 + 2, none⟩ = _ := cell_kept (p := ⟨b, o + (k * 8 + 2), none⟩) hb hS (hc 2 _ rfl)
  have c3' : wr.cell? ⟨b, o + k * 8 + 3, none⟩ = _ := cell_kept (p := ⟨b, o + (k * 8 + 3), none⟩) hb hS (hc 3 _ rfl)
  have c4' : wr.cell? ⟨b, o + k * 8 + 4, none⟩ = _ := cell_kept (p := ⟨b, o + (k * 8 + 4), none⟩) hb hS (hc 4 _ rfl)
  have c5' : wr.cell? ⟨b, o + k * 8 + 5, none⟩ = _ := cell_kept (p := ⟨b, o + (k * 8 + 5), none⟩) hb hS (hc 5 _ rfl)
  have c6' : wr.cell? ⟨b, o + k * 8 + 6, none⟩ = _ := cell_kept (p := ⟨b, o + (k * 8 + 6), none⟩) hb hS (hc 6 _ rfl)
  have c7' : wr.cell? ⟨b, o + k * 8 + 7, none⟩ = _ := cell_kept (p := ⟨b, o + (k * 8 + 7), none⟩) hb hS (hc 7 _ rfl)
  exact ⟨x, b, o, A2, c2, A4, c4, hx, hd, hm, hA, cell_lt (hc 0 _ rfl), hS, c0', c1', c2', c3', c4', c5', c6', c7', hR', hrest⟩
theorem rdManifest {w : World} : Rd Tryz.prog w 43 rManifest := by
  intro H enc base spare held fuel cs x h hz
  obtain ⟨hl, n, hf⟩ := rd_fields Tryz.underlying43 (by kernel_rfl) (by kernel_rfl) h hz
  match cs, hl with
  | [c0, c1, c2, c3, c4, c5, c6, c7], _ =>
    obtain ⟨y0, t0, z0⟩ := hf 0 _ rfl
    obtain ⟨a0, (e0 : c0 = _), b0⟩ := rd1_str Tryz.underlying9 t0 z0
    obtain ⟨y1, t1, z1⟩ := hf 1 _ rfl
    obtain ⟨a1, (e1 : c1 = _), b1⟩ := rd1_int Tryz.underlying3 t1 z1
    obtain ⟨y2, t2, z2⟩ := hf 2 _ rfl
    obtain ⟨a2, b2⟩ := rd1_sl (rd_slice Tryz.underlying40 (by kernel_rfl) (of_decide_eq_true (by kernel_rfl)) (by decide) (rd_byte Tryz.underlying5) rByte_ok.len) t2 z2
    have b2' : Sl 1 rByte _ w c2 a2 := b2
    obtain ⟨y3, t3, z3⟩ := hf 3 _ rfl
    obtain ⟨a3, (e3 : c3 = _), b3⟩ := rd1_str Tryz.underlying9 t3 z3
    obtain ⟨y4, t4, z4⟩ := hf 4 _ rfl
    obtain ⟨a4, b4⟩ := rd1_sl (rd_slice Tryz.underlying41 (by kernel_rfl) (of_decide_eq_true (by kernel_rfl)) (by decide) rdMember rMember_len) t4 z4
    have b4' : Sl 2 rMember _ w c4 a4 := b4
    obtain ⟨y5, t5, z5⟩ := hf 5 _ rfl
    obtain ⟨a5, (e5 : c5 = _), b5⟩ := rd1_int Tryz.underlying3 t5 z5
    obtain ⟨y6, t6, z6⟩ := hf 6 _ rfl
    obtain ⟨a6, (e6 : c6 = _)⟩ := rd1_bool Tryz.underlying4 t6 z6
    obtain ⟨y7, t7, z7⟩ := hf 7 _ rfl
    obtain ⟨a7, (e7 : c7 = _), b7⟩ := rd1_str Tryz.underlying9 t7 z7
    subst e0 e1 e3 e5 e6 e7
    exact ⟨⟨a0, a1, a2, a3, a4, a5, a6, a7⟩, ⟨c2, c4, rfl, b0, b1, b2', b3, b4', b5, b7⟩⟩

structure Epoch where
  place : Int
  frm : Int
  seq : Int
  chain : List At
  who : ByteArray

def rEpoch : Rp Epoch := fun S w cs x => ∃ v3, cs = [.int .i64 x.place, .int .i64 x.frm, .int .i64 x.seq, v3, .string x.who] ∧ I64 x.place ∧ I64 x.frm ∧ I64 x.seq ∧ Sl 2 rAt S w v3 x.chain ∧ x.who.size ≤ 140737488355328
theorem rEpoch_len {S : Nat → Prop} {w : World} {cs : List Value} {x : Epoch} (h : rEpoch S w cs x) : cs.length = 5 := by
  obtain ⟨v3, rfl, c0, c1, c2, c3, c4⟩ := h
  rfl
theorem rEpoch_keep {S S' : Nat → Prop} {w w' : World} {cs : List Value} {x : Epoch} (h : rEpoch S w cs x) (k : Kept S S' w w') : rEpoch S' w' cs x := by
  obtain ⟨v3, e, c0, c1, c2, c3, c4⟩ := h
  exact ⟨v3, e, c0, c1, c2, c3.keep rAt_ok (by decide) k, c4⟩
theorem rEpoch_one {S : Nat → Prop} {w : World} {cs : List Value} {x : Epoch} (h : rEpoch S w cs x) : ∀ u ∈ cs, u.oneCell' = true := by
  obtain ⟨v3, e, c0, c1, c2, c3, c4⟩ := h
  obtain ⟨A3, k3, rfl, _⟩ := c3
  intro u hu
  rw [e] at hu
  simp only [List.mem_cons, List.not_mem_nil, or_false] at hu
  rcases hu with rfl | rfl | rfl | rfl | rfl <;> rfl
theorem rEpoch_ok : RpOk 5 rEpoch := ⟨rEpoch_len, rEpoch_keep, rEpoch_one⟩
theorem open_Epoch {S : Nat → Prop} {w : World} {cs : List Value} {x : Epoch} (h : rEpoch S w cs x) : ∃ A3 c3, cs = [.int .i64 x.place, .int .i64 x.frm, .int .i64 x.seq, .slice A3 x.chain.length c3, .string x.who] ∧ I64 x.place ∧ I64 x.frm ∧ I64 x.seq ∧ x.chain.length ≤ c3 ∧ c3 ≤ 9223372036854775807 ∧ x.chain.length ≤ 140737488355328 ∧ SlAt 2 rAt S w A3 x.chain ∧ x.who.size ≤ 140737488355328 := by
  obtain ⟨v3, e, c0, c1, c2, c3, c4⟩ := h
  obtain ⟨A3, k3, rfl, l3, m3, n3, s3⟩ := c3
  exact ⟨A3, k3, e, c0, c1, c2, l3, (by simpa [maxLen] using m3), n3, s3, c4⟩
theorem get_Epoch {S S' : Nat → Prop} {w wr : World} {A : Option Addr} {l : List Epoch} {k : Nat} (s : SlAt 5 rEpoch S w A l) (hk : k < l.length) (hb : Kept S S' w wr) :
    ∃ x b o A3 c3, l[k]? = some x ∧ l.drop k = x :: l.drop (k + 1) ∧ x ∈ l ∧ A = some ⟨b, o, none⟩ ∧ b < w.heap.size ∧ S b ∧ wr.cell? ⟨b, o + k * 5, none⟩ = some (.int .i64 x.place) ∧ wr.cell? ⟨b, o + k * 5 + 1, none⟩ = some (.int .i64 x.frm) ∧ wr.cell? ⟨b, o + k * 5 + 2, none⟩ = some (.int .i64 x.seq) ∧ wr.cell? ⟨b, o + k * 5 + 3, none⟩ = some (.slice A3 x.chain.length c3) ∧ wr.cell? ⟨b, o + k * 5 + 4, none⟩ = some (.string x.who) ∧ rEpoch S' wr [.int .i64 x.place, .int .i64 x.frm, .int .i64 x.seq, .slice A3 x.chain.length c3, .string x.who] x ∧ I64 x.place ∧ I64 x.frm ∧ I64 x.seq ∧ x.chain.length ≤ c3 ∧ c3 ≤ 9223372036854775807 ∧ x.chain.length ≤ 140737488355328 ∧ SlAt 2 rAt S' wr A3 x.chain ∧ x.who.size ≤ 140737488355328 := by
  obtain ⟨x, hx, hd, hm⟩ := at_k hk
  obtain ⟨b, o, ys, hA, hS, _, hc, hR⟩ := s k _ hx
  have hR' := rEpoch_keep hR hb
  obtain ⟨A3, c3, e, hrest⟩ := open_Epoch hR'
  subst e
  have c0' : wr.cell? ⟨b, o + k * 5, none⟩ = _ := cell_kept (p := ⟨b, o + (k * 5 + 0), none⟩) hb hS (hc 0 _ rfl)
  have c1' : wr.cell? ⟨b, o + k * 5 + 1, none⟩ = _ := cell_kept (p := ⟨b, o + (k * 5 + 1), none⟩) hb hS (hc 1 _ rfl)
  have c2' : wr.cell? ⟨b, o + k * 5 + 2, none⟩ = _ := cell_kept (p := ⟨b, o + (k * 5 + 2), none⟩) hb hS (hc 2 _ rfl)
  have c3' : wr.cell? ⟨b, o + k * 5 + 3, none⟩ = _ := cell_kept (p := ⟨b, o + (k * 5 + 3), none⟩) hb hS (hc 3 _ rfl)
  have c4' : wr.cell? ⟨b, o + k * 5 + 4, none⟩ = _ := cell_kept (p := ⟨b, o + (k * 5 + 4), none⟩) hb hS (hc 4 _ rfl)
  exact ⟨x, b, o, A3, c3, hx, hd, hm, hA, cell_lt (hc 0 _ rfl), hS, c0', c1', c2', c3', c4', hR', hrest⟩
theorem rdEpoch {w : World} : Rd Tryz.prog w 81 rEpoch := by
  intro H enc base spare held fuel cs x h hz
  obtain ⟨hl, n, hf⟩ := rd_fields Tryz.underlying81 (by kernel_rfl) (by kernel_rfl) h hz
  match cs, hl with
  | [c0, c1, c2, c3, c4], _ =>
    obtain ⟨y0, t0, z0⟩ := hf 0 _ rfl
    obtain ⟨a0, (e0 : c0 = _), b0⟩ := rd1_int Tryz.underlying3 t0 z0
    obtain ⟨y1, t1, z1⟩ := hf 1 _ rfl
    obtain ⟨a1, (e1 : c1 = _), b1⟩ := rd1_int Tryz.underlying3 t1 z1
    obtain ⟨y2, t2, z2⟩ := hf 2 _ rfl
    obtain ⟨a2, (e2 : c2 = _), b2⟩ := rd1_int Tryz.underlying3 t2 z2
    obtain ⟨y3, t3, z3⟩ := hf 3 _ rfl
    obtain ⟨a3, b3⟩ := rd1_sl (rd_slice Tryz.underlying46 (by kernel_rfl) (of_decide_eq_true (by kernel_rfl)) (by decide) rdAt rAt_len) t3 z3
    have b3' : Sl 2 rAt _ w c3 a3 := b3
    obtain ⟨y4, t4, z4⟩ := hf 4 _ rfl
    obtain ⟨a4, (e4 : c4 = _), b4⟩ := rd1_str Tryz.underlying9 t4 z4
    subst e0 e1 e2 e4
    exact ⟨⟨a0, a1, a2, a3, a4⟩, ⟨c3, rfl, b0, b1, b2, b3', b4⟩⟩

structure Version where
  epoch : Int
  gone : Bool
  who : ByteArray
  data : List Int

def rVersion : Rp Version := fun S w cs x => ∃ v3, cs = [.int .i64 x.epoch, .bool x.gone, .string x.who, v3] ∧ I64 x.epoch ∧ x.who.size ≤ 140737488355328 ∧ Sl 1 rByte S w v3 x.data
theorem rVersion_len {S : Nat → Prop} {w : World} {cs : List Value} {x : Version} (h : rVersion S w cs x) : cs.length = 4 := by
  obtain ⟨v3, rfl, c0, c1, c2⟩ := h
  rfl
theorem rVersion_keep {S S' : Nat → Prop} {w w' : World} {cs : List Value} {x : Version} (h : rVersion S w cs x) (k : Kept S S' w w') : rVersion S' w' cs x := by
  obtain ⟨v3, e, c0, c1, c2⟩ := h
  exact ⟨v3, e, c0, c1, c2.keep rByte_ok (by decide) k⟩
theorem rVersion_one {S : Nat → Prop} {w : World} {cs : List Value} {x : Version} (h : rVersion S w cs x) : ∀ u ∈ cs, u.oneCell' = true := by
  obtain ⟨v3, e, c0, c1, c2⟩ := h
  obtain ⟨A3, k3, rfl, _⟩ := c2
  intro u hu
  rw [e] at hu
  simp only [List.mem_cons, List.not_mem_nil, or_false] at hu
  rcases hu with rfl | rfl | rfl | rfl <;> rfl
theorem rVersion_ok : RpOk 4 rVersion := ⟨rVersion_len, rVersion_keep, rVersion_one⟩
theorem open_Version {S : Nat → Prop} {w : World} {cs : List Value} {x : Version} (h : rVersion S w cs x) : ∃ A3 c3, cs = [.int .i64 x.epoch, .bool x.gone, .string x.who, .slice A3 x.data.length c3] ∧ I64 x.epoch ∧ x.who.size ≤ 140737488355328 ∧ x.data.length ≤ c3 ∧ c3 ≤ 9223372036854775807 ∧ x.data.length ≤ 140737488355328 ∧ SlAt 1 rByte S w A3 x.data := by
  obtain ⟨v3, e, c0, c1, c2⟩ := h
  obtain ⟨A3, k3, rfl, l3, m3, n3, s3⟩ := c2
  exact ⟨A3, k3, e, c0, c1, l3, (by simpa [maxLen] using m3), n3, s3⟩
theorem get_Version {S S' : Nat → Prop} {w wr : World} {A : Option Addr} {l : List Version} {k : Nat} (s : SlAt 4 rVersion S w A l) (hk : k < l.length) (hb : Kept S S' w wr) :
    ∃ x b o A3 c3, l[k]? = some x ∧ l.drop k = x :: l.drop (k + 1) ∧ x ∈ l ∧ A = some ⟨b, o, none⟩ ∧ b < w.heap.size ∧ S b ∧ wr.cell? ⟨b, o + k * 4, none⟩ = some (.int .i64 x.epoch) ∧ wr.cell? ⟨b, o + k * 4 + 1, none⟩ = some (.bool x.gone) ∧ wr.cell? ⟨b, o + k * 4 + 2, none⟩ = some (.string x.who) ∧ wr.cell? ⟨b, o + k * 4 + 3, none⟩ = some (.slice A3 x.data.length c3) ∧ rVersion S' wr [.int .i64 x.epoch, .bool x.gone, .string x.who, .slice A3 x.data.length c3] x ∧ I64 x.epoch ∧ x.who.size ≤ 140737488355328 ∧ x.data.length ≤ c3 ∧ c3 ≤ 9223372036854775807 ∧ x.data.length ≤ 140737488355328 ∧ SlAt 1 rByte S' wr A3 x.data := by
  obtain ⟨x, hx, hd, hm⟩ := at_k hk
  obtain ⟨b, o, ys, hA, hS, _, hc, hR⟩ := s k _ hx
  have hR' := rVersion_keep hR hb
  obtain ⟨A3, c3, e, hrest⟩ := open_Version hR'
  subst e
  have c0' : wr.cell? ⟨b, o + k * 4, none⟩ = _ := cell_kept (p := ⟨b, o + (k * 4 + 0), none⟩) hb hS (hc 0 _ rfl)
  have c1' : wr.cell? ⟨b, o + k * 4 + 1, none⟩ = _ := cell_kept (p := ⟨b, o + (k * 4 + 1), none⟩) hb hS (hc 1 _ rfl)
  have c2' : wr.cell? ⟨b, o + k * 4 + 2, none⟩ = _ := cell_kept (p := ⟨b, o + (k * 4 + 2), none⟩) hb hS (hc 2 _ rfl)
  have c3' : wr.cell? ⟨b, o + k * 4 + 3, none⟩ = _ := cell_kept (p := ⟨b, o + (k * 4 + 3), none⟩) hb hS (hc 3 _ rfl)
  exact ⟨x, b, o, A3, c3, hx, hd, hm, hA, cell_lt (hc 0 _ rfl), hS, c0', c1', c2', c3', hR', hrest⟩
theorem rdVersion {w : World} : Rd Tryz.prog w 97 rVersion := by
  intro H enc base spare held fuel cs x h hz
  obtain ⟨hl, n, hf⟩ := rd_fields Tryz.underlying97 (by kernel_rfl) (by kernel_rfl) h hz
  match cs, hl with
  | [c0, c1, c2, c3], _ =>
    obtain ⟨y0, t0, z0⟩ := hf 0 _ rfl
    obtain ⟨a0, (e0 : c0 = _), b0⟩ := rd1_int Tryz.underlying3 t0 z0
    obtain ⟨y1, t1, z1⟩ := hf 1 _ rfl
    obtain ⟨a1, (e1 : c1 = _)⟩ := rd1_bool Tryz.underlying4 t1 z1
    obtain ⟨y2, t2, z2⟩ := hf 2 _ rfl
    obtain ⟨a2, (e2 : c2 = _), b2⟩ := rd1_str Tryz.underlying9 t2 z2
    obtain ⟨y3, t3, z3⟩ := hf 3 _ rfl
    obtain ⟨a3, b3⟩ := rd1_sl (rd_slice Tryz.underlying40 (by kernel_rfl) (of_decide_eq_true (by kernel_rfl)) (by decide) (rd_byte Tryz.underlying5) rByte_ok.len) t3 z3
    have b3' : Sl 1 rByte _ w c3 a3 := b3
    subst e0 e1 e2
    exact ⟨⟨a0, a1, a2, a3⟩, ⟨c3, rfl, b0, b2, b3'⟩⟩

structure Item where
  name : ByteArray
  versions : List Version

def rItem : Rp Item := fun S w cs x => ∃ v1, cs = [.string x.name, v1] ∧ x.name.size ≤ 140737488355328 ∧ Sl 4 rVersion S w v1 x.versions
theorem rItem_len {S : Nat → Prop} {w : World} {cs : List Value} {x : Item} (h : rItem S w cs x) : cs.length = 2 := by
  obtain ⟨v1, rfl, c0, c1⟩ := h
  rfl
theorem rItem_keep {S S' : Nat → Prop} {w w' : World} {cs : List Value} {x : Item} (h : rItem S w cs x) (k : Kept S S' w w') : rItem S' w' cs x := by
  obtain ⟨v1, e, c0, c1⟩ := h
  exact ⟨v1, e, c0, c1.keep rVersion_ok (by decide) k⟩
theorem rItem_one {S : Nat → Prop} {w : World} {cs : List Value} {x : Item} (h : rItem S w cs x) : ∀ u ∈ cs, u.oneCell' = true := by
  obtain ⟨v1, e, c0, c1⟩ := h
  obtain ⟨A1, k1, rfl, _⟩ := c1
  intro u hu
  rw [e] at hu
  simp only [List.mem_cons, List.not_mem_nil, or_false] at hu
  rcases hu with rfl | rfl <;> rfl
theorem rItem_ok : RpOk 2 rItem := ⟨rItem_len, rItem_keep, rItem_one⟩
theorem open_Item {S : Nat → Prop} {w : World} {cs : List Value} {x : Item} (h : rItem S w cs x) : ∃ A1 c1, cs = [.string x.name, .slice A1 x.versions.length c1] ∧ x.name.size ≤ 140737488355328 ∧ x.versions.length ≤ c1 ∧ c1 ≤ 9223372036854775807 ∧ x.versions.length ≤ 140737488355328 ∧ SlAt 4 rVersion S w A1 x.versions := by
  obtain ⟨v1, e, c0, c1⟩ := h
  obtain ⟨A1, k1, rfl, l1, m1, n1, s1⟩ := c1
  exact ⟨A1, k1, e, c0, l1, (by simpa [maxLen] using m1), n1, s1⟩
theorem get_Item {S S' : Nat → Prop} {w wr : World} {A : Option Addr} {l : List Item} {k : Nat} (s : SlAt 2 rItem S w A l) (hk : k < l.length) (hb : Kept S S' w wr) :
    ∃ x b o A1 c1, l[k]? = some x ∧ l.drop k = x :: l.drop (k + 1) ∧ x ∈ l ∧ A = some ⟨b, o, none⟩ ∧ b < w.heap.size ∧ S b ∧ wr.cell? ⟨b, o + k * 2, none⟩ = some (.string x.name) ∧ wr.cell? ⟨b, o + k * 2 + 1, none⟩ = some (.slice A1 x.versions.length c1) ∧ rItem S' wr [.string x.name, .slice A1 x.versions.length c1] x ∧ x.name.size ≤ 140737488355328 ∧ x.versions.length ≤ c1 ∧ c1 ≤ 9223372036854775807 ∧ x.versions.length ≤ 140737488355328 ∧ SlAt 4 rVersion S' wr A1 x.versions := by
  obtain ⟨x, hx, hd, hm⟩ := at_k hk
  obtain ⟨b, o, ys, hA, hS, _, hc, hR⟩ := s k _ hx
  have hR' := rItem_keep hR hb
  obtain ⟨A1, c1, e, hrest⟩ := open_Item hR'
  subst e
  have c0' : wr.cell? ⟨b, o + k * 2, none⟩ = _ := cell_kept (p := ⟨b, o + (k * 2 + 0), none⟩) hb hS (hc 0 _ rfl)
  have c1' : wr.cell? ⟨b, o + k * 2 + 1, none⟩ = _ := cell_kept (p := ⟨b, o + (k * 2 + 1), none⟩) hb hS (hc 1 _ rfl)
  exact ⟨x, b, o, A1, c1, hx, hd, hm, hA, cell_lt (hc 0 _ rfl), hS, c0', c1', hR', hrest⟩
theorem rdItem {w : World} : Rd Tryz.prog w 84 rItem := by
  intro H enc base spare held fuel cs x h hz
  obtain ⟨hl, n, hf⟩ := rd_fields Tryz.underlying84 (by kernel_rfl) (by kernel_rfl) h hz
  match cs, hl with
  | [c0, c1], _ =>
    obtain ⟨y0, t0, z0⟩ := hf 0 _ rfl
    obtain ⟨a0, (e0 : c0 = _), b0⟩ := rd1_str Tryz.underlying9 t0 z0
    obtain ⟨y1, t1, z1⟩ := hf 1 _ rfl
    obtain ⟨a1, b1⟩ := rd1_sl (rd_slice Tryz.underlying82 (by kernel_rfl) (of_decide_eq_true (by kernel_rfl)) (by decide) rdVersion rVersion_len) t1 z1
    have b1' : Sl 4 rVersion _ w c1 a1 := b1
    subst e0
    exact ⟨⟨a0, a1⟩, ⟨c1, rfl, b0, b1'⟩⟩

structure Wrap where
  name : ByteArray
  epoch : Int
  seed : Bool

def rWrap : Rp Wrap := fun S w cs x => cs = [.string x.name, .int .i64 x.epoch, .bool x.seed] ∧ x.name.size ≤ 140737488355328 ∧ I64 x.epoch
theorem rWrap_len {S : Nat → Prop} {w : World} {cs : List Value} {x : Wrap} (h : rWrap S w cs x) : cs.length = 3 := by
  obtain ⟨rfl, c0, c1⟩ := h
  rfl
theorem rWrap_keep {S S' : Nat → Prop} {w w' : World} {cs : List Value} {x : Wrap} (h : rWrap S w cs x) (k : Kept S S' w w') : rWrap S' w' cs x := by
  obtain ⟨e, c0, c1⟩ := h
  exact ⟨e, c0, c1⟩
theorem rWrap_one {S : Nat → Prop} {w : World} {cs : List Value} {x : Wrap} (h : rWrap S w cs x) : ∀ u ∈ cs, u.oneCell' = true := by
  obtain ⟨e, c0, c1⟩ := h
  intro u hu
  rw [e] at hu
  simp only [List.mem_cons, List.not_mem_nil, or_false] at hu
  rcases hu with rfl | rfl | rfl <;> rfl
theorem rWrap_ok : RpOk 3 rWrap := ⟨rWrap_len, rWrap_keep, rWrap_one⟩
theorem open_Wrap {S : Nat → Prop} {w : World} {cs : List Value} {x : Wrap} (h : rWrap S w cs x) : cs = [.string x.name, .int .i64 x.epoch, .bool x.seed] ∧ x.name.size ≤ 140737488355328 ∧ I64 x.epoch := by
  obtain ⟨e, c0, c1⟩ := h
  exact ⟨e, c0, c1⟩
theorem get_Wrap {S S' : Nat → Prop} {w wr : World} {A : Option Addr} {l : List Wrap} {k : Nat} (s : SlAt 3 rWrap S w A l) (hk : k < l.length) (hb : Kept S S' w wr) :
    ∃ x b o, l[k]? = some x ∧ l.drop k = x :: l.drop (k + 1) ∧ x ∈ l ∧ A = some ⟨b, o, none⟩ ∧ b < w.heap.size ∧ S b ∧ wr.cell? ⟨b, o + k * 3, none⟩ = some (.string x.name) ∧ wr.cell? ⟨b, o + k * 3 + 1, none⟩ = some (.int .i64 x.epoch) ∧ wr.cell? ⟨b, o + k * 3 + 2, none⟩ = some (.bool x.seed) ∧ rWrap S' wr [.string x.name, .int .i64 x.epoch, .bool x.seed] x ∧ x.name.size ≤ 140737488355328 ∧ I64 x.epoch := by
  obtain ⟨x, hx, hd, hm⟩ := at_k hk
  obtain ⟨b, o, ys, hA, hS, _, hc, hR⟩ := s k _ hx
  have hR' := rWrap_keep hR hb
  obtain ⟨e, hrest⟩ := open_Wrap hR'
  subst e
  have c0' : wr.cell? ⟨b, o + k * 3, none⟩ = _ := cell_kept (p := ⟨b, o + (k * 3 + 0), none⟩) hb hS (hc 0 _ rfl)
  have c1' : wr.cell? ⟨b, o + k * 3 + 1, none⟩ = _ := cell_kept (p := ⟨b, o + (k * 3 + 1), none⟩) hb hS (hc 1 _ rfl)
  have c2' : wr.cell? ⟨b, o + k * 3 + 2, none⟩ = _ := cell_kept (p := ⟨b, o + (k * 3 + 2), none⟩) hb hS (hc 2 _ rfl)
  exact ⟨x, b, o, hx, hd, hm, hA, cell_lt (hc 0 _ rfl), hS, c0', c1', c2', hR', hrest⟩
theorem rdWrap {w : World} : Rd Tryz.prog w 86 rWrap := by
  intro H enc base spare held fuel cs x h hz
  obtain ⟨hl, n, hf⟩ := rd_fields Tryz.underlying86 (by kernel_rfl) (by kernel_rfl) h hz
  match cs, hl with
  | [c0, c1, c2], _ =>
    obtain ⟨y0, t0, z0⟩ := hf 0 _ rfl
    obtain ⟨a0, (e0 : c0 = _), b0⟩ := rd1_str Tryz.underlying9 t0 z0
    obtain ⟨y1, t1, z1⟩ := hf 1 _ rfl
    obtain ⟨a1, (e1 : c1 = _), b1⟩ := rd1_int Tryz.underlying3 t1 z1
    obtain ⟨y2, t2, z2⟩ := hf 2 _ rfl
    obtain ⟨a2, (e2 : c2 = _)⟩ := rd1_bool Tryz.underlying4 t2 z2
    subst e0 e1 e2
    exact ⟨⟨a0, a1, a2⟩, ⟨rfl, b0, b1⟩⟩

structure Link where
  epoch : Int
  to : ByteArray
  seq : Int

def rLink : Rp Link := fun S w cs x => cs = [.int .i64 x.epoch, .string x.to, .int .i64 x.seq] ∧ I64 x.epoch ∧ x.to.size ≤ 140737488355328 ∧ I64 x.seq
theorem rLink_len {S : Nat → Prop} {w : World} {cs : List Value} {x : Link} (h : rLink S w cs x) : cs.length = 3 := by
  obtain ⟨rfl, c0, c1, c2⟩ := h
  rfl
theorem rLink_keep {S S' : Nat → Prop} {w w' : World} {cs : List Value} {x : Link} (h : rLink S w cs x) (k : Kept S S' w w') : rLink S' w' cs x := by
  obtain ⟨e, c0, c1, c2⟩ := h
  exact ⟨e, c0, c1, c2⟩
theorem rLink_one {S : Nat → Prop} {w : World} {cs : List Value} {x : Link} (h : rLink S w cs x) : ∀ u ∈ cs, u.oneCell' = true := by
  obtain ⟨e, c0, c1, c2⟩ := h
  intro u hu
  rw [e] at hu
  simp only [List.mem_cons, List.not_mem_nil, or_false] at hu
  rcases hu with rfl | rfl | rfl <;> rfl
theorem rLink_ok : RpOk 3 rLink := ⟨rLink_len, rLink_keep, rLink_one⟩
theorem open_Link {S : Nat → Prop} {w : World} {cs : List Value} {x : Link} (h : rLink S w cs x) : cs = [.int .i64 x.epoch, .string x.to, .int .i64 x.seq] ∧ I64 x.epoch ∧ x.to.size ≤ 140737488355328 ∧ I64 x.seq := by
  obtain ⟨e, c0, c1, c2⟩ := h
  exact ⟨e, c0, c1, c2⟩
theorem get_Link {S S' : Nat → Prop} {w wr : World} {A : Option Addr} {l : List Link} {k : Nat} (s : SlAt 3 rLink S w A l) (hk : k < l.length) (hb : Kept S S' w wr) :
    ∃ x b o, l[k]? = some x ∧ l.drop k = x :: l.drop (k + 1) ∧ x ∈ l ∧ A = some ⟨b, o, none⟩ ∧ b < w.heap.size ∧ S b ∧ wr.cell? ⟨b, o + k * 3, none⟩ = some (.int .i64 x.epoch) ∧ wr.cell? ⟨b, o + k * 3 + 1, none⟩ = some (.string x.to) ∧ wr.cell? ⟨b, o + k * 3 + 2, none⟩ = some (.int .i64 x.seq) ∧ rLink S' wr [.int .i64 x.epoch, .string x.to, .int .i64 x.seq] x ∧ I64 x.epoch ∧ x.to.size ≤ 140737488355328 ∧ I64 x.seq := by
  obtain ⟨x, hx, hd, hm⟩ := at_k hk
  obtain ⟨b, o, ys, hA, hS, _, hc, hR⟩ := s k _ hx
  have hR' := rLink_keep hR hb
  obtain ⟨e, hrest⟩ := open_Link hR'
  subst e
  have c0' : wr.cell? ⟨b, o + k * 3, none⟩ = _ := cell_kept (p := ⟨b, o + (k * 3 + 0), none⟩) hb hS (hc 0 _ rfl)
  have c1' : wr.cell? ⟨b, o + k * 3 + 1, none⟩ = _ := cell_kept (p := ⟨b, o + (k * 3 + 1), none⟩) hb hS (hc 1 _ rfl)
  have c2' : wr.cell? ⟨b, o + k * 3 + 2, none⟩ = _ := cell_kept (p := ⟨b, o + (k * 3 + 2), none⟩) hb hS (hc 2 _ rfl)
  exact ⟨x, b, o, hx, hd, hm, hA, cell_lt (hc 0 _ rfl), hS, c0', c1', c2', hR', hrest⟩
theorem rdLink {w : World} : Rd Tryz.prog w 88 rLink := by
  intro H enc base spare held fuel cs x h hz
  obtain ⟨hl, n, hf⟩ := rd_fields Tryz.underlying88 (by kernel_rfl) (by kernel_rfl) h hz
  match cs, hl with
  | [c0, c1, c2], _ =>
    obtain ⟨y0, t0, z0⟩ := hf 0 _ rfl
    obtain ⟨a0, (e0 : c0 = _), b0⟩ := rd1_int Tryz.underlying3 t0 z0
    obtain ⟨y1, t1, z1⟩ := hf 1 _ rfl
    obtain ⟨a1, (e1 : c1 = _), b1⟩ := rd1_str Tryz.underlying9 t1 z1
    obtain ⟨y2, t2, z2⟩ := hf 2 _ rfl
    obtain ⟨a2, (e2 : c2 = _), b2⟩ := rd1_int Tryz.underlying3 t2 z2
    subst e0 e1 e2
    exact ⟨⟨a0, a1, a2⟩, ⟨rfl, b0, b1, b2⟩⟩

structure Folder where
  name : ByteArray
  turn : Int
  manifests : List Manifest
  epochs : List Epoch
  items : List Item
  wraps : List Wrap
  links : List Link

def rFolder : Rp Folder := fun S w cs x => ∃ v2 v3 v4 v5 v6, cs = [.string x.name, .int .i64 x.turn, v2, v3, v4, v5, v6] ∧ x.name.size ≤ 140737488355328 ∧ I64 x.turn ∧ Sl 8 rManifest S w v2 x.manifests ∧ Sl 5 rEpoch S w v3 x.epochs ∧ Sl 2 rItem S w v4 x.items ∧ Sl 3 rWrap S w v5 x.wraps ∧ Sl 3 rLink S w v6 x.links
theorem rFolder_len {S : Nat → Prop} {w : World} {cs : List Value} {x : Folder} (h : rFolder S w cs x) : cs.length = 7 := by
  obtain ⟨v2, v3, v4, v5, v6, rfl, c0, c1, c2, c3, c4, c5, c6⟩ := h
  rfl
theorem rFolder_keep {S S' : Nat → Prop} {w w' : World} {cs : List Value} {x : Folder} (h : rFolder S w cs x) (k : Kept S S' w w') : rFolder S' w' cs x := by
  obtain ⟨v2, v3, v4, v5, v6, e, c0, c1, c2, c3, c4, c5, c6⟩ := h
  exact ⟨v2, v3, v4, v5, v6, e, c0, c1, c2.keep rManifest_ok (by decide) k, c3.keep rEpoch_ok (by decide) k, c4.keep rItem_ok (by decide) k, c5.keep rWrap_ok (by decide) k, c6.keep rLink_ok (by decide) k⟩
theorem rFolder_one {S : Nat → Prop} {w : World} {cs : List Value} {x : Folder} (h : rFolder S w cs x) : ∀ u ∈ cs, u.oneCell' = true := by
  obtain ⟨v2, v3, v4, v5, v6, e, c0, c1, c2, c3, c4, c5, c6⟩ := h
  obtain ⟨A2, k2, rfl, _⟩ := c2
  obtain ⟨A3, k3, rfl, _⟩ := c3
  obtain ⟨A4, k4, rfl, _⟩ := c4
  obtain ⟨A5, k5, rfl, _⟩ := c5
  obtain ⟨A6, k6, rfl, _⟩ := c6
  intro u hu
  rw [e] at hu
  simp only [List.mem_cons, List.not_mem_nil, or_false] at hu
  rcases hu with rfl | rfl | rfl | rfl | rfl | rfl | rfl <;> rfl
theorem rFolder_ok : RpOk 7 rFolder := ⟨rFolder_len, rFolder_keep, rFolder_one⟩
theorem open_Folder {S : Nat → Prop} {w : World} {cs : List Value} {x : Folder} (h : rFolder S w cs x) : ∃ A2 c2 A3 c3 A4 c4 A5 c5 A6 c6, cs = [.string x.name, .int .i64 x.turn, .slice A2 x.manifests.length c2, .slice A3 x.epochs.length c3, .slice A4 x.items.length c4, .slice A5 x.wraps.length c5, .slice A6 x.links.length c6] ∧ x.name.size ≤ 140737488355328 ∧ I64 x.turn ∧ x.manifests.length ≤ c2 ∧ c2 ≤ 9223372036854775807 ∧ x.manifests.length ≤ 140737488355328 ∧ SlAt 8 rManifest S w A2 x.manifests ∧ x.epochs.length ≤ c3 ∧ c3 ≤ 9223372036854775807 ∧ x.epochs.length ≤ 140737488355328 ∧ SlAt 5 rEpoch S w A3 x.epochs ∧ x.items.length ≤ c4 ∧ c4 ≤ 9223372036854775807 ∧ x.items.length ≤ 140737488355328 ∧ SlAt 2 rItem S w A4 x.items ∧ x.wraps.length ≤ c5 ∧ c5 ≤ 9223372036854775807 ∧ x.wraps.length ≤ 140737488355328 ∧ SlAt 3 rWrap S w A5 x.wraps ∧ x.links.length ≤ c6 ∧ c6 ≤ 9223372036854775807 ∧ x.links.length ≤ 140737488355328 ∧ SlAt 3 rLink S w A6 x.links := by
  obtain ⟨v2, v3, v4, v5, v6, e, c0, c1, c2, c3, c4, c5, c6⟩ := h
  obtain ⟨A2, k2, rfl, l2, m2, n2, s2⟩ := c2
  obtain ⟨A3, k3, rfl, l3, m3, n3, s3⟩ := c3
  obtain ⟨A4, k4, rfl, l4, m4, n4, s4⟩ := c4
  obtain ⟨A5, k5, rfl, l5, m5, n5, s5⟩ := c5
  obtain ⟨A6, k6, rfl, l6, m6, n6, s6⟩ := c6
  exact ⟨A2, k2, A3, k3, A4, k4, A5, k5, A6, k6, e, c0, c1, l2, (by simpa [maxLen] using m2), n2, s2, l3, (by simpa [maxLen] using m3), n3, s3, l4, (by simpa [maxLen] using m4), n4, s4, l5, (by simpa [maxLen] using m5), n5, s5, l6, (by simpa [maxLen] using m6), n6, s6⟩
theorem get_Folder {S S' : Nat → Prop} {w wr : World} {A : Option Addr} {l : List Folder} {k : Nat} (s : SlAt 7 rFolder S w A l) (hk : k < l.length) (hb : Kept S S' w wr) :
    ∃ x b o A2 c2 A3 c3 A4 c4 A5 c5 A6 c6, l[k]? = some x ∧ l.drop k = x :: l.drop (k + 1) ∧ x ∈ l ∧ A = some ⟨b, o, none⟩ ∧ b < w.heap.size ∧ S b ∧ wr.cell? ⟨b, o + k * 7, none⟩ = some (.string x.name) ∧ wr.cell? ⟨b, o + k * 7 + 1, none⟩ = some (.int .i64 x.turn) ∧ wr.cell? ⟨b, o + k * 7 + 2, none⟩ = some (.slice A2 x.manifests.length c2) ∧ wr.cell? ⟨b, o + k * 7 + 3, none⟩ = some (.slice A3 x.epochs.length c3) ∧ wr.cell? ⟨b, o + k * 7 + 4, none⟩ = some (.slice A4 x.items.length c4) ∧ wr.cell? ⟨b, o + k * 7 + 5, none⟩ = some (.slice A5 x.wraps.length c5) ∧ wr.cell? ⟨b, o + k * 7 + 6, none⟩ = some (.slice A6 x.links.length c6) ∧ rFolder S' wr [.string x.name, .int .i64 x.turn, .slice A2 x.manifests.length c2, .slice A3 x.epochs.length c3, .slice A4 x.items.length c4, .slice A5 x.wraps.length c5, .slice A6 x.links.length c6] x ∧ x.name.size ≤ 140737488355328 ∧ I64 x.turn ∧ x.manifests.length ≤ c2 ∧ c2 ≤ 9223372036854775807 ∧ x.manifests.length ≤ 140737488355328 ∧ SlAt 8 rManifest S' wr A2 x.manifests ∧ x.epochs.length ≤ c3 ∧ c3 ≤ 9223372036854775807 ∧ x.epochs.length ≤ 140737488355328 ∧ SlAt 5 rEpoch S' wr A3 x.epochs ∧ x.items.length ≤ c4 ∧ c4 ≤ 9223372036854775807 ∧ x.items.length ≤ 140737488355328 ∧ SlAt 2 rItem S' wr A4 x.items ∧ x.wraps.length ≤ c5 ∧ c5 ≤ 9223372036854775807 ∧ x.wraps.length ≤ 140737488355328 ∧ SlAt 3 rWrap S' wr A5 x.wraps ∧ x.links.length ≤ c6 ∧ c6 ≤ 9223372036854775807 ∧ x.links.length ≤ 140737488355328 ∧ SlAt 3 rLink S' wr A6 x.links := by
  obtain ⟨x, hx, hd, hm⟩ := at_k hk
  obtain ⟨b, o, ys, hA, hS, _, hc, hR⟩ := s k _ hx
  have hR' := rFolder_keep hR hb
  obtain ⟨A2, c2, A3, c3, A4, c4, A5, c5, A6, c6, e, hrest⟩ := open_Folder hR'
  subst e
  have c0' : wr.cell? ⟨b, o + k * 7, none⟩ = _ := cell_kept (p := ⟨b, o + (k * 7 + 0), none⟩) hb hS (hc 0 _ rfl)
  have c1' : wr.cell? ⟨b, o + k * 7 + 1, none⟩ = _ := cell_kept (p := ⟨b, o + (k * 7 + 1), none⟩) hb hS (hc 1 _ rfl)
  have c2' : wr.cell? ⟨b, o + k * 7 + 2, none⟩ = _ := cell_kept (p := ⟨b, o + (k * 7 + 2), none⟩) hb hS (hc 2 _ rfl)
  have c3' : wr.cell? ⟨b, o + k * 7 + 3, none⟩ = _ := cell_kept (p := ⟨b, o + (k * 7 + 3), none⟩) hb hS (hc 3 _ rfl)
  have c4' : wr.cell? ⟨b, o + k * 7 + 4, none⟩ = _ := cell_kept (p := ⟨b, o + (k * 7 + 4), none⟩) hb hS (hc 4 _ rfl)
  have c5' : wr.cell? ⟨b, o + k * 7 + 5, none⟩ = _ := cell_kept (p := ⟨b, o + (k * 7 + 5), none⟩) hb hS (hc 5 _ rfl)
  have c6' : wr.cell? ⟨b, o + k * 7 + 6, none⟩ = _ := cell_kept (p := ⟨b, o + (k * 7 + 6), none⟩) hb hS (hc 6 _ rfl)
  exact ⟨x, b, o, A2, c2, A3, c3, A4, c4, A5, c5, A6, c6, hx, hd, hm, hA, cell_lt (hc 0 _ rfl), hS, c0', c1', c2', c3', c4', c5', c6', hR', hrest⟩
theorem rdFolder {w : World} : Rd Tryz.prog w 35 rFolder := by
  intro H enc base spare held fuel cs x h hz
  obtain ⟨hl, n, hf⟩ := rd_fields Tryz.underlying35 (by kernel_rfl) (by kernel_rfl) h hz
  match cs, hl with
  | [c0, c1, c2, c3, c4, c5, c6], _ =>
    obtain ⟨y0, t0, z0⟩ := hf 0 _ rfl
    obtain ⟨a0, (e0 : c0 = _), b0⟩ := rd1_str Tryz.underlying9 t0 z0
    obtain ⟨y1, t1, z1⟩ := hf 1 _ rfl
    obtain ⟨a1, (e1 : c1 = _), b1⟩ := rd1_int Tryz.underlying3 t1 z1
    obtain ⟨y2, t2, z2⟩ := hf 2 _ rfl
    obtain ⟨a2, b2⟩ := rd1_sl (rd_slice Tryz.underlying29 (by kernel_rfl) (of_decide_eq_true (by kernel_rfl)) (by decide) rdManifest rManifest_len) t2 z2
    have b2' : Sl 8 rManifest _ w c2 a2 := b2
    obtain ⟨y3, t3, z3⟩ := hf 3 _ rfl
    obtain ⟨a3, b3⟩ := rd1_sl (rd_slice Tryz.underlying30 (by kernel_rfl) (of_decide_eq_true (by kernel_rfl)) (by decide) rdEpoch rEpoch_len) t3 z3
    have b3' : Sl 5 rEpoch _ w c3 a3 := b3
    obtain ⟨y4, t4, z4⟩ := hf 4 _ rfl
    obtain ⟨a4, b4⟩ := rd1_sl (rd_slice Tryz.underlying31 (by kernel_rfl) (of_decide_eq_true (by kernel_rfl)) (by decide) rdItem rItem_len) t4 z4
    have b4' : Sl 2 rItem _ w c4 a4 := b4
    obtain ⟨y5, t5, z5⟩ := hf 5 _ rfl
    obtain ⟨a5, b5⟩ := rd1_sl (rd_slice Tryz.underlying32 (by kernel_rfl) (of_decide_eq_true (by kernel_rfl)) (by decide) rdWrap rWrap_len) t5 z5
    have b5' : Sl 3 rWrap _ w c5 a5 := b5
    obtain ⟨y6, t6, z6⟩ := hf 6 _ rfl
    obtain ⟨a6, b6⟩ := rd1_sl (rd_slice Tryz.underlying33 (by kernel_rfl) (of_decide_eq_true (by kernel_rfl)) (by decide) rdLink rLink_len) t6 z6
    have b6' : Sl 3 rLink _ w c6 a6 := b6
    subst e0 e1
    exact ⟨⟨a0, a1, a2, a3, a4, a5, a6⟩, ⟨c2, c3, c4, c5, c6, rfl, b0, b1, b2', b3', b4', b5', b6'⟩⟩

structure State where
  turn : Int
  users : List User
  deposits : List Pair
  folders : List Folder

def rState : Rp State := fun S w cs x => ∃ v1 v2 v3, cs = [.int .i64 x.turn, v1, v2, v3] ∧ I64 x.turn ∧ Sl 2 rUser S w v1 x.users ∧ Sl 2 rPair S w v2 x.deposits ∧ Sl 7 rFolder S w v3 x.folders
theorem rState_len {S : Nat → Prop} {w : World} {cs : List Value} {x : State} (h : rState S w cs x) : cs.length = 4 := by
  obtain ⟨v1, v2, v3, rfl, c0, c1, c2, c3⟩ := h
  rfl
theorem rState_keep {S S' : Nat → Prop} {w w' : World} {cs : List Value} {x : State} (h : rState S w cs x) (k : Kept S S' w w') : rState S' w' cs x := by
  obtain ⟨v1, v2, v3, e, c0, c1, c2, c3⟩ := h
  exact ⟨v1, v2, v3, e, c0, c1.keep rUser_ok (by decide) k, c2.keep rPair_ok (by decide) k, c3.keep rFolder_ok (by decide) k⟩
theorem rState_one {S : Nat → Prop} {w : World} {cs : List Value} {x : State} (h : rState S w cs x) : ∀ u ∈ cs, u.oneCell' = true := by
  obtain ⟨v1, v2, v3, e, c0, c1, c2, c3⟩ := h
  obtain ⟨A1, k1, rfl, _⟩ := c1
  obtain ⟨A2, k2, rfl, _⟩ := c2
  obtain ⟨A3, k3, rfl, _⟩ := c3
  intro u hu
  rw [e] at hu
  simp only [List.mem_cons, List.not_mem_nil, or_false] at hu
  rcases hu with rfl | rfl | rfl | rfl <;> rfl
theorem rState_ok : RpOk 4 rState := ⟨rState_len, rState_keep, rState_one⟩
theorem open_State {S : Nat → Prop} {w : World} {cs : List Value} {x : State} (h : rState S w cs x) : ∃ A1 c1 A2 c2 A3 c3, cs = [.int .i64 x.turn, .slice A1 x.users.length c1, .slice A2 x.deposits.length c2, .slice A3 x.folders.length c3] ∧ I64 x.turn ∧ x.users.length ≤ c1 ∧ c1 ≤ 9223372036854775807 ∧ x.users.length ≤ 140737488355328 ∧ SlAt 2 rUser S w A1 x.users ∧ x.deposits.length ≤ c2 ∧ c2 ≤ 9223372036854775807 ∧ x.deposits.length ≤ 140737488355328 ∧ SlAt 2 rPair S w A2 x.deposits ∧ x.folders.length ≤ c3 ∧ c3 ≤ 9223372036854775807 ∧ x.folders.length ≤ 140737488355328 ∧ SlAt 7 rFolder S w A3 x.folders := by
  obtain ⟨v1, v2, v3, e, c0, c1, c2, c3⟩ := h
  obtain ⟨A1, k1, rfl, l1, m1, n1, s1⟩ := c1
  obtain ⟨A2, k2, rfl, l2, m2, n2, s2⟩ := c2
  obtain ⟨A3, k3, rfl, l3, m3, n3, s3⟩ := c3
  exact ⟨A1, k1, A2, k2, A3, k3, e, c0, l1, (by simpa [maxLen] using m1), n1, s1, l2, (by simpa [maxLen] using m2), n2, s2, l3, (by simpa [maxLen] using m3), n3, s3⟩
theorem get_State {S S' : Nat → Prop} {w wr : World} {A : Option Addr} {l : List State} {k : Nat} (s : SlAt 4 rState S w A l) (hk : k < l.length) (hb : Kept S S' w wr) :
    ∃ x b o A1 c1 A2 c2 A3 c3, l[k]? = some x ∧ l.drop k = x :: l.drop (k + 1) ∧ x ∈ l ∧ A = some ⟨b, o, none⟩ ∧ b < w.heap.size ∧ S b ∧ wr.cell? ⟨b, o + k * 4, none⟩ = some (.int .i64 x.turn) ∧ wr.cell? ⟨b, o + k * 4 + 1, none⟩ = some (.slice A1 x.users.length c1) ∧ wr.cell? ⟨b, o + k * 4 + 2, none⟩ = some (.slice A2 x.deposits.length c2) ∧ wr.cell? ⟨b, o + k * 4 + 3, none⟩ = some (.slice A3 x.folders.length c3) ∧ rState S' wr [.int .i64 x.turn, .slice A1 x.users.length c1, .slice A2 x.deposits.length c2, .slice A3 x.folders.length c3] x ∧ I64 x.turn ∧ x.users.length ≤ c1 ∧ c1 ≤ 9223372036854775807 ∧ x.users.length ≤ 140737488355328 ∧ SlAt 2 rUser S' wr A1 x.users ∧ x.deposits.length ≤ c2 ∧ c2 ≤ 9223372036854775807 ∧ x.deposits.length ≤ 140737488355328 ∧ SlAt 2 rPair S' wr A2 x.deposits ∧ x.folders.length ≤ c3 ∧ c3 ≤ 9223372036854775807 ∧ x.folders.length ≤ 140737488355328 ∧ SlAt 7 rFolder S' wr A3 x.folders := by
  obtain ⟨x, hx, hd, hm⟩ := at_k hk
  obtain ⟨b, o, ys, hA, hS, _, hc, hR⟩ := s k _ hx
  have hR' := rState_keep hR hb
  obtain ⟨A1, c1, A2, c2, A3, c3, e, hrest⟩ := open_State hR'
  subst e
  have c0' : wr.cell? ⟨b, o + k * 4, none⟩ = _ := cell_kept (p := ⟨b, o + (k * 4 + 0), none⟩) hb hS (hc 0 _ rfl)
  have c1' : wr.cell? ⟨b, o + k * 4 + 1, none⟩ = _ := cell_kept (p := ⟨b, o + (k * 4 + 1), none⟩) hb hS (hc 1 _ rfl)
  have c2' : wr.cell? ⟨b, o + k * 4 + 2, none⟩ = _ := cell_kept (p := ⟨b, o + (k * 4 + 2), none⟩) hb hS (hc 2 _ rfl)
  have c3' : wr.cell? ⟨b, o + k * 4 + 3, none⟩ = _ := cell_kept (p := ⟨b, o + (k * 4 + 3), none⟩) hb hS (hc 3 _ rfl)
  exact ⟨x, b, o, A1, c1, A2, c2, A3, c3, hx, hd, hm, hA, cell_lt (hc 0 _ rfl), hS, c0', c1', c2', c3', hR', hrest⟩
theorem rdState {w : World} : Rd Tryz.prog w 26 rState := by
  intro H enc base spare held fuel cs x h hz
  obtain ⟨hl, n, hf⟩ := rd_fields Tryz.underlying26 (by kernel_rfl) (by kernel_rfl) h hz
  match cs, hl with
  | [c0, c1, c2, c3], _ =>
    obtain ⟨y0, t0, z0⟩ := hf 0 _ rfl
    obtain ⟨a0, (e0 : c0 = _), b0⟩ := rd1_int Tryz.underlying3 t0 z0
    obtain ⟨y1, t1, z1⟩ := hf 1 _ rfl
    obtain ⟨a1, b1⟩ := rd1_sl (rd_slice Tryz.underlying22 (by kernel_rfl) (of_decide_eq_true (by kernel_rfl)) (by decide) rdUser rUser_len) t1 z1
    have b1' : Sl 2 rUser _ w c1 a1 := b1
    obtain ⟨y2, t2, z2⟩ := hf 2 _ rfl
    obtain ⟨a2, b2⟩ := rd1_sl (rd_slice Tryz.underlying23 (by kernel_rfl) (of_decide_eq_true (by kernel_rfl)) (by decide) rdPair rPair_len) t2 z2
    have b2' : Sl 2 rPair _ w c2 a2 := b2
    obtain ⟨y3, t3, z3⟩ := hf 3 _ rfl
    obtain ⟨a3, b3⟩ := rd1_sl (rd_slice Tryz.underlying24 (by kernel_rfl) (of_decide_eq_true (by kernel_rfl)) (by decide) rdFolder rFolder_len) t3 z3
    have b3' : Sl 7 rFolder _ w c3 a3 := b3
    subst e0
    exact ⟨⟨a0, a1, a2, a3⟩, ⟨c1, c2, c3, rfl, b0, b1', b2', b3'⟩⟩

end Go.Proofs.YtkapaafbnbnpjaaGreatDoor
