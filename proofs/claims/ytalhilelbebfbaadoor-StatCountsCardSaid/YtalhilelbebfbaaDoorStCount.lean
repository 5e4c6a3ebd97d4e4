/- A count of answers, and the error of an answer: how their cells read. No condition. -/
import Derived.Test.YtalhilelbebfbaaDoorApi
import Derived.Test.YtalhilelbebfbaaDoorStLays
namespace Go.Proofs.YtalhilelbebfbaaDoor
open Go.RowKit Go.Deep Go.ChangeShapes Go.WideShapes Go.Maps

structure Count where
  err : Int
  n : Int

def rCount : Rp Count := fun S w cs x => cs = [.int .i64 x.err, .int .i64 x.n] ∧ I64 x.err ∧ I64 x.n
theorem rCount_len {S : Nat → Prop} {w : World} {cs : List Value} {x : Count} (h : rCount S w cs x) : cs.length = 2 := by
  obtain ⟨rfl, c0, c1⟩ := h
  rfl
theorem rCount_keep {S S' : Nat → Prop} {w w' : World} {cs : List Value} {x : Count} (h : rCount S w cs x) (k : Kept S S' w w') : rCount S' w' cs x := by
  obtain ⟨e, c0, c1⟩ := h
  exact ⟨e, c0, c1⟩
theorem rCount_one {S : Nat → Prop} {w : World} {cs : List Value} {x : Count} (h : rCount S w cs x) : ∀ u ∈ cs, u.oneCell' = true := by
  obtain ⟨e, c0, c1⟩ := h
  intro u hu
  rw [e] at hu
  simp only [List.mem_cons, List.not_mem_nil, or_false] at hu
  rcases hu with rfl | rfl <;> rfl
theorem rCount_ok : RpOk 2 rCount := ⟨rCount_len, rCount_keep, rCount_one⟩
theorem open_Count {S : Nat → Prop} {w : World} {cs : List Value} {x : Count} (h : rCount S w cs x) : cs = [.int .i64 x.err, .int .i64 x.n] ∧ I64 x.err ∧ I64 x.n := by
  obtain ⟨e, c0, c1⟩ := h
  exact ⟨e, c0, c1⟩
theorem get_Count {S S' : Nat → Prop} {w wr : World} {A : Option Addr} {l : List Count} {k : Nat} (s : SlAt 2 rCount S w A l) (hk : k < l.length) (hb : Kept S S' w wr) :
    ∃ x b o, l[k]? = some x ∧ l.drop k = x :: l.drop (k + 1) ∧ x ∈ l ∧ A = some ⟨b, o, none⟩ ∧ b < w.heap.size ∧ S b ∧ wr.cell? ⟨b, o + k * 2, none⟩ = some (.int .i64 x.err) ∧ wr.cell? ⟨b, o + k * 2 + 1, none⟩ = some (.int .i64 x.n) ∧ rCount S' wr [.int .i64 x.err, .int .i64 x.n] x ∧ I64 x.err ∧ I64 x.n := by
  obtain ⟨x, hx, hd, hm⟩ := at_k hk
  obtain ⟨b, o, ys, hA, hS, _, hc, hR⟩ := s k _ hx
  have hR' := rCount_keep hR hb
  obtain ⟨e, hrest⟩ := open_Count hR'
  subst e
  have c0' : wr.cell? ⟨b, o + k * 2, none⟩ = _ := cell_kept (p := ⟨b, o + (k * 2 + 0), none⟩) hb hS (hc 0 _ rfl)
  have c1' : wr.cell? ⟨b, o + k * 2 + 1, none⟩ = _ := cell_kept (p := ⟨b, o + (k * 2 + 1), none⟩) hb hS (hc 1 _ rfl)
  exact ⟨x, b, o, hx, hd, hm, hA, cell_lt (hc 0 _ rfl), hS, c0', c1', hR', hrest⟩

/-- An answer, as far as it is counted: its error. -/
def rAns : Rp Int := fun _ _ cs e => ∃ (n : Int) (s : ByteArray) (A3 A4 A5 A6 : Option Addr) (n3 c3 n4 c4 n5 c5 n6 c6 : Nat), cs = [.int .i64 e, .int .i64 n, .string s, .slice A3 n3 c3, .slice A4 n4 c4, .slice A5 n5 c5, .slice A6 n6 c6] ∧ I64 e
theorem rAns_ok : RpOk 7 rAns := ⟨fun ⟨_, _, _, _, _, _, _, _, _, _, _, _, _, _, h, _⟩ => by rw [h]; rfl, fun h _ => h, fun ⟨_, _, _, _, _, _, _, _, _, _, _, _, _, _, h, _⟩ u hu => by
  rw [h] at hu
  simp only [List.mem_cons, List.not_mem_nil, or_false] at hu
  rcases hu with rfl | rfl | rfl | rfl | rfl | rfl | rfl <;> rfl⟩
theorem one_slice {P : Program} {w : World} {t e : TypeId} (ht : P.underlying t = some (.slice e)) {H : Type} {enc : TypeId × Value → H} {base : Nat} {spare : Nat → Bool} {held : Bool} {fuel : Nat} {v : Value} {x : DataW H × List MemPlace}
    (h : DataW.trod enc P w base spare held fuel t [v] = some x) : ∃ A n c, v = .slice A n c := by
  rcases open_slice ht h with ⟨hv, _⟩ | ⟨a, len, cap, m, n, D, Pl, hv, _⟩
  · exact ⟨none, 0, 0, by simpa using hv⟩
  · exact ⟨some a, len, cap, by simpa using hv⟩
theorem rdAns {w : World} : Rd Tryd.prog w 34 rAns := by
  intro H enc base spare held fuel cs x h hz
  obtain ⟨hl, n, hf⟩ := rd_fields Tryd.underlying34 (by kernel_rfl) (by kernel_rfl) h hz
  match cs, hl with
  | [c0, c1, c2, c3, c4, c5, c6], _ =>
    obtain ⟨y0, t0, z0⟩ := hf 0 _ rfl
    obtain ⟨a0, (e0 : c0 = _), b0⟩ := rd1_int Tryd.underlying28 t0 z0
    obtain ⟨y1, t1, z1⟩ := hf 1 _ rfl
    obtain ⟨a1, (e1 : c1 = _), b1⟩ := rd1_int Tryd.underlying3 t1 z1
    obtain ⟨y2, t2, z2⟩ := hf 2 _ rfl
    obtain ⟨a2, (e2 : c2 = _), b2⟩ := rd1_str Tryd.underlying9 t2 z2
    obtain ⟨y3, t3, z3⟩ := hf 3 _ rfl
    obtain ⟨y4, t4, z4⟩ := hf 4 _ rfl
    obtain ⟨y5, t5, z5⟩ := hf 5 _ rfl
    obtain ⟨y6, t6, z6⟩ := hf 6 _ rfl
    obtain ⟨A3, n3, d3, o3⟩ := one_slice Tryd.underlying29 t3
    obtain ⟨A4, n4, d4, o4⟩ := one_slice Tryd.underlying30 t4
    obtain ⟨A5, n5, d5, o5⟩ := one_slice Tryd.underlying31 t5
    obtain ⟨A6, n6, d6, o6⟩ := one_slice Tryd.underlying32 t6
    have o3' : c3 = _ := o3
    have o4' : c4 = _ := o4
    have o5' : c5 = _ := o5
    have o6' : c6 = _ := o6
    subst e0 e1 e2 o3' o4' o5' o6'
    exact ⟨a0, _, _, _, _, _, _, _, _, _, _, _, _, _, _, rfl, b0⟩

/-! What a map counts. -/
structure MapIs (D : DataW Unit) (f : Int → Int) (K : Int → Prop) : Prop where
  isMap : IsMap D
  val : ∀ e, D.atKey (.int .i64 e) (.lit (.int .i64 0)) = .lit (.int .i64 (f e))
  key : ∀ e, has D (.int .i64 e) = true ↔ K e
theorem MapIs.start : MapIs (.map []) (fun _ => 0) (fun _ => False) := ⟨isMap_empty, fun _ => rfl, fun _ => by simp [has]⟩
theorem MapIs.put {D : DataW Unit} {f : Int → Int} {K : Int → Prop} (h : MapIs D f K) (e v : Int) : MapIs (D.put (.int .i64 e) (.lit (.int .i64 v))) (fun x => if x = e then v else f x) (fun x => x = e ∨ K x) := by
  refine ⟨h.isMap.put _ _, fun x => ?_, fun x => ?_⟩
  · by_cases hx : x = e
    · subst hx
      rw [if_pos rfl, atKey_put_same h.isMap (by first | trivial | rfl | decide | simp [WideAt.IsKeyLit])]
    · rw [if_neg hx, atKey_put_other (by simpa using hx)]
      exact h.val x
  · by_cases hx : x = e
    · subst hx
      simp [has_put_same h.isMap (k := .int .i64 x) (by first | trivial | rfl | decide | simp [WideAt.IsKeyLit])]
    · rw [has_put_other (by simpa using hx), h.key x]
      simp [hx]
theorem MapIs.at {D : DataW Unit} {f : Int → Int} {K : Int → Prop} (h : MapIs D f K) {e c : Int} (hc : D.atKey (.int .i64 e) (.lit (.int .i64 0)) = .lit (.int .i64 c)) : c = f e := by
  have := (h.val e).symm.trans hc
  simp at this
  exact this.symm
theorem MapIs.keys {D : DataW Unit} {f : Int → Int} {K : Int → Prop} (h : MapIs D f K) {w : World} {R : Value → Option (DataW Unit × List MemPlace)} {b n : Nat} (hown : w.ownsMap Tryd.prog 28 R b n D) :
    (intKeys D).Nodup ∧ (∀ e, e ∈ intKeys D ↔ K e) ∧ (∀ e ∈ intKeys D, I64 e) := by
  have hwf := intKeys_wf hown Tryd.underlying28
  obtain ⟨es, hD, hpw, _⟩ := hown.entries keyE
  obtain ⟨es', hD', hko⟩ := hown.keysOf
  obtain rfl : es = es' := by rw [hD] at hD'; simpa using hD'
  subst hD
  have hk : ∀ p ∈ es, ∃ x, p.1 = .int .i64 x := fun p hp => by obtain ⟨v, hv⟩ := hko p hp; obtain ⟨x, _, hx, _⟩ := Maps.keyOf_i64 Tryd.underlying28 hv; exact ⟨x, hx⟩
  refine ⟨?_, fun e => ?_, fun e he => by have := hwf e he; simp [Lit.wf] at this; exact this⟩
  · show (es.map fun p => Go.intOf p.1).Nodup
    refine List.pairwise_map.2 (hpw.imp_of_mem fun {p q} hp' hq' hne e => hne ?_)
    obtain ⟨a, ha⟩ := hk p hp'
    obtain ⟨b, hb⟩ := hk q hq'
    rw [ha, hb] at e ⊢
    exact congrArg _ e
  · rw [← h.key e, has_eq, List.any_eq_true]
    show e ∈ es.map (fun p => Go.intOf p.1) ↔ _
    rw [List.mem_map]
    constructor
    · rintro ⟨p, hp', rfl⟩
      obtain ⟨a, ha⟩ := hk p hp'
      exact ⟨p, hp', by rw [ha]; simp [Lit.sameKey, Go.intOf]⟩
    · rintro ⟨p, hp', hs⟩
      obtain ⟨a, ha⟩ := hk p hp'
      rw [ha] at hs
      exact ⟨p, hp', by rw [ha]; simpa [Lit.sameKey, Go.intOf] using hs⟩
theorem own_size {w : World} {R : Value → Option (DataW Unit × List MemPlace)} {b n : Nat} {D : DataW Unit} (h : w.ownsMap Tryd.prog 28 R b n D) : Maps.size D ≤ n := by
  obtain ⟨es, clock, _, _, hs, rfl⟩ := h
  rw [size_eq, length_sorted, List.length_map]
  simpa using hs

/-- The counts of f at the errors of K, rising. -/
def IsCounts (f : Int → Int) (K : Int → Prop) (R : List Count) : Prop := ∃ ks : List Int, R = ks.map (fun e => ⟨e, f e⟩) ∧ ks.Pairwise (· < ·) ∧ ∀ e, e ∈ ks ↔ K e
theorem rising_ext : ∀ {a b : List Int}, a.Pairwise (· < ·) → b.Pairwise (· < ·) → (∀ e, e ∈ a ↔ e ∈ b) → a = b := by
  intro a b ha hb h
  have na : a.Nodup := ha.imp (fun h => by omega)
  have nb : b.Nodup := hb.imp (fun h => by omega)
  exact List.Perm.eq_of_pairwise (le := fun x y => x < y) (fun x y _ _ h1 h2 => by omega) ha hb ((List.perm_ext_iff_of_nodup na nb).2 h)
theorem IsCounts.ext {f f' : Int → Int} {K K' : Int → Prop} {R R' : List Count} (h : IsCounts f K R) (h' : IsCounts f' K' R') (hK : ∀ e, K e ↔ K' e) (hf : ∀ e, K e → f e = f' e) : R = R' := by
  obtain ⟨ks, rfl, p1, m1⟩ := h
  obtain ⟨ks', rfl, p2, m2⟩ := h'
  obtain rfl := rising_ext p1 p2 fun e => by rw [m1, m2, hK]
  refine List.map_congr_left fun e he => ?_
  rw [hf e ((m1 e).1 he)]
end Go.Proofs.YtalhilelbebfbaaDoor
