/- The tree of a state as lines: each folder that is there has one line. No program in sight, no condition. -/
import Derived.Test.YtkapaafbnbnpjaaGreatDoorSeRef
namespace Go.Proofs.YtkapaafbnbnpjaaGreatDoor

/-! What a line begins with. -/
def blanksL (n : Nat) : List UInt8 := List.replicate n 32
def headL (d : Nat) (s : Nm) : List UInt8 := blanksL (2 * d) ++ (s.data.toList ++ [32])
def FLine (d : Nat) (s x : Nm) : Prop := ∃ r, x.data.toList = blanksL (2 * d) ++ (s.data.toList ++ 32 :: r)
def ILine (d : Nat) (x : Nm) : Prop := ∃ r, x.data.toList = blanksL (2 * d) ++ 45 :: r
/-- Letters and digits alone, and at least one. -/
def okC (c : UInt8) : Bool := (decide (97 ≤ c.toNat) && decide (c.toNat ≤ 122)) || (decide (48 ≤ c.toNat) && decide (c.toNat ≤ 57))
def plainS (s : Nm) : Bool := s.data.toList.all okC && !s.data.toList.isEmpty
theorem okC_ne {c : UInt8} (h : okC c = true) : c ≠ 32 ∧ c ≠ 45 := by
  constructor
  · rintro rfl
    revert h
    decide
  · rintro rfl
    revert h
    decide
theorem plain_parts {s : Nm} (h : plainS s = true) : (∀ c ∈ s.data.toList, okC c = true) ∧ s.data.toList ≠ [] := by
  unfold plainS at h
  rw [Bool.and_eq_true, List.all_eq_true] at h
  refine ⟨h.1, fun e => ?_⟩
  rw [e] at h
  exact absurd h.2 (by decide)
theorem pre_blank : ∀ (n m : Nat) {a b : UInt8} {u v : List UInt8}, a ≠ 32 → b ≠ 32 → (blanksL n ++ a :: u <+: blanksL m ++ b :: v) → n = m ∧ (a :: u <+: b :: v)
  | 0, 0, _, _, _, _, _, _, h => ⟨rfl, h⟩
  | 0, m + 1, a, b, u, v, ha, _, h => by
    have h' : a :: u <+: (32 : UInt8) :: (blanksL m ++ b :: v) := h
    rw [List.cons_prefix_cons] at h'
    exact absurd h'.1 ha
  | n + 1, 0, a, b, u, v, _, hb, h => by
    have h' : (32 : UInt8) :: (blanksL n ++ a :: u) <+: b :: v := h
    rw [List.cons_prefix_cons] at h'
    exact absurd h'.1.symm hb
  | n + 1, m + 1, a, b, u, v, ha, hb, h => by
    have h' : (32 : UInt8) :: (blanksL n ++ a :: u) <+: (32 : UInt8) :: (blanksL m ++ b :: v) := h
    rw [List.cons_prefix_cons] at h'
    obtain ⟨e, k⟩ := pre_blank n m ha hb h'.2
    exact ⟨by omega, k⟩
theorem pre_name : ∀ {t t' r : List UInt8}, (∀ c ∈ t, okC c = true) → (∀ c ∈ t', okC c = true) → (t ++ [32] <+: t' ++ 32 :: r) → t = t'
  | [], [], _, _, _, _ => rfl
  | [], c :: t', r, _, h', h => by
    have k : (32 : UInt8) :: [] <+: c :: (t' ++ 32 :: r) := h
    rw [List.cons_prefix_cons] at k
    exact absurd k.1.symm (okC_ne (h' c (List.mem_cons_self ..))).1
  | c :: t, [], r, h', _, h => by
    have k : c :: (t ++ [32]) <+: (32 : UInt8) :: r := h
    rw [List.cons_prefix_cons] at k
    exact absurd k.1 (okC_ne (h' c (List.mem_cons_self ..))).1
  | c :: t, c' :: t', r, h1, h2, h => by
    have k : c :: (t ++ [32]) <+: c' :: (t' ++ 32 :: r) := h
    rw [List.cons_prefix_cons] at k
    rw [k.1, pre_name (fun x hx => h1 x (List.mem_cons_of_mem _ hx)) (fun x hx => h2 x (List.mem_cons_of_mem _ hx)) k.2]
theorem nm_inj {a b : Nm} (h : a.data.toList = b.data.toList) : a = b := by
  obtain ⟨⟨l⟩⟩ := a
  obtain ⟨⟨r⟩⟩ := b
  have e : l = r := h
  rw [e]
theorem head_folder {d d' : Nat} {s s' x : Nm} (hs : plainS s = true) (hs' : plainS s' = true) (hx : FLine d' s' x) : headL d s <+: x.data.toList ↔ d' = d ∧ s' = s := by
  obtain ⟨r, hr⟩ := hx
  obtain ⟨o, n⟩ := plain_parts hs
  obtain ⟨o', n'⟩ := plain_parts hs'
  constructor
  · intro h
    rw [hr] at h
    unfold headL at h
    cases ht : s.data.toList with
    | nil => exact absurd ht n
    | cons a t =>
      cases ht' : s'.data.toList with
      | nil => exact absurd ht' n'
      | cons a' t' =>
        rw [ht, ht'] at h
        obtain ⟨e, k⟩ := pre_blank (2 * d) (2 * d') (okC_ne (o a (by rw [ht]; exact List.mem_cons_self ..))).1 (okC_ne (o' a' (by rw [ht']; exact List.mem_cons_self ..))).1 h
        have k' : (a :: t) ++ [32] <+: (a' :: t') ++ 32 :: r := k
        have := pre_name (fun c hc => o c (by rw [ht]; exact hc)) (fun c hc => o' c (by rw [ht']; exact hc)) k'
        exact ⟨by omega, nm_inj (by rw [ht, ht', this])⟩
  · rintro ⟨rfl, rfl⟩
    rw [hr]
    exact ⟨r, by unfold headL; simp⟩
theorem head_item {d d' : Nat} {s x : Nm} (hs : plainS s = true) (hx : ILine d' x) : ¬ (headL d s <+: x.data.toList) := by
  obtain ⟨r, hr⟩ := hx
  obtain ⟨o, n⟩ := plain_parts hs
  intro h
  rw [hr] at h
  unfold headL at h
  cases ht : s.data.toList with
  | nil => exact absurd ht n
  | cons a t =>
    rw [ht] at h
    have ha := okC_ne (o a (by rw [ht]; exact List.mem_cons_self ..))
    obtain ⟨_, k⟩ := pre_blank (2 * d) (2 * d') ha.1 (by decide) h
    rw [List.cons_prefix_cons] at k
    exact ha.2 k.1

/-! The tree. -/
def inP (st : State) (p s : Nm) : Prop := ∃ f, findF st s = some f ∧ (nowM f).gone = false ∧ (nowM f).parent = p
theorem inP_one {st : State} {p p' s : Nm} (h : inP st p s) (h' : inP st p' s) : p = p' := by
  obtain ⟨f, hf, _, rfl⟩ := h
  obtain ⟨f', hf', _, rfl⟩ := h'
  rw [hf] at hf'
  rw [Option.some.inj hf']
inductive Parts (Sub : Nm → List Nm → Prop) (d : Nat) : List Nm → List Nm → Prop
  | nil : Parts Sub d [] []
  | cons {s fl : Nm} {its sub r X : List Nm} : FLine d s fl → (∀ y ∈ its, ILine (d + 1) y) → Sub s sub → Parts Sub d r X → Parts Sub d (s :: r) (fl :: (its ++ (sub ++ X)))
theorem Parts.snoc {Sub : Nm → List Nm → Prop} {d : Nat} {r X : List Nm} (h : Parts Sub d r X) {s fl : Nm} {its sub : List Nm} (h1 : FLine d s fl) (h2 : ∀ y ∈ its, ILine (d + 1) y) (h3 : Sub s sub) : Parts Sub d (r ++ [s]) (((X ++ [fl]) ++ its) ++ sub) := by
  induction h with
  | nil =>
    have : Parts Sub d [s] (fl :: (its ++ (sub ++ []))) := .cons h1 h2 h3 .nil
    simpa using this
  | cons a b c _ ih =>
    have := Parts.cons a b c ih
    simpa using this
def TreeL (st : State) : Nat → Nat → Nm → List Nm → Prop
  | 0, _, _, X => X = []
  | n + 1, d, p, X => ∃ names, IsNames (inP st p) names ∧ Parts (TreeL st n (d + 1)) d names X
/-- A folder is so many below another one. -/
def upTo (st : State) : Nat → Nm → Nm → Prop
  | 0, s, p => inP st p s
  | k + 1, s, p => ∃ t, inP st p t ∧ upTo st k s t
theorem upTo_one {st : State} : ∀ {k : Nat} {s p p' : Nm}, upTo st k s p → upTo st k s p' → p = p'
  | 0, _, _, _, h, h' => inP_one h h'
  | k + 1, s, p, p', h, h' => by
    obtain ⟨t, h1, h2⟩ := h
    obtain ⟨t', h1', h2'⟩ := h'
    obtain rfl := upTo_one h2 h2'
    exact inP_one h1 h1'
theorem upTo_down {st : State} : ∀ {k : Nat} {p r s : Nm}, upTo st k p r → inP st p s → upTo st (k + 1) s r
  | 0, p, _, _, h, h' => ⟨p, h, h'⟩
  | k + 1, _, _, _, h, h' => by
    obtain ⟨t, h1, h2⟩ := h
    exact ⟨t, h1, upTo_down h2 h'⟩
def cntH (d : Nat) (s : Nm) (X : List Nm) : Nat := X.countP fun x => decide (headL d s <+: x.data.toList)
def Ind (n : Nat) (P : Prop) : Prop := (P → n = 1) ∧ (¬ P → n = 0)
theorem Ind.congr {n : Nat} {P Q : Prop} (h : Ind n P) (e : P ↔ Q) : Ind n Q := ⟨fun q => h.1 (e.2 q), fun q => h.2 fun p => q (e.1 p)⟩
theorem cnt_append (d : Nat) (s : Nm) (X Y : List Nm) : cntH d s (X ++ Y) = cntH d s X + cntH d s Y := List.countP_append
theorem cnt_items {d d' : Nat} {s : Nm} (hs : plainS s = true) {its : List Nm} (h : ∀ y ∈ its, ILine d' y) : cntH d s its = 0 := by
  unfold cntH
  rw [List.countP_eq_zero]
  intro x hx
  simpa using head_item hs (h x hx)
theorem parts_cnt {Sub : Nm → List Nm → Prop} {d d0 : Nat} {s : Nm} (hs : plainS s = true) (Q : Nm → Prop) (hQ : ∀ t t', Q t → Q t' → t = t') {names X : List Nm} (h : Parts Sub d names X)
    (hp : ∀ t ∈ names, plainS t = true) (hn : names.Nodup) (hs1 : ∀ t sub, t ∈ names → Sub t sub → Ind ((if d = d0 ∧ t = s then 1 else 0) + cntH d0 s sub) (Q t)) : Ind (cntH d0 s X) (∃ t ∈ names, Q t) := by
  induction h with
  | nil => exact ⟨fun ⟨t, ht, _⟩ => by simp at ht, fun _ => rfl⟩
  | @cons t fl its sub r X a b c _ ih =>
    obtain ⟨n1, n2⟩ := List.nodup_cons.1 hn
    have i := ih (fun t ht => hp t (List.mem_cons_of_mem _ ht)) n2 fun t sub ht hs => hs1 t sub (List.mem_cons_of_mem _ ht) hs
    have o := hs1 t sub (List.mem_cons_self ..) c
    have e1 : cntH d0 s [fl] = if d = d0 ∧ t = s then 1 else 0 := by
      unfold cntH
      have hh := head_folder (d := d0) hs (hp t (List.mem_cons_self ..)) a
      by_cases k : d = d0 ∧ t = s
      · rw [if_pos k, List.countP_cons_of_pos (by simpa using hh.2 k)]
        rfl
      · rw [if_neg k, List.countP_cons_of_neg (by simpa using fun z => k (hh.1 z))]
        rfl
    have e : cntH d0 s (fl :: (its ++ (sub ++ X))) = ((if d = d0 ∧ t = s then 1 else 0) + cntH d0 s sub) + cntH d0 s X := by
      rw [show fl :: (its ++ (sub ++ X)) = [fl] ++ (its ++ (sub ++ X)) from rfl, cnt_append, cnt_append, cnt_append, cnt_items hs b, e1]
      omega
    rw [e]
    constructor
    · rintro ⟨u, hu, q⟩
      rcases List.mem_cons.1 hu with rfl | hu
      · rw [o.1 q, i.2 fun ⟨v, hv, qv⟩ => n1 (hQ _ _ q qv ▸ hv)]
      · rw [i.1 ⟨u, hu, q⟩, o.2 fun qt => n1 (hQ _ _ q qt ▸ hu)]
    · intro k
      rw [o.2 fun q => k ⟨t, List.mem_cons_self .., q⟩, i.2 fun ⟨u, hu, q⟩ => k ⟨u, List.mem_cons_of_mem _ hu, q⟩]
theorem tree_cnt {st : State} (hpl : ∀ t p, inP st p t → plainS t = true) {d0 : Nat} {s : Nm} (hs : plainS s = true) : ∀ (n d : Nat) (p : Nm) (X : List Nm), TreeL st n d p X → Ind (cntH d0 s X) (d ≤ d0 ∧ d0 < d + n ∧ upTo st (d0 - d) s p)
  | 0, d, p, X, h => by
    obtain rfl : X = [] := h
    exact ⟨fun ⟨h1, h2, _⟩ => by omega, fun _ => rfl⟩
  | n + 1, d, p, X, h => by
    obtain ⟨names, hN, hP⟩ := h
    by_cases hd : d = d0
    · subst hd
      refine (parts_cnt hs (fun t => t = s) (fun t t' a b => a.trans b.symm) hP (fun t ht => hpl t p ((hN.2 t).1 ht)) hN.nodup fun t sub _ hsub => ?_).congr ?_
      · have := tree_cnt hpl (d0 := d) hs n (d + 1) t sub hsub
        have z : cntH d s sub = 0 := this.2 fun ⟨h1, _⟩ => by omega
        rw [z]
        exact ⟨fun e => by rw [if_pos ⟨rfl, e⟩], fun e => by rw [if_neg fun k => e k.2]⟩
      · rw [Nat.sub_self]
        constructor
        · rintro ⟨t, ht, rfl⟩
          exact ⟨Nat.le_refl _, by omega, (hN.2 t).1 ht⟩
        · rintro ⟨_, _, h⟩
          exact ⟨s, (hN.2 s).2 h, rfl⟩
    · refine (parts_cnt hs (fun t => d + 1 ≤ d0 ∧ d0 < d + 1 + n ∧ upTo st (d0 - (d + 1)) s t) (fun t t' a b => upTo_one a.2.2 b.2.2) hP (fun t ht => hpl t p ((hN.2 t).1 ht)) hN.nodup fun t sub _ hsub => ?_).congr ?_
      · rw [if_neg fun k => hd k.1, Nat.zero_add]
        exact tree_cnt hpl hs n (d + 1) t sub hsub
      · constructor
        · rintro ⟨t, ht, h1, h2, h3⟩
          refine ⟨by omega, by omega, ?_⟩
          rw [show d0 - d = (d0 - (d + 1)) + 1 by omega]
          exact ⟨t, (hN.2 t).1 ht, h3⟩
        · rintro ⟨h1, h2, h3⟩
          rw [show d0 - d = (d0 - (d + 1)) + 1 by omega] at h3
          obtain ⟨t, h4, h5⟩ := h3
          exact ⟨t, (hN.2 t).2 h4, by omega, by omega, h5⟩

/-! Up to the top. -/
def chainedGo (st : State) : Nat → Nm → Bool
  | 0, _ => false
  | n + 1, s => match findF st s with
    | none => false
    | some f => if (nowM f).gone || !plainS s then false else if decide ((nowM f).parent = ⟨#[]⟩) then true else chainedGo st n (nowM f).parent
theorem chained_up {st : State} (h0 : findF st ⟨#[]⟩ = none) : ∀ (n : Nat) (s : Nm), chainedGo st n s = true → ∃ k, k < n ∧ upTo st k s ⟨#[]⟩ ∧ ∀ m, k < m → (chainOf st m s).length = k + 1
  | 0, _, h => by cases h
  | n + 1, s, h => by
    rw [chainedGo] at h
    cases hf : findF st s with
    | none => rw [hf] at h; cases h
    | some f =>
      rw [hf] at h
      dsimp only at h
      by_cases hg : ((nowM f).gone || !plainS s) = true
      · rw [if_pos hg] at h
        cases h
      · rw [if_neg hg] at h
        have hg1 : (nowM f).gone = false := by
          cases hgg : (nowM f).gone with
          | false => rfl
          | true => exact absurd (by rw [hgg]; rfl) hg
        by_cases hp : (nowM f).parent = ⟨#[]⟩
        · refine ⟨0, by omega, ⟨f, hf, hg1, hp⟩, fun m hm => ?_⟩
          obtain ⟨m, rfl⟩ : ∃ q, m = q + 1 := ⟨m - 1, by omega⟩
          rw [chainOf_some hf, hp, chainOf_none h0]
          rfl
        · rw [decide_eq_false hp] at h
          rw [if_neg (by decide)] at h
          obtain ⟨k, k1, k2, k3⟩ := chained_up h0 n _ h
          refine ⟨k + 1, by omega, upTo_down k2 ⟨f, hf, hg1, rfl⟩, fun m hm => ?_⟩
          obtain ⟨m, rfl⟩ : ∃ q, m = q + 1 := ⟨m - 1, by omega⟩
          rw [chainOf_some hf, List.length_cons, k3 m (by omega)]
/-- Lines as a text. -/
def textL (X : List Nm) : List UInt8 := X.flatMap fun x => x.data.toList ++ [10]
end Go.Proofs.YtkapaafbnbnpjaaGreatDoor
