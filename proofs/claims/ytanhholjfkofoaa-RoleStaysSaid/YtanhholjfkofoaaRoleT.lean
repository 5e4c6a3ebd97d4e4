/- Layer role: what the code and the document compute is the same; plain, no program in sight. -/
import Derived.Test.YtanhholjfkofoaaRoleD
namespace Go.Proofs.Ytanhholjfkofoaa
open Go.RowKit Go.Deep

abbrev LtM (a b : Member) : Prop := ltS a.name b.name = true
def prevLt (p : Option ByteArray) (n : ByteArray) : Bool := match p with
  | none => true
  | some q => ltS q n
theorem okAll_cons2 (p : Option ByteArray) (m : Member) (r : List Member) : okAll p (m :: r) = if nameOk m.name then (if isOf m.role then (if prevLt p m.name then okAll (some m.name) r else false) else false) else false := by
  cases p <;> rfl
theorem okAll_iff : ∀ (l : List Member) (p : Option ByteArray), okAll p l = true ↔ (∀ m ∈ l, nameOk m.name = true ∧ isOf m.role = true) ∧ l.Pairwise LtM ∧ ∀ q, p = some q → ∀ m ∈ l, ltS q m.name = true
  | [], p => by simp [okAll]
  | m :: r, p => by
    rw [okAll_cons2]
    have ih := okAll_iff r (some m.name)
    have key : prevLt p m.name = true ↔ ∀ q, p = some q → ltS q m.name = true := by cases p <;> simp [prevLt]
    constructor
    · intro h
      by_cases h1 : nameOk m.name = true
      · rw [if_pos h1] at h
        by_cases h2 : isOf m.role = true
        · rw [if_pos h2] at h
          by_cases h3 : prevLt p m.name = true
          · rw [if_pos h3] at h
            obtain ⟨i1, i2, i3⟩ := ih.1 h
            refine ⟨fun x hx => ?_, List.pairwise_cons.2 ⟨fun x hx => i3 _ rfl x hx, i2⟩, fun q hq x hx => ?_⟩
            · rcases List.mem_cons.1 hx with rfl | hx
              · exact ⟨h1, h2⟩
              · exact i1 x hx
            · rcases List.mem_cons.1 hx with rfl | hx
              · exact key.1 h3 q hq
              · exact ltS_trans (key.1 h3 q hq) (i3 _ rfl x hx)
          · rw [if_neg h3] at h; cases h
        · rw [if_neg h2] at h; cases h
      · rw [if_neg h1] at h; cases h
    · rintro ⟨h1, h2, h3⟩
      obtain ⟨a1, a2⟩ := h1 m (by simp)
      obtain ⟨b1, b2⟩ := List.pairwise_cons.1 h2
      rw [if_pos a1, if_pos a2, if_pos (key.2 fun q hq => h3 q hq m (by simp))]
      exact ih.2 ⟨fun x hx => h1 x (by simp [hx]), b2, fun q hq x hx => by cases hq; exact b1 x hx⟩
theorem lessAll_iff (n : ByteArray) : ∀ l : List Member, lessAll n l = true ↔ ∀ m ∈ l, ltS m.name n = true
  | [] => by simp [lessAll]
  | m :: r => by
    have ih := lessAll_iff n r
    rw [lessAll]
    by_cases h : ltS m.name n = true
    · rw [if_pos h, ih]; simp [h]
    · rw [if_neg h]; simp [h]
theorem refAll_iff : ∀ (l b : List Member), refAll b l = true ↔ (∀ m ∈ l, nameOk m.name = true ∧ isOf m.role = true) ∧ l.Pairwise LtM ∧ ∀ x ∈ b, ∀ m ∈ l, ltS x.name m.name = true
  | [], b => by simp [refAll]
  | m :: r, b => by
    have ih := refAll_iff r (b ++ [m])
    rw [refAll]
    constructor
    · intro h
      by_cases h1 : nameOk m.name = true
      · rw [if_pos h1] at h
        by_cases h2 : isOf m.role = true
        · rw [if_pos h2] at h
          by_cases h3 : lessAll m.name b = true
          · rw [if_pos h3] at h
            obtain ⟨i1, i2, i3⟩ := ih.1 h
            refine ⟨fun x hx => ?_, List.pairwise_cons.2 ⟨fun x hx => i3 m (by simp) x hx, i2⟩, fun q hq x hx => ?_⟩
            · rcases List.mem_cons.1 hx with rfl | hx
              · exact ⟨h1, h2⟩
              · exact i1 x hx
            · rcases List.mem_cons.1 hx with rfl | hx
              · exact (lessAll_iff _ _).1 h3 q hq
              · exact i3 q (by simp [hq]) x hx
          · rw [if_neg h3] at h; cases h
        · rw [if_neg h2] at h; cases h
      · rw [if_neg h1] at h; cases h
    · rintro ⟨h1, h2, h3⟩
      obtain ⟨a1, a2⟩ := h1 m (by simp)
      obtain ⟨b1, b2⟩ := List.pairwise_cons.1 h2
      rw [if_pos a1, if_pos a2, if_pos ((lessAll_iff _ _).2 fun x hx => h3 x hx m (by simp))]
      refine ih.2 ⟨fun x hx => h1 x (by simp [hx]), b2, fun q hq x hx => ?_⟩
      rcases List.mem_append.1 hq with hq | hq
      · exact h3 q hq x (by simp [hx])
      · simp at hq; subst hq; exact b1 x hx
theorem ref_ok (l : List Member) : refAll [] l = okAll none l := by
  rw [Bool.eq_iff_iff, refAll_iff, okAll_iff]
  simp
theorem owners_eq : ∀ l : List Member, (∀ m ∈ l, isOf m.role = true) → ownersOf l = own4 l
  | [], _ => rfl
  | m :: r, h => by
    have ih := owners_eq r fun x hx => h x (by simp [hx])
    obtain ⟨h1, h2⟩ := isOf_true (h m (by simp))
    unfold ownersOf at ih ⊢
    rw [withAt_cons, own4, ← ih]
    by_cases h4 : m.role = 4
    · rw [if_pos (by omega), if_pos (by simp [h4])]; simp; omega
    · rw [if_neg (by omega), if_neg (by simpa using h4)]; omega
structure RightL (l : List Member) : Prop where
  each : ∀ m ∈ l, nameOk m.name = true ∧ isOf m.role = true
  sorted : l.Pairwise LtM
  few : l.length ≤ 8
  own : 0 < own4 l
theorem right_iff (l : List Member) : rightOf l = true ↔ RightL l := by
  unfold rightOf
  simp only [Bool.and_eq_true, decide_eq_true_eq, okAll_iff]
  constructor
  · rintro ⟨⟨h1, h2, _⟩, h3, h4⟩
    exact ⟨h1, h2, h3, by rw [← owners_eq l fun m hm => (h1 m hm).2]; exact h4⟩
  · rintro ⟨h1, h2, h3, h4⟩
    exact ⟨⟨h1, h2, fun q hq => by cases hq⟩, h3, by rw [owners_eq l fun m hm => (h1 m hm).2]; exact h4⟩
theorem ref_right (l : List Member) : refRight l = rightOf l := by
  rw [Bool.eq_iff_iff, right_iff]
  unfold refRight
  simp only [Bool.and_eq_true, decide_eq_true_eq, refAll_iff, Bool.not_eq_true', beq_eq_false_iff_ne]
  constructor
  · rintro ⟨h3, h4, h1, h2, _⟩
    exact ⟨h1, h2, h3, by omega⟩
  · rintro ⟨h1, h2, h3, h4⟩
    exact ⟨h3, by omega, h1, h2, fun q hq => by cases hq⟩
theorem RightL.owners {l : List Member} (h : RightL l) : ownersOf l = own4 l := owners_eq l fun m hm => (h.each m hm).2

/-! Names are different. -/
theorem pair_ne {l : List Member} (h : l.Pairwise LtM) : ∀ {m : Member} {r : List Member}, l = m :: r → ∀ x ∈ r, eqS x.name m.name = false := by
  intro m r e x hx
  subst e
  exact eqS_false.2 fun e => ltS_ne ((List.pairwise_cons.1 h).1 x hx) e.symm
theorem of_pos {l : List Member} (h : ∀ m ∈ l, isOf m.role = true) (name : ByteArray) : (atOf l name < 0 ∧ ofOf l name = 0) ∨ (0 ≤ atOf l name ∧ 1 ≤ ofOf l name ∧ ofOf l name ≤ 4) := by
  rcases atOf_cases name l 0 with ⟨h1, h2⟩ | ⟨i, x, h1, h2, h3, h4⟩
  · left; exact ⟨by rw [show atOf l name = -1 from h1]; decide, h2⟩
  · right
    obtain ⟨a, b⟩ := isOf_true (h x (List.mem_of_getElem? h2))
    exact ⟨by rw [show atOf l name = _ from h1]; omega, by omega, by omega⟩
theorem with_true (name : ByteArray) (role : Int) : ∀ l : List Member, withR name role true l = l.filter fun m => !eqS m.name name
  | [] => rfl
  | m :: r => by
    rw [withR, show (true || leS name m.name) = true from rfl, with_true name role r, List.filter_cons]
    cases h : eqS m.name name <;> simp
theorem filter_none {name : ByteArray} {l : List Member} (h : ∀ x ∈ l, eqS x.name name = false) : (l.filter fun m => !eqS m.name name) = l :=
  List.filter_eq_self.2 fun x hx => by rw [h x hx]; rfl
theorem erase_with {name : ByteArray} : ∀ {l : List Member} {i : Nat} {x : Member}, l.Pairwise LtM → l[i]? = some x → eqS x.name name = true → l.eraseIdx i = withOf l name 0
  | [], i, x, _, h, _ => by simp at h
  | m :: r, 0, x, hp, h, hx => by
    simp at h
    subst h
    have e := eqS_iff.1 hx
    subst e
    rw [withOf, show ((0 : Int) == 0) = true from rfl, with_true, List.filter_cons, hx, List.eraseIdx_cons_zero]
    exact (filter_none (pair_ne hp rfl)).symm
  | m :: r, i + 1, x, hp, h, hx => by
    have ih := erase_with (List.pairwise_cons.1 hp).2 (by simpa using h) hx
    have hm : eqS m.name name = false := by
      rw [← eqS_iff.1 hx]
      exact eqS_false.2 (ltS_ne ((List.pairwise_cons.1 hp).1 x (List.mem_of_getElem? (by simpa using h))))
    rw [withOf, show ((0 : Int) == 0) = true from rfl, with_true] at ih ⊢
    rw [List.eraseIdx_cons_succ, List.filter_cons, hm, ih]
    rfl
theorem leS_false {a b : ByteArray} (h : ltS b a = true) : leS a b = false := by
  unfold leS
  rw [ltS_asymm h, eqS_false.2 (ltS_ne h).symm]
  rfl
theorem leS_true {a b : ByteArray} (h : ltS b a = false) : leS a b = true := by
  unfold leS
  rcases ltS_total a b with h1 | h1 | h1
  · rw [h1]; rfl
  · rw [h1, eqS_iff.2 rfl]; simp
  · rw [h] at h1; cases h1
theorem set_withR {name : ByteArray} {n : Int} : ∀ {l : List Member} {i : Nat} {x : Member}, l.Pairwise LtM → l[i]? = some x → eqS x.name name = true → l.set i ⟨x.name, n⟩ = withR name n false l
  | [], i, x, _, h, _ => by simp at h
  | m :: r, 0, x, hp, h, hx => by
    simp at h
    subst h
    have e := eqS_iff.1 hx
    subst e
    rw [withR, hx, leS_true (ltS_irrefl _), show (false || true) = true from rfl, with_true, filter_none (pair_ne hp rfl)]
    rfl
  | m :: r, i + 1, x, hp, h, hx => by
    have ih := set_withR (n := n) (List.pairwise_cons.1 hp).2 (by simpa using h) hx
    have hlt := (List.pairwise_cons.1 hp).1 x (List.mem_of_getElem? (by simpa using h))
    have e := eqS_iff.1 hx
    subst e
    rw [withR, leS_false hlt, eqS_false.2 (ltS_ne hlt), List.set_cons_succ, ih]
    rfl
theorem set_with {name : ByteArray} {n : Int} {l : List Member} {i : Nat} {x : Member} (hn : n ≠ 0) (hp : l.Pairwise LtM) (h : l[i]? = some x) (hx : eqS x.name name = true) : l.set i ⟨x.name, n⟩ = withOf l name n := by
  rw [withOf, show (n == 0) = false from beq_eq_false_iff_ne.2 hn]
  exact set_withR hp h hx
theorem ins_with {name : ByteArray} {n : Int} : ∀ {l : List Member}, l.Pairwise LtM → (∀ x ∈ l, eqS x.name name = false) → (withR name n false l).Pairwise LtM ∧ ∀ y, y ∈ withR name n false l ↔ y = ⟨name, n⟩ ∨ y ∈ l
  | [], _, _ => by simp [withR]
  | m :: r, hp, hd => by
    obtain ⟨p1, p2⟩ := List.pairwise_cons.1 hp
    obtain ⟨i1, i2⟩ := ins_with (n := n) p2 fun x hx => hd x (by simp [hx])
    have hm := hd m (by simp)
    rw [withR, hm]
    cases hle : leS name m.name
    · have hlt : ltS m.name name = true := by
        rcases ltS_total m.name name with h | h | h
        · exact h
        · rw [eqS_iff.2 h] at hm; cases hm
        · rw [leS_true (ltS_asymm h)] at hle; cases hle
      simp only [Bool.not_false, Bool.and_false, Bool.false_eq_true, if_false, List.nil_append, List.singleton_append, Bool.or_false, List.pairwise_cons, List.mem_cons]
      refine ⟨⟨fun y hy => ?_, i1⟩, fun y => ?_⟩
      · rcases (i2 y).1 hy with rfl | hy
        · exact hlt
        · exact p1 y hy
      · rw [i2 y]
        constructor
        · rintro (h | h | h)
          · exact .inr (.inl h)
          · exact .inl h
          · exact .inr (.inr h)
        · rintro (h | h | h)
          · exact .inr (.inl h)
          · exact .inl h
          · exact .inr (.inr h)
    · have hlt : ltS name m.name = true := by
        rcases ltS_total m.name name with h | h | h
        · rw [leS_false h] at hle; cases hle
        · rw [eqS_iff.2 h] at hm; cases hm
        · exact h
      rw [show (false || true) = true from rfl, with_true, filter_none fun x hx => hd x (by simp [hx])]
      simp only [Bool.not_false, Bool.and_true, if_true, Bool.false_eq_true, if_false, List.singleton_append, List.pairwise_cons, List.mem_cons]
      refine ⟨⟨fun y hy => ?_, p1, p2⟩, fun y => trivial⟩
      rcases hy with rfl | hy
      · exact hlt
      · exact ltS_trans hlt (p1 y hy)
theorem strict_ext : ∀ {l r : List Member}, l.Pairwise LtM → r.Pairwise LtM → (∀ y, y ∈ l ↔ y ∈ r) → l = r
  | [], [], _, _, _ => rfl
  | [], b :: r, _, _, h => by have := (h b).2 (by simp); simp at this
  | a :: l, [], _, _, h => by have := (h a).1 (by simp); simp at this
  | a :: l, b :: r, hl, hr, h => by
    obtain ⟨l1, l2⟩ := List.pairwise_cons.1 hl
    obtain ⟨r1, r2⟩ := List.pairwise_cons.1 hr
    have irr : ∀ x : Member, ¬ LtM x x := fun x hx => by have := ltS_irrefl x.name; rw [show ltS x.name x.name = true from hx] at this; cases this
    have e : a = b := by
      rcases List.mem_cons.1 ((h a).1 (by simp)) with e | e
      · exact e
      · rcases List.mem_cons.1 ((h b).2 (by simp)) with e' | e'
        · exact e'.symm
        · exact absurd (ltS_trans (l1 b e') (r1 a e)) (irr a)
    subst e
    have : l = r := strict_ext l2 r2 fun y => by
      have hy := h y
      simp only [List.mem_cons] at hy
      constructor
      · intro k
        rcases hy.1 (.inr k) with e | e
        · subst e; exact absurd (l1 y k) (irr y)
        · exact e
      · intro k
        rcases hy.2 (.inr k) with e | e
        · subst e; exact absurd (r1 y k) (irr y)
        · exact e
    rw [this]
theorem share_with {name : ByteArray} {n : Int} {l l' : List Member} (hn : n ≠ 0) (hp : l.Pairwise LtM) (hd : ∀ x ∈ l, eqS x.name name = false) (h1 : l'.Perm (l ++ [⟨name, n⟩])) (h2 : ∀ (i j : Nat) (x y : Member), i < j → l'[i]? = some x → l'[j]? = some y → ltS y.name x.name = false) : l' = withOf l name n := by
  rw [withOf, show (n == 0) = false from beq_eq_false_iff_ne.2 hn]
  obtain ⟨i1, i2⟩ := ins_with (n := n) hp hd
  refine strict_ext ?_ i1 fun y => ?_
  · -- the names of l' are all different
    have hnd : (l ++ [(⟨name, n⟩ : Member)]).Pairwise fun a b : Member => eqS a.name b.name = false := by
      rw [List.pairwise_append]
      refine ⟨hp.imp fun h => eqS_false.2 (ltS_ne h), by simp, fun a ha b hb => ?_⟩
      simp at hb
      subst hb
      exact hd a ha
    have hnd' : l'.Pairwise fun a b : Member => eqS a.name b.name = false := (List.Perm.pairwise_iff (fun {a b} h => by
      rw [eqS_false] at h ⊢
      exact fun e => h e.symm) h1).2 hnd
    rw [List.pairwise_iff_getElem] at hnd' ⊢
    intro i j hi hj hij
    have a1 := hnd' i j hi hj hij
    have a2 := h2 i j _ _ hij (List.getElem?_eq_getElem hi) (List.getElem?_eq_getElem hj)
    rcases ltS_total l'[i].name l'[j].name with h | h | h
    · exact h
    · rw [eqS_iff.2 h] at a1; cases a1
    · rw [h] at a2; cases a2
  · rw [i2 y, h1.mem_iff, List.mem_append]
    simp only [List.mem_singleton]
    exact Or.comm
theorem same_refl : ∀ l : List Member, sameAll l l = true
  | [] => rfl
  | m :: r => by
    rw [sameAll, if_pos (by unfold eqM; rw [eqS_iff.2 rfl]; simp)]
    exact same_refl r
theorem sameOf_refl (l : List Member) : sameOf l l = true := by
  unfold sameOf
  simp [same_refl]
theorem of_none {name : ByteArray} : ∀ {l : List Member}, (∀ m ∈ l, isOf m.role = true) → ofOf l name = 0 → ∀ x ∈ l, eqS x.name name = false
  | [], _, _, x, hx => by cases hx
  | m :: r, h, h0, x, hx => by
    rw [ofOf] at h0
    cases hm : eqS m.name name
    · rw [hm] at h0
      rcases List.mem_cons.1 hx with rfl | hx
      · exact hm
      · exact of_none (fun y hy => h y (by simp [hy])) h0 x hx
    · rw [hm] at h0
      have := isOf_true (h m (by simp))
      simp only [if_true] at h0
      omega
end Go.Proofs.Ytanhholjfkofoaa
