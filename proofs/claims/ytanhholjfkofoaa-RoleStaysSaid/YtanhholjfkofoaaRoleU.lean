/- Layer role: whatever is done to a right list, it stays right; plain, no program in sight. -/
import Derived.Test.YtanhholjfkofoaaRoleI
namespace Go.Proofs.Ytanhholjfkofoaa
open Go.RowKit Go.Deep

theorem of_withR_other {name x : ByteArray} {role : Int} (h : eqS name x = false) : ∀ (l : List Member) (d : Bool), ofOf (withR name role d l) x = ofOf l x
  | [], d => by cases d <;> simp [withR, ofOf, h]
  | m :: r, d => by
    have ih := of_withR_other (role := role) h r (d || leS name m.name)
    have key : ofOf ((if eqS m.name name then [] else [m]) ++ withR name role (d || leS name m.name) r) x = ofOf (m :: r) x := by
      cases hm : eqS m.name name
      · show ofOf (m :: withR name role (d || leS name m.name) r) x = _
        rw [ofOf, ofOf, ih]
      · show ofOf (withR name role (d || leS name m.name) r) x = _
        rw [ofOf, ih, eqS_iff.1 hm, h]
        rfl
    rw [withR]
    cases hc : !d && leS name m.name
    · exact key
    · show ofOf (⟨name, role⟩ :: ((if eqS m.name name then [] else [m]) ++ withR name role (d || leS name m.name) r)) x = _
      rw [ofOf, h]
      exact key
theorem of_withR_same {name : ByteArray} {role : Int} : ∀ (l : List Member) (d : Bool), ofOf (withR name role d l) name = if d then 0 else role
  | [], d => by cases d <;> simp [withR, ofOf, eqS_iff.2]
  | m :: r, d => by
    rw [withR]
    cases d
    · cases hle : leS name m.name
      · have hm : eqS m.name name = false := by
          cases h : eqS m.name name
          · rfl
          · rw [eqS_iff.1 h, leS_true (ltS_irrefl _)] at hle; cases hle
        rw [hm]
        show ofOf (m :: withR name role (false || false) r) name = _
        rw [ofOf, hm]
        exact of_withR_same r _
      · show ofOf (⟨name, role⟩ :: _) name = _
        rw [ofOf, eqS_iff.2 rfl]
        rfl
    · show ofOf ((if eqS m.name name then [] else [m]) ++ withR name role true r) name = 0
      cases hm : eqS m.name name
      · show ofOf (m :: withR name role true r) name = 0
        rw [ofOf, hm]
        exact of_withR_same r true
      · exact of_withR_same r true
theorem of_with_other {name x : ByteArray} {role : Int} {l : List Member} (h : eqS name x = false) : ofOf (withOf l name role) x = ofOf l x := of_withR_other h l _
theorem of_with_same {name : ByteArray} {role : Int} {l : List Member} : ofOf (withOf l name role) name = role := by
  rw [withOf, of_withR_same]
  cases h : role == 0
  · rfl
  · exact (beq_iff_eq.1 h).symm

/-! How many owners. -/
theorem own4_count : ∀ l : List Member, own4 l = l.countP fun m => m.role == 4
  | [] => rfl
  | m :: r => by
    rw [own4, own4_count r, List.countP_cons]
    cases h : m.role == 4 <;> simp <;> omega
theorem own4_perm {l r : List Member} (h : l.Perm r) : own4 l = own4 r := by
  rw [own4_count, own4_count]
  exact h.countP_eq _
theorem own4_set : ∀ (l : List Member) (i : Nat) (x y : Member), l[i]? = some x → own4 (l.set i y) + (if x.role == 4 then 1 else 0) = own4 l + (if y.role == 4 then 1 else 0)
  | [], i, x, y, h => by simp at h
  | m :: r, 0, x, y, h => by
    simp at h
    subst h
    rw [List.set_cons_zero, own4, own4]
    omega
  | m :: r, i + 1, x, y, h => by
    have := own4_set r i x y (by simpa using h)
    rw [List.set_cons_succ, own4, own4]
    omega
theorem own4_erase : ∀ (l : List Member) (i : Nat) (x : Member), l[i]? = some x → own4 (l.eraseIdx i) + (if x.role == 4 then 1 else 0) = own4 l
  | [], i, x, h => by simp at h
  | m :: r, 0, x, h => by
    simp at h
    subst h
    rw [List.eraseIdx_cons_zero, own4]
    omega
  | m :: r, i + 1, x, h => by
    have := own4_erase r i x (by simpa using h)
    rw [List.eraseIdx_cons_succ, own4, own4]
    omega
theorem ins_perm {name : ByteArray} {n : Int} : ∀ {l : List Member}, (∀ x ∈ l, eqS x.name name = false) → (withR name n false l).Perm (⟨name, n⟩ :: l)
  | [], _ => by simp [withR]
  | m :: r, hd => by
    have hm := hd m (by simp)
    have ih := ins_perm (n := n) fun x hx => hd x (List.mem_cons_of_mem m hx)
    rw [withR, hm]
    cases hle : leS name m.name
    · show (m :: withR name n (false || false) r).Perm _
      exact (List.Perm.cons m ih).trans (List.Perm.swap _ _ _)
    · show (⟨name, n⟩ :: m :: withR name n (false || true) r).Perm _
      rw [show (false || true) = true from rfl, with_true, filter_none fun x hx => hd x (by simp [hx])]

/-- What a step may be. -/
structure Good (cur next : List Member) (by_ name : ByteArray) : Prop where
  right : RightL next
  mine : ¬ (ofOf cur by_ < 3 ∧ eqS by_ name = false)
  high : ¬ (ofOf cur by_ < 4 ∧ 3 ≤ max (ofOf cur name) (ofOf next name) ∧ (eqS by_ name = false ∨ ofOf next name ≠ 0))
  rest : ∀ m ∈ cur, eqS m.name name = false → ofOf next m.name = m.role
  differ : ofOf cur name ≠ ofOf next name → stepOf cur next by_ = ((ofOf next name == 0), 0)
  same : ofOf cur name = ofOf next name → stepOf cur next by_ = (false, 11)

theorem of_mem {l : List Member} (hp : l.Pairwise LtM) : ∀ m ∈ l, ofOf l m.name = m.role := by
  induction l with
  | nil => intro m hm; cases hm
  | cons a r ih =>
    obtain ⟨p1, p2⟩ := List.pairwise_cons.1 hp
    intro m hm
    rw [ofOf]
    rcases List.mem_cons.1 hm with rfl | hm
    · rw [eqS_iff.2 rfl]; rfl
    · rw [eqS_false.2 (ltS_ne (p1 m hm))]
      exact ih p2 m hm
theorem filter_name {l : List Member} (hp : l.Pairwise LtM) {name : ByteArray} (p : Member → Bool) (h1 : ∀ m ∈ l, eqS m.name name = false → p m = false) : (∀ m ∈ l, eqS m.name name = true → p m = true) → (∃ m ∈ l, eqS m.name name = true) → (l.filter p).map (·.name) = [name] := by
  induction l with
  | nil => intro _ ⟨m, hm, _⟩; cases hm
  | cons a r ih =>
    obtain ⟨p1, p2⟩ := List.pairwise_cons.1 hp
    intro h2 ⟨m, hm, he⟩
    rw [List.filter_cons]
    cases ha : eqS a.name name
    · rw [h1 a (by simp) ha]
      refine ih p2 (fun x hx => h1 x (by simp [hx])) (fun x hx => h2 x (by simp [hx])) ?_
      rcases List.mem_cons.1 hm with rfl | hm
      · rw [he] at ha; cases ha
      · exact ⟨m, hm, he⟩
    · rw [h2 a (by simp) ha]
      have hr : r.filter p = [] := List.filter_eq_nil_iff.2 fun x hx => by
        have : eqS x.name name = false := by rw [← eqS_iff.1 ha]; exact eqS_false.2 (ltS_ne (p1 x hx)).symm
        rw [h1 x (by simp [hx]) this]
        simp
      rw [if_pos rfl, List.map_cons, hr, eqS_iff.1 ha]
      rfl
theorem mem_of_pos {l : List Member} {name : ByteArray} (h : ofOf l name ≠ 0) : ∃ m ∈ l, eqS m.name name = true ∧ ofOf l name = m.role := by
  rcases atOf_cases name l 0 with ⟨_, h2⟩ | ⟨i, x, _, h2, h3, h4⟩
  · exact absurd h2 h
  · exact ⟨x, List.mem_of_getElem? h2, h4, h3⟩

/-- The names in which a list and the next one differ. -/
theorem difs {cur next : List Member} {name : ByteArray} (R1 : RightL cur) (R2 : RightL next) (ho : ∀ x, eqS name x = false → ofOf next x = ofOf cur x) : dif1 next cur ++ dif2 cur next = if ofOf cur name = ofOf next name then [] else [name] := by
  have sw : ∀ a b : ByteArray, eqS a b = false → eqS b a = false := fun a b h => eqS_false.2 (eqS_false.1 h).symm
  have r1 := fun m hm => (R1.each m hm).2
  have r2 := fun m hm => (R2.each m hm).2
  have z1 : ∀ m ∈ cur, eqS m.name name = false → (!(ofOf next m.name == m.role)) = false := fun m hm h => by
    rw [ho _ (sw _ _ h), of_mem R1.sorted m hm]; simp
  have z2 : ∀ m ∈ next, eqS m.name name = false → (ofOf cur m.name == 0) = false := fun m hm h => by
    rw [← ho _ (sw _ _ h), of_mem R2.sorted m hm]
    have := isOf_true (r2 m hm)
    exact beq_eq_false_iff_ne.2 (by omega)
  by_cases h0 : ofOf cur name = 0
  · have none1 : ∀ m ∈ cur, eqS m.name name = false := of_none r1 h0
    have e1 : dif1 next cur = [] := by
      unfold dif1
      rw [List.filter_eq_nil_iff.2 fun m hm => by rw [z1 m hm (none1 m hm)]; simp]
      rfl
    rw [e1, List.nil_append]
    by_cases hn : ofOf next name = 0
    · rw [if_pos (by rw [h0, hn])]
      unfold dif2
      rw [List.filter_eq_nil_iff.2 fun m hm => by rw [z2 m hm (of_none r2 hn m hm)]; simp]
      rfl
    · rw [if_neg (by rw [h0]; exact fun h => hn h.symm)]
      obtain ⟨m, hm, he, _⟩ := mem_of_pos hn
      exact filter_name R2.sorted _ z2 (fun x hx hxe => by rw [eqS_iff.1 hxe, h0]; rfl) ⟨m, hm, he⟩
  · obtain ⟨m, hm, he, hr⟩ := mem_of_pos h0
    have e2 : dif2 cur next = [] := by
      unfold dif2
      rw [List.filter_eq_nil_iff.2 fun x hx => by
        cases hx' : eqS x.name name
        · rw [z2 x hx hx']; simp
        · rw [eqS_iff.1 hx']
          simp [h0]]
      rfl
    rw [e2, List.append_nil]
    by_cases hs : ofOf cur name = ofOf next name
    · rw [if_pos hs]
      unfold dif1
      rw [List.filter_eq_nil_iff.2 fun x hx => by
        cases hx' : eqS x.name name
        · rw [z1 x hx hx']; simp
        · have := of_mem R1.sorted x hx
          rw [eqS_iff.1 hx'] at this ⊢
          rw [← hs, this]
          simp]
      rfl
    · rw [if_neg hs]
      refine filter_name R1.sorted _ z1 (fun x hx hxe => ?_) ⟨m, hm, he⟩
      have := of_mem R1.sorted x hx
      rw [eqS_iff.1 hxe] at this ⊢
      rw [← this]
      have h : (ofOf next name == ofOf cur name) = false := beq_eq_false_iff_ne.2 fun h => hs h.symm
      rw [h]
      rfl
theorem step_same {cur next : List Member} {by_ name : ByteArray} (R1 : RightL cur) (R2 : RightL next) (ho : ∀ x, eqS name x = false → ofOf next x = ofOf cur x) (h : ofOf cur name = ofOf next name) : stepOf cur next by_ = (false, 11) := by
  rw [stepOf, if_neg (by rw [(right_iff _).2 R1, (right_iff _).2 R2]; simp), difs R1 R2 ho, if_pos h]
theorem step_differ {cur next : List Member} {by_ name : ByteArray} (R1 : RightL cur) (R2 : RightL next) (ho : ∀ x, eqS name x = false → ofOf next x = ofOf cur x) (h : ofOf cur name ≠ ofOf next name) :
    stepOf cur next by_ = if ofOf next name = 0 then (revokeD cur by_ name == 0, revokeD cur by_ name) else if ofOf cur name = 0 then (false, shareD cur by_ name (ofOf next name)) else (false, changeD cur by_ name (ofOf next name)) := by
  rw [stepOf, if_neg (by rw [(right_iff _).2 R1, (right_iff _).2 R2]; simp), difs R1 R2 ho, if_neg h]

theorem good_share {cur : List Member} {by_ name : ByteArray} {n : Int} (h : shareD cur by_ name n = 0) : Good cur (withOf cur name n) by_ name := by
  obtain ⟨R, hk, hi, h0, hm, hh, h8⟩ := shareD_zero h
  have hr := fun m hm => (R.each m hm).2
  obtain ⟨n1, n4⟩ := isOf_true hi
  have h0' : ofOf cur name = 0 := by rcases of_pos hr name with ⟨_, b⟩ | ⟨_, b, _⟩ <;> omega
  have hd := of_none hr h0'
  have e : withOf cur name n = withR name n false cur := by rw [withOf, show (n == 0) = false from beq_eq_false_iff_ne.2 (by omega)]
  have hs : ofOf (withOf cur name n) name = n := of_with_same
  have ho : ∀ x, eqS name x = false → ofOf (withOf cur name n) x = ofOf cur x := fun x hx => of_with_other hx
  obtain ⟨i1, i2⟩ := ins_with (n := n) R.sorted hd
  have hp := ins_perm (n := n) hd
  have R2 : RightL (withOf cur name n) := by
    rw [e]
    refine ⟨fun m hm => ?_, i1, ?_, ?_⟩
    · rcases (i2 m).1 hm with rfl | hm
      · exact ⟨hk, hi⟩
      · exact R.each m hm
    · rw [hp.length_eq, List.length_cons]
      have := R.few
      omega
    · rw [own4_perm hp, own4]
      have := R.own
      omega
  refine ⟨R2, by omega, ?_, fun m hm hne => ?_, fun hne => ?_, fun he => step_same R R2 ho he⟩
  · rw [hs, h0']
    rintro ⟨a, b, _⟩
    have : 2 < n := by omega
    have := hh this
    omega
  · rw [ho _ (eqS_false.2 (eqS_false.1 hne).symm), of_mem R.sorted m hm]
  · rw [step_differ R R2 ho hne, hs, if_neg (by omega), if_pos h0', h, show (n == 0) = false from beq_eq_false_iff_ne.2 (by omega)]
theorem good_change {cur : List Member} {by_ name : ByteArray} {n : Int} (h : changeD cur by_ name n = 0) : Good cur (withOf cur name n) by_ name := by
  obtain ⟨R, hk, hi, h0, hm, hh, hl⟩ := changeD_zero h
  have hr := fun m hm => (R.each m hm).2
  obtain ⟨n1, n4⟩ := isOf_true hi
  have hs : ofOf (withOf cur name n) name = n := of_with_same
  have ho : ∀ x, eqS name x = false → ofOf (withOf cur name n) x = ofOf cur x := fun x hx => of_with_other hx
  obtain ⟨i, x, hx, hxe, hxr⟩ : ∃ (i : Nat) (x : Member), cur[i]? = some x ∧ eqS x.name name = true ∧ ofOf cur name = x.role := by
    rcases atOf_cases name cur 0 with ⟨_, h2⟩ | ⟨i, x, _, h2, h3, h4⟩
    · exact absurd h2 h0
    · exact ⟨i, x, h2, h4, h3⟩
  have e := set_with (name := name) (n := n) (by omega) R.sorted hx hxe
  have hlt : (cur.set i ⟨x.name, n⟩).Pairwise LtM := by
    have hmap : (cur.set i ⟨x.name, n⟩).map (·.name) = cur.map (·.name) := by
      rw [List.map_set]
      apply List.ext_getElem?
      intro j
      rw [List.getElem?_set]
      by_cases hij : i = j
      · subst hij
        have hil := (List.getElem?_eq_some_iff.1 hx).1
        rw [if_pos rfl, if_pos (by simpa using hil), List.getElem?_map, hx]
        rfl
      · rw [if_neg hij]
    have h1 : (cur.map (·.name)).Pairwise fun a b => ltS a b = true := List.pairwise_map.2 R.sorted
    rw [← hmap] at h1
    exact (List.pairwise_map (f := fun m : Member => m.name)).1 h1
  have R2 : RightL (withOf cur name n) := by
    rw [← e]
    refine ⟨fun m hm => ?_, hlt, by rw [List.length_set]; exact R.few, ?_⟩
    · rcases List.mem_or_eq_of_mem_set hm with hm | rfl
      · exact R.each m hm
      · exact ⟨by rw [eqS_iff.1 hxe]; exact hk, hi⟩
    · have := own4_set cur i x ⟨x.name, n⟩ hx
      have h1 := R.own
      by_cases hx4 : x.role = 4
      · by_cases hn4 : n = 4
        · subst hn4
          simp [hx4] at this
          omega
        · simp [hx4, hn4] at this
          omega
      · simp [hx4] at this
        omega
  refine ⟨R2, by omega, ?_, fun m hm hne => ?_, fun hne => ?_, fun he => step_same R R2 ho he⟩
  · rw [hs]
    rintro ⟨a, b, _⟩
    have : 2 < n ∨ 2 < ofOf cur name := by omega
    have := hh this
    omega
  · rw [ho _ (eqS_false.2 (eqS_false.1 hne).symm), of_mem R.sorted m hm]
  · rw [step_differ R R2 ho hne, hs, if_neg (by omega), if_neg h0, h, show (n == 0) = false from beq_eq_false_iff_ne.2 (by omega)]
theorem good_revoke {cur : List Member} {by_ name : ByteArray} (h : revokeD cur by_ name = 0) : Good cur (withOf cur name 0) by_ name := by
  obtain ⟨R, hk, h0, hm, hl⟩ := revokeD_zero h
  have hs : ofOf (withOf cur name 0) name = 0 := of_with_same
  have ho : ∀ x, eqS name x = false → ofOf (withOf cur name 0) x = ofOf cur x := fun x hx => of_with_other hx
  obtain ⟨i, x, hx, hxe, hxr⟩ : ∃ (i : Nat) (x : Member), cur[i]? = some x ∧ eqS x.name name = true ∧ ofOf cur name = x.role := by
    rcases atOf_cases name cur 0 with ⟨_, h2⟩ | ⟨i, x, _, h2, h3, h4⟩
    · exact absurd h2 h0
    · exact ⟨i, x, h2, h4, h3⟩
  have e := erase_with (name := name) R.sorted hx hxe
  have hil := (List.getElem?_eq_some_iff.1 hx).1
  have R2 : RightL (withOf cur name 0) := by
    rw [← e]
    refine ⟨fun m hm => R.each m (List.mem_of_mem_eraseIdx hm), R.sorted.sublist (List.eraseIdx_sublist _ _), ?_, ?_⟩
    · rw [List.length_eraseIdx_of_lt hil]
      have := R.few
      omega
    · have := own4_erase cur i x hx
      have h1 := R.own
      by_cases hx4 : x.role = 4
      · simp [hx4] at this
        omega
      · simp [hx4] at this
        omega
  refine ⟨R2, ?_, ?_, fun m hm hne => ?_, fun hne => ?_, fun he => step_same R R2 ho he⟩
  · rintro ⟨a, b⟩
    have := (hm b).1
    omega
  · rw [hs]
    rintro ⟨a, b, c⟩
    rcases c with c | c
    · have := (hm c).2 (by omega)
      omega
    · exact c rfl
  · rw [ho _ (eqS_false.2 (eqS_false.1 hne).symm), of_mem R.sorted m hm]
  · rw [step_differ R R2 ho hne, hs, if_pos rfl, h]
theorem with_all {l : List Member} (h : ∀ m ∈ l, isOf m.role = true) : (withAt l 0).length = l.length := by
  unfold withAt
  rw [List.length_map, List.filter_eq_self.2 fun m hm => by have := isOf_true (h m hm); simp; omega]
end Go.Proofs.Ytanhholjfkofoaa
