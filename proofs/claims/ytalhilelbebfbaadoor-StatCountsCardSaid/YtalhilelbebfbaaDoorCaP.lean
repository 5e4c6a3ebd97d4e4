/- What a call may be: the program's way and the document's are one. Condition: what is a name, is not empty. -/
import Derived.Test.YtalhilelbebfbaaDoorRep
namespace Go.Proofs.YtalhilelbebfbaaDoor

/-- The fields that a kind of call may have. -/
def fieldsOf (k : Nat) : Nat := [0, 0, 9, 9, 1, 21, 21, 5, 67, 35, 1, 3, 3, 1, 4, 0, 4].getD k 0
section
variable (N : ByteArray → Bool)
def emptyB (s : ByteArray) : Bool := decide (s = ⟨#[]⟩)
def txt (s : ByteArray) (has : Bool) : Bool := if has then N s else emptyB s
def num (n a b : Int) (has : Bool) : Bool := if has then decide (a ≤ n) && decide (n ≤ b) else decide (n = 0)
def hasF (k : Int) (m : Nat) : Bool := fieldsOf k.toNat &&& m != 0
def mayP (kind : Int) (user folder name other : ByteArray) (role version len : Int) : Bool :=
  decide (1 ≤ kind) && decide (kind ≤ 16) && N user && txt N folder (hasF kind 1) && txt N name (hasF kind 2) && txt N other (hasF kind 4 || hasF kind 8 && !emptyB other) &&
  !(!hasF kind 1 && decide (other = user)) && !(decide (kind = 2) && decide (other = folder)) && num role 1 4 (hasF kind 16) && num version 0 1099511627776 (hasF kind 32) && num len 0 512 (hasF kind 64)
def mayR (k : Int) (user folder name other : ByteArray) (role version len : Int) : Bool :=
  N user && decide (1 ≤ k) && decide (k ≤ 16) && !((decide (k = 14) || decide (k = 16)) && (!N other || decide (other = user))) &&
  (if k = 1 ∨ 14 ≤ k then !(!emptyB folder || (decide (k = 1) || decide (k = 15)) && !emptyB other) else N folder) &&
  (if k = 2 ∨ k = 3 then !(!emptyB other && !N other || decide (k = 2) && decide (other = folder)) else if 5 ≤ k ∧ k ≤ 7 then N other else !(decide (k < 14) && !emptyB other)) &&
  !((decide (k = 8) || decide (k = 9) || decide (k = 11) || decide (k = 12)) && !N name) && !(!(decide (k = 8) || decide (k = 9) || decide (k = 11) || decide (k = 12)) && !emptyB name) &&
  (if k = 5 ∨ k = 6 then decide (1 ≤ role) && decide (role ≤ 4) else decide (role = 0)) &&
  (if k = 9 then decide (0 ≤ version) && decide (version ≤ 1099511627776) else decide (version = 0)) &&
  (decide (len = 0) || decide (k = 8) && decide (len ≤ 512))
theorem may_eq (hN : N ⟨#[]⟩ = false) (k : Int) (user folder name other : ByteArray) (role version len : Int) (hl : 0 ≤ len) : mayP N k user folder name other role version len = mayR N k user folder name other role version len := by
  by_cases h1 : 1 ≤ k
  rotate_left
  · unfold mayP mayR
    simp [h1]
  by_cases h2 : k ≤ 16
  rotate_left
  · unfold mayP mayR
    simp [h2]
  cases hu : N user with
  | false => unfold mayP mayR; simp [hu]
  | true =>
    have hne : user ≠ ⟨#[]⟩ := fun e => by rw [e, hN] at hu; cases hu
    have hlen : (decide (len = 0) || decide (len ≤ 512)) = decide (len ≤ 512) := by
      by_cases h0 : len = 0
      · simp [h0]
      · simp [h0]
    have hand : ∀ a b : Bool, (a && b) = (b && a) := Bool.and_comm
    have hk : k = 1 ∨ k = 2 ∨ k = 3 ∨ k = 4 ∨ k = 5 ∨ k = 6 ∨ k = 7 ∨ k = 8 ∨ k = 9 ∨ k = 10 ∨ k = 11 ∨ k = 12 ∨ k = 13 ∨ k = 14 ∨ k = 15 ∨ k = 16 := by omega
    clear h1 h2
    rcases hk with rfl | rfl | rfl | rfl | rfl | rfl | rfl | rfl | rfl | rfl | rfl | rfl | rfl | rfl | rfl | rfl
    all_goals
      unfold mayP mayR
      simp only [hasF, fieldsOf, txt, num, hu, emptyB]
      by_cases he : other = ⟨#[]⟩
      · subst he
        have hne2 : ¬ ((⟨#[]⟩ : ByteArray) = user) := fun e => hne e.symm
        simp [hN, hne2, hl, hlen]
        try (cases decide (folder = ⟨#[]⟩) <;> cases decide (name = ⟨#[]⟩) <;> cases N folder <;> cases N name <;> simp <;> omega)
      · simp [he, hl, hlen]
        try (cases N other <;> cases decide (other = user) <;> cases decide (other = folder) <;> cases decide (name = ⟨#[]⟩) <;> cases N folder <;> simp)
end
end Go.Proofs.YtalhilelbebfbaaDoor
