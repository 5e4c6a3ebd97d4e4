/- Numbers as texts: strconv.Itoa by the kit's contract. Conditions: the number is an int; the table of powers reads as it was laid. -/
import Derived.Shelf.Strconv.Itoa3
import Derived.Lib.AppendIntMem
import Derived.Test.YtkapaafbnbnpjaaGreatDoorRows
import Derived.Test.YtkapaafbnbnpjaaGreatDoorBlk
namespace Go.Proofs.YtkapaafbnbnpjaaGreatDoor
open Go.RowKit Go.Deep Go.Shelf

def layItoa_ren : Go.Shelf.Ren := ⟨fun | 171 => 50 | 243 => 73 | 246 => 87 | 283 => 95 | 284 => 96 | 285 => 97 | 286 => 98 | 129 => 72 | 317 => 101 | 318 => 102 | 319 => 103 | 320 => 104 | 337 => 106 | 338 => 107 | n => n, fun | 3 => 3 | 9 => 9 | 2 => 2 | 4 => 4 | 171 => 154 | 0 => 0 | 53 => 120 | 37 => 40 | 5 => 5 | 173 => 156 | 212 => 163 | 51 => 117 | 20 => 20 | 213 => 164 | 46 => 99 | 232 => 166 | 233 => 167 | n => n, fun | 17 => 3 | 18 => 4 | 19 => 5 | n => n⟩
theorem layItoa : Go.Proofs.LaysM.n171 Tryz.prog layItoa_ren := {
  mixed := by kernel_rfl,
  f129 := Tryz.func72.trans (congrArg some (by kernel_rfl)),
  f171 := Tryz.func50.trans (congrArg some (by kernel_rfl)),
  f243 := Tryz.func73.trans (congrArg some (by kernel_rfl)),
  f246 := Tryz.func87.trans (congrArg some (by kernel_rfl)),
  f283 := Tryz.func95.trans (congrArg some (by kernel_rfl)),
  f284 := Tryz.func96.trans (congrArg some (by kernel_rfl)),
  f285 := Tryz.func97.trans (congrArg some (by kernel_rfl)),
  f286 := Tryz.func98.trans (congrArg some (by kernel_rfl)),
  f317 := Tryz.func101.trans (congrArg some (by kernel_rfl)),
  f318 := Tryz.func102.trans (congrArg some (by kernel_rfl)),
  f319 := Tryz.func103.trans (congrArg some (by kernel_rfl)),
  f320 := Tryz.func104.trans (congrArg some (by kernel_rfl)),
  f337 := Tryz.func106.trans (congrArg some (by kernel_rfl)),
  f338 := Tryz.func107.trans (congrArg some (by kernel_rfl)),
  t0 := Tryz.underlying0,
  a0 := Tryz.isAgg0,
  z0 := Tryz.sizeOf0,
  v0 := Tryz.zeroValue0,
  t2 := Tryz.underlying2,
  a2 := Tryz.isAgg2,
  z2 := Tryz.sizeOf2,
  v2 := Tryz.zeroValue2,
  t3 := Tryz.underlying3,
  a3 := Tryz.isAgg3,
  z3 := Tryz.sizeOf3,
  v3 := Tryz.zeroValue3,
  t4 := Tryz.underlying4,
  a4 := Tryz.isAgg4,
  z4 := Tryz.sizeOf4,
  v4 := Tryz.zeroValue4,
  t5 := Tryz.underlying5,
  a5 := Tryz.isAgg5,
  z5 := Tryz.sizeOf5,
  v5 := Tryz.zeroValue5,
  t9 := Tryz.underlying9,
  a9 := Tryz.isAgg9,
  z9 := Tryz.sizeOf9,
  v9 := Tryz.zeroValue9,
  t20 := Tryz.underlying20,
  a20 := Tryz.isAgg20,
  z20 := Tryz.sizeOf20,
  v20 := Tryz.zeroValue20,
  t37 := Tryz.underlying40,
  a37 := Tryz.isAgg40,
  z37 := Tryz.sizeOf40,
  v37 := Tryz.zeroValue40,
  t46 := Tryz.underlying99,
  a46 := Tryz.isAgg99,
  z46 := Tryz.sizeOf99,
  v46 := Tryz.zeroValue99,
  t51 := Tryz.underlying117,
  a51 := Tryz.isAgg117,
  z51 := Tryz.sizeOf117,
  v51 := Tryz.zeroValue117,
  t53 := Tryz.underlying120,
  a53 := Tryz.isAgg120,
  z53 := Tryz.sizeOf120,
  v53 := Tryz.zeroValue120,
  t171 := Tryz.underlying154,
  a171 := Tryz.isAgg154,
  z171 := Tryz.sizeOf154,
  v171 := Tryz.zeroValue154,
  t173 := Tryz.underlying156,
  a173 := Tryz.isAgg156,
  z173 := Tryz.sizeOf156,
  v173 := Tryz.zeroValue156,
  t212 := Tryz.underlying163,
  a212 := Tryz.isAgg163,
  z212 := Tryz.sizeOf163,
  v212 := Tryz.zeroValue163,
  t213 := Tryz.underlying164,
  a213 := Tryz.isAgg164,
  z213 := Tryz.sizeOf164,
  t232 := Tryz.underlying166,
  a232 := Tryz.isAgg166,
  z232 := Tryz.sizeOf166,
  v232 := Tryz.zeroValue166,
  t233 := Tryz.underlying167,
  a233 := Tryz.isAgg167,
  z233 := Tryz.sizeOf167,
  v233 := Tryz.zeroValue167,
  g17 := by kernel_rfl,
  g18 := by kernel_rfl,
  g19 := by kernel_rfl,
  i0 := by kernel_rfl,
  i2 := by kernel_rfl,
  i3 := by kernel_rfl,
  i4 := by kernel_rfl,
  i5 := by kernel_rfl,
  i9 := by kernel_rfl,
  i20 := by kernel_rfl,
  i37 := by kernel_rfl,
  i46 := by kernel_rfl,
  i51 := by kernel_rfl,
  i53 := by kernel_rfl,
  i171 := by kernel_rfl,
  i173 := by kernel_rfl,
  i212 := by kernel_rfl,
  i232 := by kernel_rfl,
  i233 := by kernel_rfl,
  m17 := by kernel_rfl,
  m18 := by kernel_rfl,
  m19 := by kernel_rfl }

def powName : String := Rows.showEachUptoRow.named.getD 2 default
def Pow (w : World) : Prop := Lib.TabIs Tryz.prog w powName .u64 Lib.pow10Tab
theorem Pow.below {w w' : World} (h : Pow w) (hb : Below w.heap.size w w') : Pow w' := by
  unfold Pow Lib.TabIs World.var? at h ⊢
  cases hg : Tryz.prog.globalNamed powName with
  | none => rw [hg] at h; cases h
  | some g =>
    rw [hg] at h
    simp only [Option.bind_some] at h ⊢
    cases hc : w.heap[g]? with
    | none => rw [hc] at h; cases h
    | some o => rw [hb.block g (blk_lt hc), hc]; rw [hc] at h; exact h

def itoaS (n : Int) : ByteArray := ⟨(Lib.itoa n).toArray⟩
def digS (u : Nat) : ByteArray := ⟨(Lib.decDigits u).toArray⟩
theorem itoa_any (n : Int) (hn : I64 n) (w : World) (hp : Pow w) :
    Calls Tryz.prog 50 #[.int .i64 n] w fun e w' => e = .returned (.string (itoaS n)) ∧ Below w.heap.size w w' := by
  refine Calls.mono (Any.strconv_Itoa layItoa n hn.1 hn.2 w hp) ?_
  rintro e w' ⟨rfl, k, os, rfl⟩
  exact ⟨rfl, Lib.below_grow _ w (Nat.le_refl _) k os⟩
theorem num_any (n : Int) (hn : I64 n) (w : World) (hp : Pow w) :
    Calls Tryz.prog 33 #[.int .i64 n] w fun e w' => e = .returned (.string (itoaS n)) ∧ Below w.heap.size w w' := by
  have c := itoa_any n hn w hp
  go_enter Tryz.func33, Tryz.ntmps33
  go_wp2_with (go_at_call 50; refine Calls.mono c ?_; rintro e w1 ⟨rfl, B1⟩)
  go_ret
  exact ⟨rfl, B1⟩

theorem nDigits_le : ∀ (k u : Nat), 1 ≤ k → u < 10 ^ k → Lib.nDigits u ≤ k
  | 0, _, h, _ => by omega
  | 1, u, _, h => by rw [Lib.nDigits_small (by simpa using h)]; omega
  | k + 2, u, _, h => by
    by_cases h1 : u < 10
    · rw [Lib.nDigits_small h1]; omega
    · rw [Lib.nDigits_big h1]
      have := nDigits_le (k + 1) (u / 10) (by omega) (by rw [Nat.pow_succ] at h; omega)
      omega
theorem digS_size (u : Nat) (h : u < 10000000000000000000) : (digS u).size ≤ 19 := by
  have : (digS u).size = (Lib.decDigits u).length := by simp [digS, ByteArray.size]
  rw [this, Lib.decDigits_length]
  exact nDigits_le 19 u (by omega) (by omega)
theorem itoaS_nonneg (u : Nat) : itoaS (u : Int) = digS u := by rw [itoaS, Lib.itoa_nonneg]; rfl
theorem itoaS_neg (u : Nat) (h : 1 ≤ u) : itoaS (-(u : Int)) = ⟨#[45]⟩ ++ digS u := by
  apply Go.WideShapes.bytes_inj
  rw [itoaS, Lib.itoa_neg u h]
  simp [digS, ByteArray.data_append]
theorem digS_big (u : Nat) (h : ¬ u < 10) : digS u = digS (u / 10) ++ digS (u % 10) := by
  apply Go.WideShapes.bytes_inj
  have h1 : Lib.decDigits (u % 10) = [UInt8.ofNat (48 + u % 10)] := Lib.decDigits_one (by omega)
  rw [digS, Lib.decDigits, dif_neg h]
  simp [digS, ByteArray.data_append, h1]
theorem digS_one : ∀ u : Fin 10, (⟨#[48, 49, 50, 51, 52, 53, 54, 55, 56, 57]⟩ : ByteArray).extract u.val (u.val + 1) = digS u.val := by
  intro u
  apply Go.WideShapes.bytes_inj
  rw [digS, Lib.decDigits_one u.isLt]
  revert u
  decide
theorem itoaS_size (n : Int) (hn : I64 n) : (itoaS n).size ≤ 20 := by
  obtain ⟨h1, h2⟩ := hn
  rcases Int.lt_or_le n 0 with h | h
  · obtain ⟨u, rfl⟩ : ∃ u : Nat, n = -(u : Int) := ⟨n.natAbs, by omega⟩
    rw [itoaS_neg u (by omega), ByteArray.size_append]
    have := digS_size u (by omega)
    have h3 : (⟨#[45]⟩ : ByteArray).size = 1 := rfl
    omega
  · obtain ⟨u, rfl⟩ : ∃ u : Nat, n = (u : Int) := ⟨n.natAbs, by omega⟩
    rw [itoaS_nonneg u]
    have := digS_size u (by omega)
    omega
end Go.Proofs.YtkapaafbnbnpjaaGreatDoor
