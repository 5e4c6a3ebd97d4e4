/- Numbers as texts: strconv.Itoa by the kit's contract, the document's Num. Conditions: the number is an int; the table of powers reads as it was laid. -/
import Derived.Shelf.Strconv.Itoa3
import Derived.Lib.AppendIntMem
import Derived.Test.YtkndlhlhcpppgaaDoorRows
import Derived.Test.YtkndlhlhcpppgaaDoorShB
namespace Go.Proofs.YtkndlhlhcpppgaaDoor
open Go.RowKit Go.Deep Go.Shelf

def layItoa_ren : Go.Shelf.Ren := ⟨fun | 171 => 32 | 243 => 41 | 246 => 46 | 283 => 52 | 284 => 53 | 285 => 54 | 286 => 55 | 129 => 58 | 317 => 57 | 318 => 59 | 319 => 60 | 320 => 61 | 337 => 63 | 338 => 64 | n => n, fun | 3 => 3 | 9 => 9 | 2 => 2 | 4 => 4 | 171 => 82 | 0 => 0 | 53 => 68 | 37 => 38 | 5 => 5 | 173 => 85 | 212 => 92 | 51 => 65 | 20 => 20 | 213 => 93 | 46 => 49 | 232 => 97 | 233 => 98 | n => n, fun | 17 => 3 | 18 => 4 | 19 => 5 | n => n⟩
theorem layItoa : Go.Proofs.LaysM.n171 Tryd.prog layItoa_ren := {
  mixed := by kernel_rfl,
  f129 := Tryd.func58.trans (congrArg some (by kernel_rfl)),
  f171 := Tryd.func32.trans (congrArg some (by kernel_rfl)),
  f243 := Tryd.func41.trans (congrArg some (by kernel_rfl)),
  f246 := Tryd.func46.trans (congrArg some (by kernel_rfl)),
  f283 := Tryd.func52.trans (congrArg some (by kernel_rfl)),
  f284 := Tryd.func53.trans (congrArg some (by kernel_rfl)),
  f285 := Tryd.func54.trans (congrArg some (by kernel_rfl)),
  f286 := Tryd.func55.trans (congrArg some (by kernel_rfl)),
  f317 := Tryd.func57.trans (congrArg some (by kernel_rfl)),
  f318 := Tryd.func59.trans (congrArg some (by kernel_rfl)),
  f319 := Tryd.func60.trans (congrArg some (by kernel_rfl)),
  f320 := Tryd.func61.trans (congrArg some (by kernel_rfl)),
  f337 := Tryd.func63.trans (congrArg some (by kernel_rfl)),
  f338 := Tryd.func64.trans (congrArg some (by kernel_rfl)),
  t0 := Tryd.underlying0,
  a0 := Tryd.isAgg0,
  z0 := Tryd.sizeOf0,
  v0 := Tryd.zeroValue0,
  t2 := Tryd.underlying2,
  a2 := Tryd.isAgg2,
  z2 := Tryd.sizeOf2,
  v2 := Tryd.zeroValue2,
  t3 := Tryd.underlying3,
  a3 := Tryd.isAgg3,
  z3 := Tryd.sizeOf3,
  v3 := Tryd.zeroValue3,
  t4 := Tryd.underlying4,
  a4 := Tryd.isAgg4,
  z4 := Tryd.sizeOf4,
  v4 := Tryd.zeroValue4,
  t5 := Tryd.underlying5,
  a5 := Tryd.isAgg5,
  z5 := Tryd.sizeOf5,
  v5 := Tryd.zeroValue5,
  t9 := Tryd.underlying9,
  a9 := Tryd.isAgg9,
  z9 := Tryd.sizeOf9,
  v9 := Tryd.zeroValue9,
  t20 := Tryd.underlying20,
  a20 := Tryd.isAgg20,
  z20 := Tryd.sizeOf20,
  v20 := Tryd.zeroValue20,
  t37 := Tryd.underlying38,
  a37 := Tryd.isAgg38,
  z37 := Tryd.sizeOf38,
  v37 := Tryd.zeroValue38,
  t46 := Tryd.underlying49,
  a46 := Tryd.isAgg49,
  z46 := Tryd.sizeOf49,
  v46 := Tryd.zeroValue49,
  t51 := Tryd.underlying65,
  a51 := Tryd.isAgg65,
  z51 := Tryd.sizeOf65,
  v51 := Tryd.zeroValue65,
  t53 := Tryd.underlying68,
  a53 := Tryd.isAgg68,
  z53 := Tryd.sizeOf68,
  v53 := Tryd.zeroValue68,
  t171 := Tryd.underlying82,
  a171 := Tryd.isAgg82,
  z171 := Tryd.sizeOf82,
  v171 := Tryd.zeroValue82,
  t173 := Tryd.underlying85,
  a173 := Tryd.isAgg85,
  z173 := Tryd.sizeOf85,
  v173 := Tryd.zeroValue85,
  t212 := Tryd.underlying92,
  a212 := Tryd.isAgg92,
  z212 := Tryd.sizeOf92,
  v212 := Tryd.zeroValue92,
  t213 := Tryd.underlying93,
  a213 := Tryd.isAgg93,
  z213 := Tryd.sizeOf93,
  t232 := Tryd.underlying97,
  a232 := Tryd.isAgg97,
  z232 := Tryd.sizeOf97,
  v232 := Tryd.zeroValue97,
  t233 := Tryd.underlying98,
  a233 := Tryd.isAgg98,
  z233 := Tryd.sizeOf98,
  v233 := Tryd.zeroValue98,
  g17 := by kernel_rfl,
  g18 := by kernel_rfl,
  g19 := by kernel_rfl,
  i0 := by kernel_rfl,
  i2 := by kernel_rfl,
  i3 := by kernel_rfl,
  i4 := by kernel_rfl,
  i5 := by kernel_rfl,
  i9 := by kernel_rfl,
  i20 := by kernel_rfl,
  i37 := by kernel_rfl,
  i46 := by kernel_rfl,
  i51 := by kernel_rfl,
  i53 := by kernel_rfl,
  i171 := by kernel_rfl,
  i173 := by kernel_rfl,
  i212 := by kernel_rfl,
  i232 := by kernel_rfl,
  i233 := by kernel_rfl,
  m17 := by kernel_rfl,
  m18 := by kernel_rfl,
  m19 := by kernel_rfl }

def powName : String := Rows.showHistoryRow.named.getD 2 default
def Pow (w : World) : Prop := Lib.TabIs Tryd.prog w powName .u64 Lib.pow10Tab
theorem Pow.below {w w' : World} (h : Pow w) (hb : Below w.heap.size w w') : Pow w' := by
  unfold Pow Lib.TabIs World.var? at h ⊢
  cases hg : Tryd.prog.globalNamed powName with
  | none => rw [hg] at h; cases h
  | some g =>
    rw [hg] at h
    simp only [Option.bind_some] at h ⊢
    cases hc : w.heap[g]? with
    | none => rw [hc] at h; cases h
    | some o => rw [hb.block g (blk_lt hc), hc]; rw [hc] at h; exact h

def itoaS (n : Int) : ByteArray := ⟨(Lib.itoa n).toArray⟩
def digS (u : Nat) : ByteArray := ⟨(Lib.decDigits u).toArray⟩
theorem itoa_any (n : Int) (hn : I64 n) (w : World) (hp : Pow w) :
    Calls Tryd.prog 32 #[.int .i64 n] w fun e w' => e = .returned (.string (itoaS n)) ∧ Below w.heap.size w w' := by
  refine Calls.mono (Any.strconv_Itoa layItoa n hn.1 hn.2 w hp) ?_
  rintro e w' ⟨rfl, k, os, rfl⟩
  exact ⟨rfl, Lib.below_grow _ w (Nat.le_refl _) k os⟩
theorem num_any (n : Int) (hn : I64 n) (w : World) (hp : Pow w) :
    Calls Tryd.prog 21 #[.int .i64 n] w fun e w' => e = .returned (.string (itoaS n)) ∧ Below w.heap.size w w' := by
  have c := itoa_any n hn w hp
  go_enter Tryd.func21, Tryd.ntmps21
  go_wp2_with (go_at_call 32; refine Calls.mono c ?_; rintro e w1 ⟨rfl, B1⟩)
  go_ret
  exact ⟨rfl, B1⟩

theorem nDigits_le : ∀ (k u : Nat), 1 ≤ k → u < 10 ^ k → Lib.nDigits u ≤ k
  | 0, _, h, _ => by omega
  | 1, u, _, h => by rw [Lib.nDigits_small (by simpa using h)]; omega
  | k + 2, u, _, h => by
    by_cases h1 : u < 10
    · rw [Lib.nDigits_small h1]; omega
    · rw [Lib.nDigits_big h1]
      have := nDigits_le (k + 1) (u / 10) (by omega) (by rw [Nat.pow_succ] at h; omega)
      omega
theorem digS_size (u : Nat) (h : u < 10000000000000000000) : (digS u).size ≤ 19 := by
  have : (digS u).size = (Lib.decDigits u).length := by simp [digS, ByteArray.size]
  rw [this, Lib.decDigits_length]
  exact nDigits_le 19 u (by omega) (by omega)
theorem itoaS_nonneg (u : Nat) : itoaS (u : Int) = digS u := by rw [itoaS, Lib.itoa_nonneg]; rfl
theorem itoaS_neg (u : Nat) (h : 1 ≤ u) : itoaS (-(u : Int)) = ⟨#[45]⟩ ++ digS u := by
  apply Go.WideShapes.bytes_inj
  rw [itoaS, Lib.itoa_neg u h]
  simp [digS, ByteArray.data_append]
theorem digS_big (u : Nat) (h : ¬ u < 10) : digS u = digS (u / 10) ++ digS (u % 10) := by
  apply Go.WideShapes.bytes_inj
  have h1 : Lib.decDigits (u % 10) = [UInt8.ofNat (48 + u % 10)] := Lib.decDigits_one (by omega)
  rw [digS, Lib.decDigits, dif_neg h]
  simp [digS, ByteArray.data_append, h1]
theorem digS_one : ∀ u : Fin 10, (⟨#[48, 49, 50, 51, 52, 53, 54, 55, 56, 57]⟩ : ByteArray).extract u.val (u.val + 1) = digS u.val := by
  intro u
  apply Go.WideShapes.bytes_inj
  rw [digS, Lib.decDigits_one u.isLt]
  revert u
  decide
theorem itoaS_size (n : Int) (hn : I64 n) : (itoaS n).size ≤ 20 := by
  obtain ⟨h1, h2⟩ := hn
  rcases Int.lt_or_le n 0 with h | h
  · obtain ⟨u, rfl⟩ : ∃ u : Nat, n = -(u : Int) := ⟨n.natAbs, by omega⟩
    rw [itoaS_neg u (by omega), ByteArray.size_append]
    have := digS_size u (by omega)
    have h3 : (⟨#[45]⟩ : ByteArray).size = 1 := rfl
    omega
  · obtain ⟨u, rfl⟩ : ∃ u : Nat, n = (u : Int) := ⟨n.natAbs, by omega⟩
    rw [itoaS_nonneg u]
    have := digS_size u (by omega)
    omega

theorem refnum_nat : ∀ (u : Nat), u < 10000000000000000000 → ∀ (w : World), Calls Tryd.prog 22 #[.int .i64 u] w fun e w' => e = .returned (.string (digS u)) ∧ w' = w := by
  intro u
  induction u using Nat.strongRecOn with
  | _ u ih =>
    intro hu w
    by_cases h : u < 10
    · have hd := digS_one ⟨u, h⟩
      dsimp only at hd
      go_enter Tryd.func22, Tryd.ntmps22
      go_wp2
      go_ret
      exact ⟨rfl, rfl⟩
    · have c1 := ih (u / 10) (by omega) (by omega)
      have c2 := ih (u % 10) (by omega) (by omega)
      have z1 := digS_size (u / 10) (by omega)
      have z2 := digS_size (u % 10) (by omega)
      have hcat := Lib.hid (digS_big u h)
      have e1 : ((u / 10 : Nat) : Int) = (u : Int) / 10 := by omega
      have e2 : ((u % 10 : Nat) : Int) = (u : Int) % 10 := by omega
      rw [e1] at c1
      rw [e2] at c2
      clear ih e1 e2
      go_enter Tryd.func22, Tryd.ntmps22
      go_wp2_with fail
      refine Calls.mono (c1 _) ?_
      rintro e w1 ⟨rfl, rfl⟩
      go_wp2_with fail
      refine Calls.mono (c2 _) ?_
      rintro e w2 ⟨rfl, rfl⟩
      have hg : ¬ 9223372036854775807 < (digS (u / 10)).size + (digS (u % 10)).size := by omega
      go_wp2
      go_ret
      exact ⟨by rw [hcat.out]; rfl, rfl⟩

theorem refnum_any (n : Int) (hn : I64 n) (w : World) : Calls Tryd.prog 22 #[.int .i64 n] w fun e w' => e = .returned (.string (itoaS n)) ∧ w' = w := by
  obtain ⟨h1, h2⟩ := hn
  rcases Int.lt_or_le n 0 with h | h
  · obtain ⟨u, rfl⟩ : ∃ u : Nat, n = -(u : Int) := ⟨n.natAbs, by omega⟩
    have hu : u < 10000000000000000000 := by omega
    have z0 := digS_size u hu
    have hcat0 := Lib.hid (itoaS_neg u (by omega))
    have hg0 : ¬ 9223372036854775807 < 1 + (digS u).size := by omega
    by_cases h9 : 9 < u
    · have c1 := refnum_nat (u / 10) (by omega)
      have c2 := refnum_nat (u % 10) (by omega)
      have z1 := digS_size (u / 10) (by omega)
      have z2 := digS_size (u % 10) (by omega)
      have hcat := Lib.hid (digS_big u (by omega))
      have e1 : ((u / 10 : Nat) : Int) = (u : Int) / 10 := by omega
      have e2 : ((u % 10 : Nat) : Int) = (u : Int) % 10 := by omega
      go_enter Tryd.func22, Tryd.ntmps22
      rw [e1] at c1
      rw [e2] at c2
      clear e1 e2
      have hg1 : ¬ 9223372036854775807 < 1 + (digS (u / 10)).size := by omega
      have hg2 : ¬ 9223372036854775807 < 1 + (digS (u / 10)).size + (digS (u % 10)).size := by omega
      go_wp2_with fail
      refine Calls.mono (c1 _) ?_
      rintro e w1 ⟨rfl, rfl⟩
      go_wp2_with fail
      refine Calls.mono (c2 _) ?_
      rintro e w2 ⟨rfl, rfl⟩
      go_wp2
      go_ret
      refine ⟨?_, rfl⟩
      rw [hcat0.out, hcat.out]
      apply congrArg Ending.returned
      apply congrArg Value.string
      exact ByteArray.append_assoc
    · have c1 := refnum_nat u hu
      go_enter Tryd.func22, Tryd.ntmps22
      go_wp2_with fail
      refine Calls.mono (c1 _) ?_
      rintro e w1 ⟨rfl, rfl⟩
      go_wp2
      go_ret
      exact ⟨by rw [hcat0.out]; rfl, rfl⟩
  · obtain ⟨u, rfl⟩ : ∃ u : Nat, n = (u : Int) := ⟨n.natAbs, by omega⟩
    rw [itoaS_nonneg u]
    exact refnum_nat u (by omega) w
end Go.Proofs.YtkndlhlhcpppgaaDoor
