/- Library functions at this program: strings.Builder's writers, strings.Repeat, strings.TrimRight, by the kit's contracts. Conditions: as each theorem says. -/
import Derived.Shelf.Strings.BuilderF
import Derived.Shelf.Strings.Repeat
import Derived.Shelf.Strings.Trim
import Derived.Test.YtkapaafbnbnpjaaGreatDoorBlk
namespace Go.Proofs.YtkapaafbnbnpjaaGreatDoor
open Go.RowKit Go.Deep Go.Shelf

def layRep_ren : Go.Shelf.Ren := ⟨fun | 105 => 26 | 212 => 40 | 99 => 41 | 165 => 42 | 166 => 23 | 170 => 43 | 169 => 24 | 263 => 55 | 264 => 56 | 206 => 57 | 240 => 39 | 241 => 58 | 276 => 54 | 277 => 77 | n => n, fun | 9 => 9 | 3 => 3 | 4 => 4 | 20 => 20 | 0 => 0 | 46 => 99 | 109 => 100 | 5 => 5 | 72 => 68 | 76 => 71 | 51 => 117 | 146 => 118 | 53 => 120 | 148 => 121 | 70 => 66 | 37 => 40 | 75 => 70 | 127 => 98 | 164 => 115 | 80 => 73 | n => n, fun | n => n⟩
theorem layRep : Go.Proofs.Lays.n105 Tryz.prog layRep_ren := {
  mixed := by kernel_rfl,
  f99 := Tryz.func41.trans (congrArg some (by kernel_rfl)),
  f105 := Tryz.func26.trans (congrArg some (by kernel_rfl)),
  f165 := Tryz.func42.trans (congrArg some (by kernel_rfl)),
  f166 := Tryz.func23.trans (congrArg some (by kernel_rfl)),
  f169 := Tryz.func24.trans (congrArg some (by kernel_rfl)),
  f170 := Tryz.func43.trans (congrArg some (by kernel_rfl)),
  f206 := Tryz.func57.trans (congrArg some (by kernel_rfl)),
  f212 := Tryz.func40.trans (congrArg some (by kernel_rfl)),
  f240 := Tryz.func39.trans (congrArg some (by kernel_rfl)),
  f241 := Tryz.func58.trans (congrArg some (by kernel_rfl)),
  f263 := Tryz.func55.trans (congrArg some (by kernel_rfl)),
  f264 := Tryz.func56.trans (congrArg some (by kernel_rfl)),
  f276 := Tryz.func54.trans (congrArg some (by kernel_rfl)),
  f277 := Tryz.func77.trans (congrArg some (by kernel_rfl)),
  t0 := Tryz.underlying0,
  a0 := Tryz.isAgg0,
  z0 := Tryz.sizeOf0,
  v0 := Tryz.zeroValue0,
  t3 := Tryz.underlying3,
  a3 := Tryz.isAgg3,
  z3 := Tryz.sizeOf3,
  v3 := Tryz.zeroValue3,
  t4 := Tryz.underlying4,
  a4 := Tryz.isAgg4,
  z4 := Tryz.sizeOf4,
  v4 := Tryz.zeroValue4,
  t5 := Tryz.underlying5,
  a5 := Tryz.isAgg5,
  z5 := Tryz.sizeOf5,
  v5 := Tryz.zeroValue5,
  t9 := Tryz.underlying9,
  a9 := Tryz.isAgg9,
  z9 := Tryz.sizeOf9,
  v9 := Tryz.zeroValue9,
  t20 := Tryz.underlying20,
  a20 := Tryz.isAgg20,
  z20 := Tryz.sizeOf20,
  v20 := Tryz.zeroValue20,
  t37 := Tryz.underlying40,
  a37 := Tryz.isAgg40,
  z37 := Tryz.sizeOf40,
  v37 := Tryz.zeroValue40,
  t46 := Tryz.underlying99,
  a46 := Tryz.isAgg99,
  z46 := Tryz.sizeOf99,
  v46 := Tryz.zeroValue99,
  t51 := Tryz.underlying117,
  a51 := Tryz.isAgg117,
  z51 := Tryz.sizeOf117,
  v51 := Tryz.zeroValue117,
  t53 := Tryz.underlying120,
  a53 := Tryz.isAgg120,
  z53 := Tryz.sizeOf120,
  v53 := Tryz.zeroValue120,
  t70 := Tryz.underlying66,
  a70 := Tryz.isAgg66,
  z70 := Tryz.sizeOf66,
  v70 := Tryz.zeroValue66,
  t72 := Tryz.underlying68,
  a72 := Tryz.isAgg68,
  z72 := Tryz.sizeOf68,
  v72 := Tryz.zeroValue68,
  t75 := Tryz.underlying70,
  a75 := Tryz.isAgg70,
  z75 := Tryz.sizeOf70,
  v75 := Tryz.zeroValue70,
  t76 := Tryz.underlying71,
  a76 := Tryz.isAgg71,
  z76 := Tryz.sizeOf71,
  v76 := Tryz.zeroValue71,
  t109 := Tryz.underlying100,
  a109 := Tryz.isAgg100,
  z109 := Tryz.sizeOf100,
  v109 := Tryz.zeroValue100,
  t127 := Tryz.underlying98,
  a127 := Tryz.isAgg98,
  z127 := Tryz.sizeOf98,
  v127 := Tryz.zeroValue98,
  t146 := Tryz.underlying118,
  a146 := Tryz.isAgg118,
  z146 := Tryz.sizeOf118,
  v146 := Tryz.zeroValue118,
  t148 := Tryz.underlying121,
  a148 := Tryz.isAgg121,
  z148 := Tryz.sizeOf121,
  v148 := Tryz.zeroValue121,
  t164 := Tryz.underlying115,
  a164 := Tryz.isAgg115,
  z164 := Tryz.sizeOf115,
  v164 := Tryz.zeroValue115 }
def layTrim_ren : Go.Shelf.Ren := ⟨fun | 162 => 27 | 232 => 44 | 227 => 45 | 234 => 46 | 236 => 47 | 228 => 59 | 271 => 60 | 151 => 61 | 120 => 78 | 197 => 79 | 152 => 80 | 260 => 89 | 137 => 90 | 119 => 91 | 224 => 92 | 225 => 93 | 217 => 100 | 266 => 105 | n => n, fun | 9 => 9 | 4 => 4 | 3 => 3 | 5 => 5 | 117 => 108 | 116 => 107 | 0 => 0 | 124 => 111 | 21 => 21 | 105 => 124 | 46 => 99 | 119 => 158 | 139 => 161 | 138 => 160 | n => n, fun | 3 => 1 | 4 => 2 | n => n⟩
theorem layTrim : Go.Proofs.Lays.n162 Tryz.prog layTrim_ren := {
  mixed := by kernel_rfl,
  f119 := Tryz.func91.trans (congrArg some (by kernel_rfl)),
  f120 := Tryz.func78.trans (congrArg some (by kernel_rfl)),
  f137 := Tryz.func90.trans (congrArg some (by kernel_rfl)),
  f151 := Tryz.func61.trans (congrArg some (by kernel_rfl)),
  f152 := Tryz.func80.trans (congrArg some (by kernel_rfl)),
  f162 := Tryz.func27.trans (congrArg some (by kernel_rfl)),
  f197 := Tryz.func79.trans (congrArg some (by kernel_rfl)),
  f217 := Tryz.func100.trans (congrArg some (by kernel_rfl)),
  f224 := Tryz.func92.trans (congrArg some (by kernel_rfl)),
  f225 := Tryz.func93.trans (congrArg some (by kernel_rfl)),
  f227 := Tryz.func45.trans (congrArg some (by kernel_rfl)),
  f228 := Tryz.func59.trans (congrArg some (by kernel_rfl)),
  f232 := Tryz.func44.trans (congrArg some (by kernel_rfl)),
  f234 := Tryz.func46.trans (congrArg some (by kernel_rfl)),
  f236 := Tryz.func47.trans (congrArg some (by kernel_rfl)),
  f260 := Tryz.func89.trans (congrArg some (by kernel_rfl)),
  f266 := Tryz.func105.trans (congrArg some (by kernel_rfl)),
  f271 := Tryz.func60.trans (congrArg some (by kernel_rfl)),
  t0 := Tryz.underlying0,
  a0 := Tryz.isAgg0,
  z0 := Tryz.sizeOf0,
  v0 := Tryz.zeroValue0,
  t3 := Tryz.underlying3,
  a3 := Tryz.isAgg3,
  z3 := Tryz.sizeOf3,
  v3 := Tryz.zeroValue3,
  t4 := Tryz.underlying4,
  a4 := Tryz.isAgg4,
  z4 := Tryz.sizeOf4,
  v4 := Tryz.zeroValue4,
  t5 := Tryz.underlying5,
  a5 := Tryz.isAgg5,
  z5 := Tryz.sizeOf5,
  v5 := Tryz.zeroValue5,
  t9 := Tryz.underlying9,
  a9 := Tryz.isAgg9,
  z9 := Tryz.sizeOf9,
  v9 := Tryz.zeroValue9,
  t21 := Tryz.underlying21,
  a21 := Tryz.isAgg21,
  z21 := Tryz.sizeOf21,
  v21 := Tryz.zeroValue21,
  t46 := Tryz.underlying99,
  a46 := Tryz.isAgg99,
  z46 := Tryz.sizeOf99,
  v46 := Tryz.zeroValue99,
  t105 := Tryz.underlying124,
  a105 := Tryz.isAgg124,
  z105 := Tryz.sizeOf124,
  v105 := Tryz.zeroValue124,
  t116 := Tryz.underlying107,
  a116 := Tryz.isAgg107,
  z116 := Tryz.sizeOf107,
  t117 := Tryz.underlying108,
  a117 := Tryz.isAgg108,
  z117 := Tryz.sizeOf108,
  v117 := Tryz.zeroValue108,
  t119 := Tryz.underlying158,
  a119 := Tryz.isAgg158,
  z119 := Tryz.sizeOf158,
  t124 := Tryz.underlying111,
  a124 := Tryz.isAgg111,
  z124 := Tryz.sizeOf111,
  v124 := Tryz.zeroValue111,
  t138 := Tryz.underlying160,
  a138 := Tryz.isAgg160,
  z138 := Tryz.sizeOf160,
  v138 := Tryz.zeroValue160,
  t139 := Tryz.underlying161,
  a139 := Tryz.isAgg161,
  z139 := Tryz.sizeOf161,
  v139 := Tryz.zeroValue161,
  g3 := by kernel_rfl,
  g4 := by kernel_rfl }

theorem layX : Builder.Extra Tryz.prog layRep_ren := {
  sizeBuilder := by kernel_rfl,
  liesBuilder := by kernel_rfl,
  t5 := Tryz.underlying5,
  a5 := Tryz.isAgg5,
  z5 := Tryz.sizeOf5,
  v5 := Tryz.zeroValue5,
  infoByte := by kernel_rfl,
  cellsByte := by kernel_rfl,
  sizeByte := by kernel_rfl,
  neB5 := by decide }

/-- A builder of the call's own, at block b, holding these bytes. -/
abbrev IsB (B b : Nat) (l : List UInt8) (w : World) : Prop := Lib.IsBuilder 68 5 B b (Lib.byteCells l) w

theorem byteCells_str (l : List UInt8) (s : ByteArray) : Lib.byteCells l ++ Lib.strCells s = Lib.byteCells (l ++ s.data.toList) := by
  simp [Lib.byteCells, Lib.strCells]

theorem write_any (B b : Nat) (l : List UInt8) (s : ByteArray) (w : World) (h : IsB B b l w) (hlen : l.length + s.size ≤ 140737488355328) (hBw : B ≤ w.heap.size) :
    Calls Tryz.prog 23 #[.pointer (some ⟨b, 0, none⟩), .string s] w fun e w' => e = .returned (.tuple #[.int .i64 s.size, .nilIface]) ∧ IsB B b (l ++ s.data.toList) w' ∧ Below B w w' := by
  have c := Any.Builder_WriteString { layRep with } layX B b (Lib.byteCells l) s w h (by rw [Lib.byteCells_length]; exact hlen) hBw
  refine Calls.mono c ?_
  rintro e w' ⟨he, hb, hB⟩
  rw [byteCells_str] at hb
  exact ⟨he, .inr hb, hB⟩

theorem string_any (B b : Nat) (l : List UInt8) (w : World) (h : IsB B b l w) (hBw : B ≤ w.heap.size) :
    Calls Tryz.prog 24 #[.pointer (some ⟨b, 0, none⟩)] w fun e w' => e = .returned (.string ⟨l.toArray⟩) ∧ Below B w w' :=
  Any.Builder_String_any { layRep with } layX B b l w h hBw

theorem repeat_any (c : Nat) (w : World) (hc : c ≤ 1000) :
    Calls Tryz.prog 26 #[.string ⟨#[32]⟩, .int .i64 c] w fun e w' => e = .returned (.string ⟨(List.replicate c 32).toArray⟩) ∧ Below w.heap.size w w' := by
  have h := Any.strings_Repeat layRep layX ⟨#[32]⟩ c w (by omega) (by show 1 * c ≤ _; omega)
  have e : Lib.repeatL [32] c = List.replicate c 32 := by
    induction c with
    | zero => rfl
    | succ c ih => simp [Lib.repeatL, List.replicate_succ] at ih ⊢; exact ih (by omega) (Any.strings_Repeat layRep layX ⟨#[32]⟩ c w (by omega) (by show 1 * c ≤ _; omega))
  rw [show (ByteArray.mk #[32]).data.toList = [32] from rfl, e] at h
  exact h

theorem trim_any (s : ByteArray) (w : World) (hs : s.size ≤ 9223372036854775807) :
    Calls Tryz.prog 27 #[.string s, .string ⟨#[32]⟩] w fun e w' => e = .returned (.string ⟨(Lib.trimRightB s.data.toList 32).toArray⟩) ∧ w' = w :=
  Any.strings_TrimRight_one layTrim s 32 (by decide) w hs
end Go.Proofs.YtkapaafbnbnpjaaGreatDoor
