/- Library functions at this program: strings.Builder's writers, strings.Repeat, strings.TrimRight, by the kit's contracts. Conditions: as each theorem says. -/
import Derived.Shelf.Strings.BuilderF
import Derived.Shelf.Strings.Repeat
import Derived.Shelf.Strings.Trim
import Derived.Test.YtkndlhlhcpppgaaDoorBlk
namespace Go.Proofs.YtkndlhlhcpppgaaDoor
open Go.RowKit Go.Deep Go.Shelf

def layRep_ren : Go.Shelf.Ren := ⟨fun | 105 => 16 | 212 => 24 | 99 => 25 | 165 => 26 | 166 => 15 | 170 => 27 | 169 => 18 | 263 => 34 | 264 => 35 | 206 => 36 | 240 => 23 | 241 => 37 | 276 => 33 | 277 => 42 | n => n, fun | 9 => 9 | 3 => 3 | 4 => 4 | 20 => 20 | 0 => 0 | 46 => 49 | 109 => 50 | 5 => 5 | 72 => 40 | 76 => 43 | 51 => 65 | 146 => 66 | 53 => 68 | 148 => 69 | 70 => 37 | 37 => 38 | 75 => 42 | 127 => 62 | 164 => 63 | 80 => 47 | n => n, fun | n => n⟩
theorem layRep : Go.Proofs.Lays.n105 Tryd.prog layRep_ren := {
  mixed := by kernel_rfl,
  f99 := Tryd.func25.trans (congrArg some (by kernel_rfl)),
  f105 := Tryd.func16.trans (congrArg some (by kernel_rfl)),
  f165 := Tryd.func26.trans (congrArg some (by kernel_rfl)),
  f166 := Tryd.func15.trans (congrArg some (by kernel_rfl)),
  f169 := Tryd.func18.trans (congrArg some (by kernel_rfl)),
  f170 := Tryd.func27.trans (congrArg some (by kernel_rfl)),
  f206 := Tryd.func36.trans (congrArg some (by kernel_rfl)),
  f212 := Tryd.func24.trans (congrArg some (by kernel_rfl)),
  f240 := Tryd.func23.trans (congrArg some (by kernel_rfl)),
  f241 := Tryd.func37.trans (congrArg some (by kernel_rfl)),
  f263 := Tryd.func34.trans (congrArg some (by kernel_rfl)),
  f264 := Tryd.func35.trans (congrArg some (by kernel_rfl)),
  f276 := Tryd.func33.trans (congrArg some (by kernel_rfl)),
  f277 := Tryd.func42.trans (congrArg some (by kernel_rfl)),
  t0 := Tryd.underlying0,
  a0 := Tryd.isAgg0,
  z0 := Tryd.sizeOf0,
  v0 := Tryd.zeroValue0,
  t3 := Tryd.underlying3,
  a3 := Tryd.isAgg3,
  z3 := Tryd.sizeOf3,
  v3 := Tryd.zeroValue3,
  t4 := Tryd.underlying4,
  a4 := Tryd.isAgg4,
  z4 := Tryd.sizeOf4,
  v4 := Tryd.zeroValue4,
  t5 := Tryd.underlying5,
  a5 := Tryd.isAgg5,
  z5 := Tryd.sizeOf5,
  v5 := Tryd.zeroValue5,
  t9 := Tryd.underlying9,
  a9 := Tryd.isAgg9,
  z9 := Tryd.sizeOf9,
  v9 := Tryd.zeroValue9,
  t20 := Tryd.underlying20,
  a20 := Tryd.isAgg20,
  z20 := Tryd.sizeOf20,
  v20 := Tryd.zeroValue20,
  t37 := Tryd.underlying38,
  a37 := Tryd.isAgg38,
  z37 := Tryd.sizeOf38,
  v37 := Tryd.zeroValue38,
  t46 := Tryd.underlying49,
  a46 := Tryd.isAgg49,
  z46 := Tryd.sizeOf49,
  v46 := Tryd.zeroValue49,
  t51 := Tryd.underlying65,
  a51 := Tryd.isAgg65,
  z51 := Tryd.sizeOf65,
  v51 := Tryd.zeroValue65,
  t53 := Tryd.underlying68,
  a53 := Tryd.isAgg68,
  z53 := Tryd.sizeOf68,
  v53 := Tryd.zeroValue68,
  t70 := Tryd.underlying37,
  a70 := Tryd.isAgg37,
  z70 := Tryd.sizeOf37,
  v70 := Tryd.zeroValue37,
  t72 := Tryd.underlying40,
  a72 := Tryd.isAgg40,
  z72 := Tryd.sizeOf40,
  v72 := Tryd.zeroValue40,
  t75 := Tryd.underlying42,
  a75 := Tryd.isAgg42,
  z75 := Tryd.sizeOf42,
  v75 := Tryd.zeroValue42,
  t76 := Tryd.underlying43,
  a76 := Tryd.isAgg43,
  z76 := Tryd.sizeOf43,
  v76 := Tryd.zeroValue43,
  t109 := Tryd.underlying50,
  a109 := Tryd.isAgg50,
  z109 := Tryd.sizeOf50,
  v109 := Tryd.zeroValue50,
  t127 := Tryd.underlying62,
  a127 := Tryd.isAgg62,
  z127 := Tryd.sizeOf62,
  v127 := Tryd.zeroValue62,
  t146 := Tryd.underlying66,
  a146 := Tryd.isAgg66,
  z146 := Tryd.sizeOf66,
  v146 := Tryd.zeroValue66,
  t148 := Tryd.underlying69,
  a148 := Tryd.isAgg69,
  z148 := Tryd.sizeOf69,
  v148 := Tryd.zeroValue69,
  t164 := Tryd.underlying63,
  a164 := Tryd.isAgg63,
  z164 := Tryd.sizeOf63,
  v164 := Tryd.zeroValue63 }
def layTrim_ren : Go.Shelf.Ren := ⟨fun | 162 => 17 | 232 => 28 | 227 => 29 | 234 => 30 | 236 => 31 | 228 => 38 | 271 => 39 | 151 => 40 | 120 => 43 | 197 => 44 | 152 => 45 | 260 => 47 | 137 => 48 | 119 => 49 | 224 => 50 | 225 => 51 | 217 => 56 | 266 => 62 | n => n, fun | 9 => 9 | 4 => 4 | 3 => 3 | 5 => 5 | 117 => 58 | 116 => 57 | 0 => 0 | 124 => 61 | 21 => 21 | 105 => 72 | 46 => 49 | 119 => 87 | 139 => 90 | 138 => 89 | n => n, fun | 3 => 1 | 4 => 2 | n => n⟩
theorem layTrim : Go.Proofs.Lays.n162 Tryd.prog layTrim_ren := {
  mixed := by kernel_rfl,
  f119 := Tryd.func49.trans (congrArg some (by kernel_rfl)),
  f120 := Tryd.func43.trans (congrArg some (by kernel_rfl)),
  f137 := Tryd.func48.trans (congrArg some (by kernel_rfl)),
  f151 := Tryd.func40.trans (congrArg some (by kernel_rfl)),
  f152 := Tryd.func45.trans (congrArg some (by kernel_rfl)),
  f162 := Tryd.func17.trans (congrArg some (by kernel_rfl)),
  f197 := Tryd.func44.trans (congrArg some (by kernel_rfl)),
  f217 := Tryd.func56.trans (congrArg some (by kernel_rfl)),
  f224 := Tryd.func50.trans (congrArg some (by kernel_rfl)),
  f225 := Tryd.func51.trans (congrArg some (by kernel_rfl)),
  f227 := Tryd.func29.trans (congrArg some (by kernel_rfl)),
  f228 := Tryd.func38.trans (congrArg some (by kernel_rfl)),
  f232 := Tryd.func28.trans (congrArg some (by kernel_rfl)),
  f234 := Tryd.func30.trans (congrArg some (by kernel_rfl)),
  f236 := Tryd.func31.trans (congrArg some (by kernel_rfl)),
  f260 := Tryd.func47.trans (congrArg some (by kernel_rfl)),
  f266 := Tryd.func62.trans (congrArg some (by kernel_rfl)),
  f271 := Tryd.func39.trans (congrArg some (by kernel_rfl)),
  t0 := Tryd.underlying0,
  a0 := Tryd.isAgg0,
  z0 := Tryd.sizeOf0,
  v0 := Tryd.zeroValue0,
  t3 := Tryd.underlying3,
  a3 := Tryd.isAgg3,
  z3 := Tryd.sizeOf3,
  v3 := Tryd.zeroValue3,
  t4 := Tryd.underlying4,
  a4 := Tryd.isAgg4,
  z4 := Tryd.sizeOf4,
  v4 := Tryd.zeroValue4,
  t5 := Tryd.underlying5,
  a5 := Tryd.isAgg5,
  z5 := Tryd.sizeOf5,
  v5 := Tryd.zeroValue5,
  t9 := Tryd.underlying9,
  a9 := Tryd.isAgg9,
  z9 := Tryd.sizeOf9,
  v9 := Tryd.zeroValue9,
  t21 := Tryd.underlying21,
  a21 := Tryd.isAgg21,
  z21 := Tryd.sizeOf21,
  v21 := Tryd.zeroValue21,
  t46 := Tryd.underlying49,
  a46 := Tryd.isAgg49,
  z46 := Tryd.sizeOf49,
  v46 := Tryd.zeroValue49,
  t105 := Tryd.underlying72,
  a105 := Tryd.isAgg72,
  z105 := Tryd.sizeOf72,
  v105 := Tryd.zeroValue72,
  t116 := Tryd.underlying57,
  a116 := Tryd.isAgg57,
  z116 := Tryd.sizeOf57,
  t117 := Tryd.underlying58,
  a117 := Tryd.isAgg58,
  z117 := Tryd.sizeOf58,
  v117 := Tryd.zeroValue58,
  t119 := Tryd.underlying87,
  a119 := Tryd.isAgg87,
  z119 := Tryd.sizeOf87,
  t124 := Tryd.underlying61,
  a124 := Tryd.isAgg61,
  z124 := Tryd.sizeOf61,
  v124 := Tryd.zeroValue61,
  t138 := Tryd.underlying89,
  a138 := Tryd.isAgg89,
  z138 := Tryd.sizeOf89,
  v138 := Tryd.zeroValue89,
  t139 := Tryd.underlying90,
  a139 := Tryd.isAgg90,
  z139 := Tryd.sizeOf90,
  v139 := Tryd.zeroValue90,
  g3 := by kernel_rfl,
  g4 := by kernel_rfl }

theorem layX : Builder.Extra Tryd.prog layRep_ren := {
  sizeBuilder := by kernel_rfl,
  liesBuilder := by kernel_rfl,
  t5 := Tryd.underlying5,
  a5 := Tryd.isAgg5,
  z5 := Tryd.sizeOf5,
  v5 := Tryd.zeroValue5,
  infoByte := by kernel_rfl,
  cellsByte := by kernel_rfl,
  sizeByte := by kernel_rfl,
  neB5 := by decide }

/-- A builder of the call's own, at block b, holding these bytes. -/
abbrev IsB (B b : Nat) (l : List UInt8) (w : World) : Prop := Lib.IsBuilder 40 5 B b (Lib.byteCells l) w

theorem byteCells_str (l : List UInt8) (s : ByteArray) : Lib.byteCells l ++ Lib.strCells s = Lib.byteCells (l ++ s.data.toList) := by
  simp [Lib.byteCells, Lib.strCells]

theorem write_any (B b : Nat) (l : List UInt8) (s : ByteArray) (w : World) (h : IsB B b l w) (hlen : l.length + s.size ≤ 140737488355328) (hBw : B ≤ w.heap.size) :
    Calls Tryd.prog 15 #[.pointer (some ⟨b, 0, none⟩), .string s] w fun e w' => e = .returned (.tuple #[.int .i64 s.size, .nilIface]) ∧ IsB B b (l ++ s.data.toList) w' ∧ Below B w w' := by
  have c := Any.Builder_WriteString { layRep with } layX B b (Lib.byteCells l) s w h (by rw [Lib.byteCells_length]; exact hlen) hBw
  refine Calls.mono c ?_
  rintro e w' ⟨he, hb, hB⟩
  rw [byteCells_str] at hb
  exact ⟨he, .inr hb, hB⟩

theorem string_any (B b : Nat) (l : List UInt8) (w : World) (h : IsB B b l w) (hBw : B ≤ w.heap.size) :
    Calls Tryd.prog 18 #[.pointer (some ⟨b, 0, none⟩)] w fun e w' => e = .returned (.string ⟨l.toArray⟩) ∧ Below B w w' :=
  Any.Builder_String_any { layRep with } layX B b l w h hBw

theorem repeat_any (c : Nat) (w : World) (hc : c ≤ 1000) :
    Calls Tryd.prog 16 #[.string ⟨#[32]⟩, .int .i64 c] w fun e w' => e = .returned (.string ⟨(List.replicate c 32).toArray⟩) ∧ Below w.heap.size w w' := by
  have h := Any.strings_Repeat layRep layX ⟨#[32]⟩ c w (by omega) (by show 1 * c ≤ _; omega)
  have e : Lib.repeatL [32] c = List.replicate c 32 := by
    induction c with
    | zero => rfl
    | succ c ih => simp [Lib.repeatL, List.replicate_succ] at ih ⊢; exact ih (by omega) (Any.strings_Repeat layRep layX ⟨#[32]⟩ c w (by omega) (by show 1 * c ≤ _; omega))
  rw [show (ByteArray.mk #[32]).data.toList = [32] from rfl, e] at h
  exact h

theorem trim_any (s : ByteArray) (w : World) (hs : s.size ≤ 9223372036854775807) :
    Calls Tryd.prog 17 #[.string s, .string ⟨#[32]⟩] w fun e w' => e = .returned (.string ⟨(Lib.trimRightB s.data.toList 32).toArray⟩) ∧ w' = w :=
  Any.strings_TrimRight_one layTrim s 32 (by decide) w hs
end Go.Proofs.YtkndlhlhcpppgaaDoor
