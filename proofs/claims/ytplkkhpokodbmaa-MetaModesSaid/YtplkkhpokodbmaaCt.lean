/-
  strings.Contains at a part of one byte at this program: the shelf's contract, as a contract over one heap. No condition.
-/
import Derived.Shelf.Strings.Search3
import Derived.Test.YtplkkhpokodbmaaProg
import Derived.Test.YtplkkhpokodbmaaST
set_option linter.unusedSimpArgs false
set_option linter.unusedVariables false
namespace Go.Proofs
open Go.Shelf
def Try.laysCt_ren : Go.Shelf.Ren := ⟨fun | 144 => 82 | 143 => 104 | 219 => 118 | 217 => 125 | 225 => 126 | 224 => 127 | 267 => 128 | 266 => 129 | 314 => 130 | n => n, fun | 9 => 9 | 4 => 4 | 3 => 3 | 5 => 5 | 46 => 156 | 146 => 158 | 51 => 157 | n => n, fun | 1 => 0 | n => n⟩
theorem Try.laysCt : Go.Proofs.Lays.n144 Try.prog Try.laysCt_ren := {
  mixed := by kernel_rfl
  f143 := Try.func104.trans (congrArg some (by kernel_rfl))
  f144 := Try.func82.trans (congrArg some (by kernel_rfl))
  f217 := Try.func125.trans (congrArg some (by kernel_rfl))
  f219 := Try.func118.trans (congrArg some (by kernel_rfl))
  f224 := Try.func127.trans (congrArg some (by kernel_rfl))
  f225 := Try.func126.trans (congrArg some (by kernel_rfl))
  f266 := Try.func129.trans (congrArg some (by kernel_rfl))
  f267 := Try.func128.trans (congrArg some (by kernel_rfl))
  f314 := Try.func130.trans (congrArg some (by kernel_rfl))
  t3 := Try.underlying3
  a3 := Try.isAgg3
  z3 := Try.sizeOf3
  v3 := Try.zeroValue3
  t4 := Try.underlying4
  a4 := Try.isAgg4
  z4 := Try.sizeOf4
  v4 := Try.zeroValue4
  t5 := Try.underlying5
  a5 := Try.isAgg5
  z5 := Try.sizeOf5
  v5 := Try.zeroValue5
  t9 := Try.underlying9
  a9 := Try.isAgg9
  z9 := Try.sizeOf9
  v9 := Try.zeroValue9
  t46 := Try.underlying156
  a46 := Try.isAgg156
  z46 := Try.sizeOf156
  v46 := Try.zeroValue156
  t51 := Try.underlying157
  a51 := Try.isAgg157
  z51 := Try.sizeOf157
  v51 := Try.zeroValue157
  t146 := Try.underlying158
  a146 := Try.isAgg158
  z146 := Try.sizeOf158
  v146 := Try.zeroValue158
  g1 := by kernel_rfl }

open Go.RowKit Go.Lib in
theorem Try.strings_Contains (s : ByteArray) (c : UInt8) (w : World) : Calls Try.prog 82 #[.string s, .string ⟨#[c]⟩] w fun e w' => e = .returned (.bool (decide (0 ≤ Lib.indexByte s.data.toList c))) ∧ w' = w := Any.strings_Contains_one Try.laysCt s c w
namespace Ytplkkhpokodbmaa
open Go.Hp Go.J Go.S
/-- A byte is among those of a string. -/
def hasB (s : ByteArray) (c : UInt8) : Bool := decide (0 ≤ Lib.indexByte s.data.toList c)
theorem contains_s {Z : Zone} (s : ByteArray) (c : UInt8) : SF Try.prog 82 #[.string s, .string ⟨#[c]⟩] Z [] fun v Bs => v = .bool (hasB s c) ∧ Bs = [] :=
  sf_val fun H hH w hw => (Try.strings_Contains s c w).mono fun e w' ⟨he, hw'⟩ => ⟨_, he, by subst hw'; exact ⟨rfl, rfl, rfl, rfl⟩, rfl, by subst hw'; rw [← hw]; exact ⟨Nat.le_refl _, fun _ _ _ => rfl⟩⟩
end Ytplkkhpokodbmaa
end Go.Proofs
