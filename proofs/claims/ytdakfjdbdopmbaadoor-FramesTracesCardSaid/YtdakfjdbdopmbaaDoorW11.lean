/-
  Texts, messages, comparing.
-/
import Derived.Test.YtdakfjdbdopmbaaDoorW10
set_option linter.unusedSimpArgs false
set_option linter.unusedVariables false
set_option maxRecDepth 100000
namespace Go.Proofs.YtdakfjdbdopmbaaDoor
open Go.Hp Go.J Go.S
open Go.Mem (Ty KTy blk elemAt pre suf blk_pre blk_suf aget aset strK aggDesc)
open Go.Mem
def strV (s : ByteArray) : Vl := ⟨3, 0, 0, s, 0⟩
def cutT (s : ByteArray) : ByteArray := if 4096 < (s.size : Int) then s.extract 0 4096 else s
def msgT (s : ByteArray) (M : List Pl) : Vl := raiseT (strV (cutT s)) 1 M
theorem cutT_size (s : ByteArray) : ((cutT s).size : Int) ≤ 4096 := by
  unfold cutT; split
  · rw [ByteArray.size_extract]; omega
  · omega
def okV (v : Vl) : Prop := -9223372036854775808 ≤ v.ref ∧ v.ref ≤ 9223372036854775807 ∧ (v.str.size : Int) ≤ 4611686018427387904
theorem raiseT_ok {v : Vl} {N : Int} {M : List Pl} (h : okV v) : okV (raiseT v N M) := by
  unfold raiseT; split
  · rename_i hc; exact ⟨h.1, h.2.1, by have := hc.2.2; show ((preT v (rposT N M)).size : Int) ≤ _; omega⟩
  · exact h
theorem strV_ok {s : ByteArray} (h : (s.size : Int) ≤ 4611686018427387904) : okV (strV s) := ⟨by show (_ : Int) ≤ 0; decide, by show (0 : Int) ≤ _; decide, h⟩
theorem take_eq_succ {α : Type} {A B : List α} {i : Nat} {x : α} (h : A.take i = B.take i) (ha : A[i]? = some x) (hb : B[i]? = some x) : A.take (i + 1) = B.take (i + 1) := by
  rw [List.take_add_one, List.take_add_one, h, ha, hb]
theorem ne_of_get {α : Type} {A B : List α} {i : Nat} {x y : α} (ha : A[i]? = some x) (hb : B[i]? = some y) (h : x ≠ y) : A ≠ B := by
  rintro rfl; rw [ha] at hb; exact h (Option.some.inj hb)
theorem strV_str (s : ByteArray) : (strV s).str = s := rfl
end Go.Proofs.YtdakfjdbdopmbaaDoor
