/-
  Plain facts of layer 19: decimal numerals. No program in sight.
-/
import Derived.Test.YtdakfjdbdopmbaaDoorSU
import Derived.Lib.ItoaNum
set_option linter.unusedSimpArgs false
set_option linter.unusedVariables false
namespace Go.Proofs.YtdakfjdbdopmbaaDoor
open Go.Lib (decDigits itoa)
theorem u64_wrap {z : Int} (h0 : 0 ≤ z) (h1 : z < 18446744073709551616) : IntKind.u64.wrap z = z := by
  simp [IntKind.wrap, IntKind.bits, IntKind.signed]; omega
theorem u64_neg {n : Int} (h0 : -9223372036854775808 ≤ n) (h1 : n < 0) : IntKind.u64.wrap (-(IntKind.u64.wrap n)) = -n := by
  simp [IntKind.wrap, IntKind.bits, IntKind.signed]; omega
def names36 : ByteArray := ⟨#[48, 49, 50, 51, 52, 53, 54, 55, 56, 57, 97, 98, 99, 100, 101, 102, 103, 104, 105, 106, 107, 108, 109, 110, 111, 112, 113, 114, 115, 116, 117, 118, 119, 120, 121, 122]⟩
theorem names_get (d : Nat) (h : d < 10) : names36[d]? = some (UInt8.ofNat (48 + d)) := by
  have : ∀ d : Fin 10, names36[d.1]? = some (UInt8.ofNat (48 + d.1)) := by decide
  exact this ⟨d, h⟩
/-- What is still to come. -/
def left (u : Nat) (l : List UInt8) : List UInt8 := if u = 0 ∧ l ≠ [] then [] else decDigits u
theorem left_step (u : Nat) (l : List UInt8) (h : u ≠ 0 ∨ l = []) : left u l ++ l.reverse = left (u / 10) (l ++ [UInt8.ofNat (48 + u % 10)]) ++ (l ++ [UInt8.ofNat (48 + u % 10)]).reverse := by
  have h1 : left u l = decDigits u := by
    unfold left; rw [if_neg]; rintro ⟨a, b⟩; rcases h with h | h
    · exact h a
    · exact b h
  rw [h1, List.reverse_append]
  by_cases hs : u < 10
  · have e : u / 10 = 0 := by omega
    rw [decDigits, dif_pos hs, left, if_pos ⟨e, by simp⟩, show u % 10 = u by omega]; simp
  · have e : ¬ u / 10 = 0 := by omega
    rw [decDigits, dif_neg hs, left, if_neg (fun q => e q.1)]; simp
theorem left_end {U u : Nat} {l : List UInt8} (h : decDigits U = left u l ++ l.reverse) (h0 : u = 0) (h1 : 0 < l.length) : decDigits U = l.reverse := by
  rw [h, left, if_pos ⟨h0, by rintro rfl; cases h1⟩]; rfl
theorem left_len {U u : Nat} {l : List UInt8} (h : decDigits U = left u l ++ l.reverse) : l.length ≤ (decDigits U).length := by rw [h]; simp
theorem dec_len {U : Nat} (h : U < 18446744073709551616) : (decDigits U).length ≤ 20 := by
  rw [Go.Lib.decDigits_length]
  by_cases h0 : 1 ≤ U
  · have := Go.Lib.numDigits_eq U h0 h; split at this <;> omega
  · obtain rfl : U = 0 := by omega
    rw [Go.Lib.nDigits_small (by omega)]; omega
end Go.Proofs.YtdakfjdbdopmbaaDoor
