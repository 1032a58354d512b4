/-
  Plain facts of values: which are valid. No program in sight.
-/
import Derived.Test.YtplkkhpokodbmaaST
set_option linter.unusedSimpArgs false
set_option linter.unusedVariables false
namespace Go.Proofs.Ytplkkhpokodbmaa
structure Vl where
  kind : Int
  p : Int
  q : Int
  str : ByteArray
  ref : Int
  deriving DecidableEq
def zVl : Vl := ⟨0, 0, 0, ByteArray.empty, 0⟩
def validN (p q : Int) : Bool := decide (1 ≤ q) && (decide (q ≤ 2147483647) && (decide (-2147483647 ≤ p) && (decide (p ≤ 2147483647) && decide (Int.gcd p q = 1))))
def validB (v : Vl) : Bool :=
  if v.kind = 0 then decide (v = ⟨0, 0, 0, ByteArray.empty, 0⟩) else
  if v.kind = 1 then decide (v = ⟨1, 0, 0, ByteArray.empty, v.ref⟩) && (decide (v.ref = 0) || decide (v.ref = 1)) else
  if v.kind = 2 then decide (v = ⟨2, v.p, v.q, ByteArray.empty, 0⟩) && validN v.p v.q else
  if v.kind = 3 then decide (v = ⟨3, 0, 0, v.str, 0⟩) && decide ((v.str.size : Int) ≤ 4096) else
  if v.kind = 6 then decide (v = ⟨6, 0, 0, v.str, 0⟩) && (decide (1 ≤ (v.str.size : Int)) && decide ((v.str.size : Int) ≤ 4096)) else
  if v.kind = 4 ∨ v.kind = 5 ∨ v.kind = 7 ∨ v.kind = 8 then decide (v = ⟨v.kind, 0, 0, ByteArray.empty, v.ref⟩) && decide (1 ≤ v.ref) else false
/-- The greatest common divisor, by remainders. -/
theorem gcd_step (a b : Nat) : Nat.gcd b (a % b) = Nat.gcd a b := by rw [Nat.gcd_comm b, ← Nat.gcd_rec, Nat.gcd_comm]
theorem gcd_bool (p q : Int) (h : 1 ≤ q) : decide (((Nat.gcd (if p < (-p) then (-p) else p).toNat q.toNat : Nat) : Int) = 1) = decide (Int.gcd p q = 1) := by
  rw [show (if p < (-p) then (-p) else p).toNat = p.natAbs by omega, show q.toNat = q.natAbs by omega, Bool.eq_iff_iff]
  rw [decide_eq_true_eq, decide_eq_true_eq]
  exact ⟨fun h => Int.ofNat_inj.1 h, fun h => Int.ofNat_inj.2 h⟩
theorem validN_eq (p q : Int) : ((decide ((1 : Int) ≤ q)) && ((decide (q ≤ 2147483647)) && ((decide ((-2147483647) ≤ p)) && ((decide (p ≤ 2147483647)) && (decide (((Nat.gcd (if p < (-p) then (-p) else p).toNat q.toNat : Nat) : Int) = 1)))))) = validN p q := by
  by_cases h : 1 ≤ q
  · rw [gcd_bool p q h]; rfl
  · simp [validN, h]
theorem rvalidN_eq (p q : Int) : ((decide ((1 : Int) ≤ q)) && ((decide (q ≤ 2147483647)) && ((decide (p ≤ 2147483647)) && ((decide ((-2147483647) ≤ p)) && (decide (((Nat.gcd (if p < (-p) then (-p) else p).toNat q.toNat : Nat) : Int) = 1)))))) = validN p q := by
  rw [← validN_eq, Bool.and_left_comm (decide (p ≤ 2147483647))]
end Go.Proofs.Ytplkkhpokodbmaa
