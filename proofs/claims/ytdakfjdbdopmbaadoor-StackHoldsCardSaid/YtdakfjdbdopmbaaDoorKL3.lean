/-
  Plain facts of stacks.
-/
import Derived.Test.YtdakfjdbdopmbaaDoorKL
set_option linter.unusedSimpArgs false
set_option linter.unusedVariables false
set_option maxRecDepth 100000
namespace Go.Proofs.YtdakfjdbdopmbaaDoor.St
def numV (n : Int) : Vl := ⟨2, n, 1, ByteArray.empty, 0⟩
theorem push_fill {L : List Vl} {lim : Int} {v : Vl} (h : validB v = true) (hl : (L.length : Int) < lim) : pushR L lim v = (0, L ++ [v]) := by
  rw [pushR, h]; simp; omega
theorem num_valid {n : Int} (h1 : -2147483647 ≤ n) (h2 : n ≤ 2147483647) : validB (numV n) = true := by
  simp [validB, numV, validN, h1, h2]
/-- The example's stack. -/
def LT (t : Nat) : List Vl := (List.range t).map fun (i : Nat) => numV ((i : Int) + 1)
theorem LT_succ (t : Nat) : LT (t + 1) = LT t ++ [numV ((t : Int) + 1)] := by simp [LT, List.range_succ]
theorem LT_len (t : Nat) : (LT t).length = t := by simp [LT]
end Go.Proofs.YtdakfjdbdopmbaaDoor.St
