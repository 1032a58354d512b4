/-
  Plain facts of layer 17: rotations, insertions and removals undo each other. No program in sight.
-/
import Derived.Test.YtnhbejiakfaohaaL3
set_option linter.unusedSimpArgs false
set_option linter.unusedVariables false
namespace Go.Proofs.Ytnhbejiakfaohaa
theorem tmm (n m : Int) (hm : 0 < m) : (n.tmod m + m).tmod m = n % m := by
  have h2 := Int.lt_tmod_of_pos n hm
  rw [Int.tmod_eq_emod_of_nonneg (by omega), Int.add_emod_right]
  have h3 := Int.mul_tdiv_add_tmod n m
  conv => rhs; rw [← h3]
  rw [Int.add_comm, Int.add_mul_emod_self_left]
theorem rotL_len (P : List Vl) (n : Int) : (rotL P n).length = P.length := by simp [rotL]
theorem rotL_inv (P : List Vl) (n : Int) (hp : 0 < P.length) : rotL (rotL P n) (-n) = P := by
  obtain ⟨b, hb⟩ : ∃ b : Nat, (b : Int) = n % (P.length : Int) := ⟨(n % (P.length : Int)).toNat, by have := Int.emod_nonneg n (b := (P.length : Int)) (by omega); omega⟩
  have hlt := Int.emod_lt_of_pos n (b := (P.length : Int)) (by omega)
  rw [rotL, rotL_len]
  have e1 : rotL P n = P.drop (P.length - b) ++ P.take (P.length - b) := by rw [rotL, ← hb]; simp
  have e2 : ((-n) % (P.length : Int)).toNat = if b = 0 then 0 else P.length - b := by
    have h3 : (-n) % (P.length : Int) = (-(b : Int)) % (P.length : Int) := by
      have hd := Int.mul_ediv_add_emod n (P.length : Int)
      rw [← hb] at hd
      rw [show -n = -(b : Int) + (P.length : Int) * (-(n / (P.length : Int))) by rw [Int.mul_neg]; omega, Int.add_mul_emod_self_left]
    split
    · rename_i h0; rw [h3, h0]; simp
    · rename_i h0
      rw [h3, show (-(b : Int)) = ((P.length - b : Nat) : Int) + (P.length : Int) * (-1) by omega, Int.add_mul_emod_self_left, Int.emod_eq_of_lt (by omega) (by omega)]; simp
  rw [e2, e1]
  split
  · rename_i h0; subst h0; simp
  · rename_i h0
    have : P.length - (P.length - b) = b := by omega
    rw [this]
    have l1 : (P.drop (P.length - b)).length = b := by simp; omega
    rw [List.drop_append, List.take_append, l1, Nat.sub_self, List.drop_zero, List.take_zero, List.append_nil, List.drop_of_length_le (l := P.drop (P.length - b)) (by omega), List.take_of_length_le (l := P.drop (P.length - b)) (by omega), List.nil_append, List.take_append_drop]
theorem place_pos (n i : Int) (h1 : 1 ≤ i) (h2 : i ≤ n) : placeR n i = (i - 1, 0) := by rw [placeR, if_pos ⟨h1, h2⟩]
theorem place_neg (n i : Int) (h1 : i ≤ -1) (h2 : -n ≤ i) : placeR n i = (n + i, 0) := by rw [placeR, if_neg (by omega), if_pos ⟨h1, h2⟩]
theorem atP_of {L : List Vl} {i : Int} {x : Int} {k : Nat} (h : placeR L.length i = (x, 0)) (hk : x = k) : atP L i = k := by rw [atP, h]; simp [hk]
theorem rot_of {L : List Vl} {i n : Int} {x : Int} {k : Nat} (h : placeR L.length i = (x, 0)) (hk : x = k) : rotR L i n = (0, L.take k ++ rotL (L.drop k) n) := by
  rw [rotR, if_pos (by rw [okP, h]), atP_of h hk]
theorem at_of {L : List Vl} {i : Int} {x : Int} {k : Nat} {y : Vl} (h : placeR L.length i = (x, 0)) (hk : x = k) (hy : L[k]? = some y) : atR L i = (y, 0) := by
  rw [atR, if_pos (by rw [okP, h]), atP_of h hk, List.getD_eq_getElem?_getD, hy]; rfl
/-- StackTurns: the first rotation, the value, and back. -/
theorem turn1 (M : List Vl) (k : Nat) (i n : Int) (hi : i = (k : Int) + 1) (hk : k < M.length) : rotR M i n = (0, M.take k ++ rotL (M.drop k) n) :=
  rot_of (x := i - 1) (place_pos _ _ (by omega) (by omega)) (by omega)
theorem turn2 (M : List Vl) (k : Nat) (i n : Int) {y : Vl} (hk : k < M.length) (hy : M[k]? = some y) (hi : i = (k : Int) + 1 + n % ((M.length : Int) - k)) : atR (M.take k ++ rotL (M.drop k) n) i = (y, 0) := by
  have hl : (M.take k ++ rotL (M.drop k) n).length = M.length := by rw [List.length_append, rotL_len]; simp; omega
  have hm : ((M.drop k).length : Int) = (M.length : Int) - k := by simp; omega
  have h1 := Int.emod_nonneg n (b := (M.length : Int) - k) (by omega)
  have h2 := Int.emod_lt_of_pos n (b := (M.length : Int) - k) (by omega)
  obtain ⟨b, hb⟩ : ∃ b : Nat, (b : Int) = n % ((M.length : Int) - k) := ⟨(n % ((M.length : Int) - k)).toNat, by omega⟩
  refine at_of (x := i - 1) (k := k + b) (place_pos _ _ (by omega) (by rw [hl]; omega)) (by omega) ?_
  have e1 : rotL (M.drop k) n = (M.drop k).drop (M.length - k - b) ++ (M.drop k).take (M.length - k - b) := by
    rw [rotL, hm, ← hb, List.length_drop]; simp
  rw [List.getElem?_append_right (by simp; omega), show k + b - (M.take k).length = b by simp; omega, e1]
  rw [List.getElem?_append_right (by simp; omega), show b - ((M.drop k).drop (M.length - k - b)).length = 0 by simp; omega, List.getElem?_take, if_pos (by omega), List.getElem?_drop]
  exact hy
theorem turn3 (M : List Vl) (k : Nat) (i n : Int) (hk : k < M.length) (hi : i = (k : Int) - M.length) : rotR (M.take k ++ rotL (M.drop k) n) i (-n) = (0, M) := by
  have hl : (M.take k ++ rotL (M.drop k) n).length = M.length := by rw [List.length_append, rotL_len]; simp; omega
  rw [rot_of (x := (M.length : Int) + i) (k := k) (by rw [hl]; exact place_neg _ _ (by omega) (by omega)) (by omega)]
  have lk : (M.take k).length = k := by simp; omega
  rw [List.take_append_of_le_length (by omega), List.drop_append, lk, Nat.sub_self, List.drop_zero, List.drop_of_length_le (by omega), List.nil_append, List.take_take, Nat.min_self, rotL_inv _ _ (by simp; omega), List.take_append_drop]
/-- StackEnds. -/
def insL (M : List Vl) (k : Nat) (v : Vl) : List Vl := M.take k ++ v :: M.drop k
theorem ends1 (M : List Vl) (v : Vl) (k : Nat) (i : Int) (hk : k ≤ M.length) (hi : i = (k : Int) + 1) : rotR (M ++ [v]) i 1 = (0, insL M k v) := by
  rw [rot_of (x := i - 1) (k := k) (place_pos _ _ (by omega) (by simp; omega)) (by omega)]
  have e : rotL ((M ++ [v]).drop k) 1 = v :: M.drop k := by
    have l1 : ((M ++ [v]).drop k).length = M.length - k + 1 := by simp; omega
    have d1 : (M ++ [v]).drop k = M.drop k ++ [v] := by rw [List.drop_append_of_le_length hk]
    rw [rotL, l1]
    by_cases h : M.length - k = 0
    · have : M.drop k = [] := List.drop_of_length_le (by omega)
      rw [d1, this, h]; simp
    · have : ((1 : Int) % ((M.length - k + 1 : Nat) : Int)).toNat = 1 := by rw [Int.emod_eq_of_lt (by omega) (by omega)]; rfl
      rw [this, d1, Nat.add_sub_cancel, List.drop_append, List.take_append, List.drop_of_length_le (by simp), List.take_of_length_le (by simp)]
      simp
  rw [e, List.take_append_of_le_length hk]; rfl
theorem insL_len (M : List Vl) (k : Nat) (v : Vl) (hk : k ≤ M.length) : (insL M k v).length = M.length + 1 := by simp [insL]; omega
theorem insL_get (M : List Vl) (k : Nat) (v : Vl) (hk : k ≤ M.length) : (insL M k v)[k]? = some v := by
  have lk : (M.take k).length = k := by rw [List.length_take]; omega
  rw [insL, List.getElem?_append_right (by omega), lk, Nat.sub_self]; rfl
theorem ends2 (M : List Vl) (v : Vl) (k : Nat) (i : Int) (hk : k ≤ M.length) (hi : i = (k : Int) + 1) : atR (insL M k v) i = (v, 0) :=
  at_of (x := i - 1) (k := k) (place_pos _ _ (by omega) (by rw [insL_len _ _ _ hk]; omega)) (by omega) (insL_get _ _ _ hk)
theorem ends3 (M : List Vl) (v : Vl) (k : Nat) (i : Int) (hk : k ≤ M.length) (hi : i = (k : Int) + 1 - M.length - 2) : atR (insL M k v) i = (v, 0) :=
  at_of (x := ((insL M k v).length : Int) + i) (k := k) (place_neg _ _ (by omega) (by rw [insL_len _ _ _ hk]; omega)) (by rw [insL_len _ _ _ hk]; omega) (insL_get _ _ _ hk)
theorem ends4 (M : List Vl) (v : Vl) (k : Nat) (i : Int) (hk : k ≤ M.length) (hi : i = (k : Int) + 1) : removeR (insL M k v) i = (0, M) := by
  have hp := place_pos ((insL M k v).length : Int) i (by omega) (by rw [insL_len _ _ _ hk]; omega)
  rw [removeR, if_pos (by rw [okP, hp]), atP_of hp (k := k) (by omega), insL]
  have lk : (M.take k).length = k := by simp; omega
  rw [List.take_append_of_le_length (by omega), List.take_take, Nat.min_self, List.drop_append, lk, List.drop_of_length_le (by omega), Nat.add_sub_cancel_left]
  simp
end Go.Proofs.Ytnhbejiakfaohaa
