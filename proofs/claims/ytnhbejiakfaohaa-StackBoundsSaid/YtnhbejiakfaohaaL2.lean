/-
  Plain facts of layer 17: the reference's rotation, removal and copy. No program in sight.
-/
import Derived.Test.YtnhbejiakfaohaaL
set_option linter.unusedSimpArgs false
set_option linter.unusedVariables false
namespace Go.Proofs.Ytnhbejiakfaohaa
theorem mod1 (a m : Nat) (h : a < 2 * m) : a % m = if a < m then a else a - m := by
  split
  · rename_i h1; exact Nat.mod_eq_of_lt h1
  · rename_i h1; rw [Nat.mod_eq_sub_mod (by omega), Nat.mod_eq_of_lt (by omega)]
def rotI (L : List Vl) (k nn m j s : Nat) : Option Vl := if k ≤ s ∧ s < k + m ∧ (s - k + (m - nn)) % m < j then L[k + (s - k + (m - nn)) % m]? else L[s]?
theorem rot_step {L A : List Vl} {k nn m j : Nat} {y : Vl} (h : ∀ s, A[s]? = rotI L k nn m j s) (hlen : A.length = L.length) (hkm : k + m = L.length) (hnn : nn < m) (hj : j < m) (hy : L[k + j]? = some y) (s : Nat) : (A.set (k + (j + nn) % m) y)[s]? = rotI L k nn m (j + 1) s := by
  have e1 := mod1 (j + nn) m (by omega)
  by_cases hs : s = k + (j + nn) % m
  · subst hs
    have hlt : (j + nn) % m < m := Nat.mod_lt _ (by omega)
    have e2 := mod1 (k + (j + nn) % m - k + (m - nn)) m (by omega)
    have e3 : (k + (j + nn) % m - k + (m - nn)) % m = j := by
      rw [e2]; split at e1 <;> split <;> omega
    rw [List.getElem?_set_self (by omega), rotI, if_pos ⟨by omega, by omega, by omega⟩, e3, hy]
  · rw [List.getElem?_set_ne (fun e => hs e.symm), h s, rotI, rotI]
    by_cases hr : k ≤ s ∧ s < k + m
    · have e2 := mod1 (s - k + (m - nn)) m (by omega)
      have hne : (s - k + (m - nn)) % m ≠ j := by
        intro e; apply hs; rw [e2] at e; split at e1 <;> split at e <;> omega
      by_cases h1 : (s - k + (m - nn)) % m < j
      · rw [if_pos ⟨hr.1, hr.2, h1⟩, if_pos ⟨hr.1, hr.2, by omega⟩]
      · rw [if_neg (fun q => h1 q.2.2), if_neg (fun q => by have := q.2.2; omega)]
    · rw [if_neg (fun q => hr ⟨q.1, q.2.1⟩), if_neg (fun q => hr ⟨q.1, q.2.1⟩)]
theorem rot_end {L A : List Vl} {k nn m : Nat} {n : Int} (h : ∀ s, A[s]? = rotI L k nn m m s) (hkm : k + m = L.length) (hnn : nn < m) (hn : (nn : Int) = n % (m : Int)) : A = L.take k ++ rotL (L.drop k) n := by
  have e : (n % ((L.drop k).length : Int)).toNat = nn := by rw [List.length_drop, show L.length - k = m by omega, ← hn]; simp
  have el : (L.drop k).length = m := by rw [List.length_drop]; omega
  rw [rotL, e, el]
  apply List.ext_getElem?
  intro s
  rw [h s, rotI]
  have hm := mod1 (s - k + (m - nn)) m
  by_cases h1 : s < k
  · rw [if_neg (by omega), List.getElem?_append_left (by simp; omega), List.getElem?_take, if_pos h1]
  · rw [List.getElem?_append_right (by simp; omega), show (List.take k L).length = k by simp; omega]
    by_cases h2 : s < k + m
    · have hm' := hm (by omega)
      have hlt : (s - k + (m - nn)) % m < m := Nat.mod_lt _ (by omega)
      rw [if_pos ⟨by omega, h2, hlt⟩, hm']
      have l2 : ((L.drop k).drop (m - nn)).length = nn := by rw [List.length_drop, el]; omega
      by_cases h3 : s - k < nn
      · rw [if_pos (by omega), List.getElem?_append_left (by rw [l2]; exact h3), List.getElem?_drop, List.getElem?_drop]; congr 1; omega
      · rw [if_neg (by omega), List.getElem?_append_right (by rw [l2]; omega), l2, List.getElem?_take, if_pos (by omega), List.getElem?_drop]; congr 1; omega
    · rw [if_neg (by omega), List.getElem?_eq_none (by omega), List.getElem?_eq_none (by simp; omega)]
theorem absR_ok {L : List Vl} {i : Int} (h : (absR L i).2 = 0) : ∃ k : Nat, (absR L i).1 = (k : Int) + 1 ∧ k < L.length ∧ k = atP L i ∧ okP L.length i := by
  unfold absR at h ⊢
  split at h <;> rename_i h1
  · have := placeR_lt h1 (by omega)
    refine ⟨atP L i, ?_, ?_, rfl, h1⟩
    · rw [if_pos h1]; simp only [atP]; omega
    · simp only [atP]; omega
  · cases h
theorem absR_err {L : List Vl} {i : Int} (h : (absR L i).2 ≠ 0) : (absR L i).2 = 6 ∧ ¬ okP L.length i := by
  unfold absR at h ⊢
  split at h <;> rename_i h1
  · exact absurd rfl h
  · rw [if_neg h1]; exact ⟨rfl, h1⟩
theorem abs_pos {L : List Vl} {i : Int} (h1 : 1 ≤ i) (h2 : i ≤ L.length) : absR L i = (i, 0) := by
  have e : placeR L.length i = (i - 1, 0) := by rw [placeR, if_pos ⟨h1, h2⟩]
  rw [absR, if_pos (by rw [okP, e]), e]; simp
theorem abs_neg {L : List Vl} {i : Int} {n : Int} (h1 : i ≤ -1) (h2 : -(L.length : Int) ≤ i) (hn : n = (L.length : Int) + 1 + i) : absR L i = (n, 0) := by
  have e : placeR L.length i = (L.length + i, 0) := by rw [placeR, if_neg (by omega), if_pos ⟨h1, h2⟩]
  rw [absR, if_pos (by rw [okP, e]), e, hn]; simp; omega
theorem abs_none {L : List Vl} {i : Int} (h1 : ¬ (1 ≤ i ∧ i ≤ L.length)) (h2 : ¬ (i ≤ -1 ∧ -(L.length : Int) ≤ i)) : absR L i = (0, 6) := by
  have e : placeR L.length i = (0, 6) := by rw [placeR, if_neg h1, if_neg h2]
  rw [absR, if_neg (by rw [okP, e]; decide)]
theorem rep_succ (L : List Vl) (t : Nat) : (L ++ List.replicate t zVl) ++ [(⟨0, 0, 0, ByteArray.empty, 0⟩ : Vl)] = L ++ List.replicate (t + 1) zVl := by
  rw [List.replicate_succ', List.append_assoc]; rfl
/-- The reference removes by a rotation and a pop. -/
def rremR (L : List Vl) (i : Int) : Int × List Vl := if okP L.length i then popR (rotR L i (-1)).2 1 else (6, L)
def rcopyR (L : List Vl) (i j : Int) : Int × List Vl := if okP L.length i then putR L j (L.getD (atP L i) zVl) else (6, L)
theorem rrem_a {L : List Vl} {i : Int} (h : (rotR L i (-1)).1 ≠ 0) : rremR L i = ((rotR L i (-1)).1, (rotR L i (-1)).2) := by
  unfold rremR
  split <;> rename_i hk
  · rw [rotR, if_pos hk] at h; exact absurd rfl h
  · rw [rotR, if_neg hk]
theorem rrem_b {L : List Vl} {i : Int} (h : (rotR L i (-1)).1 = 0) : rremR L i = ((popR (rotR L i (-1)).2 1).1, (popR (rotR L i (-1)).2 1).2) := by
  unfold rremR
  split <;> rename_i hk
  · rfl
  · rw [rotR, if_neg hk] at h; cases h
theorem rcopy_a {L : List Vl} {i j : Int} (h : (atR L i).2 ≠ 0) : rcopyR L i j = ((atR L i).2, L) := by
  unfold rcopyR
  split <;> rename_i hk
  · rw [atR, if_pos hk] at h; exact absurd rfl h
  · rw [atR, if_neg hk]
theorem rcopy_b {L : List Vl} {i j : Int} (h : (atR L i).2 = 0) : rcopyR L i j = ((putR L j (atR L i).1).1, (putR L j (atR L i).1).2) := by
  unfold rcopyR
  split <;> rename_i hk
  · rw [atR, if_pos hk]
  · rw [atR, if_neg hk] at h; cases h
theorem rrem_eq (L : List Vl) (i : Int) : rremR L i = removeR L i := by
  unfold rremR removeR
  split <;> rename_i h
  · have hq := placeR_lt h (by omega)
    have hk : atP L i < L.length := by simp only [atP]; omega
    rw [rotR, if_pos h]
    dsimp only
    have el : (L.drop (atP L i)).length = L.length - atP L i := by simp
    have e : ((-1 : Int) % ((L.drop (atP L i)).length : Int)).toNat = L.length - atP L i - 1 := by
      have h1 : (-1 : Int) % ((L.drop (atP L i)).length : Int) = ((L.drop (atP L i)).length : Int) - 1 := by
        rw [show (-1 : Int) = ((L.drop (atP L i)).length : Int) - 1 + ((L.drop (atP L i)).length : Int) * (-1) by omega, Int.add_mul_emod_self_left, Int.emod_eq_of_lt (by omega) (by omega)]
      rw [h1]; omega
    have er : rotL (L.drop (atP L i)) (-1) = (L.drop (atP L i + 1)) ++ (L.drop (atP L i)).take 1 := by
      rw [rotL, e, el, show L.length - atP L i - (L.length - atP L i - 1) = 1 by omega, List.drop_drop]
    rw [er, popR, if_neg (by omega), if_neg (by simp; omega)]
    congr 1
    rw [← List.append_assoc]
    rw [List.take_append_of_le_length (by simp; omega), List.take_of_length_le (by simp; omega)]
  · rfl
theorem rcopy_eq (L : List Vl) (i j : Int) (hv : ∀ v ∈ L, validB v = true) : rcopyR L i j = copyR L i j := by
  unfold rcopyR copyR
  split <;> rename_i h
  · have hq := placeR_lt h (by omega)
    have hk : atP L i < L.length := by simp only [atP]; omega
    have : validB (L.getD (atP L i) zVl) = true := by
      rw [List.getD_eq_getElem?_getD, List.getElem?_eq_getElem hk]; exact hv _ (List.getElem_mem hk)
    rw [putR, this]; simp
  · rfl
end Go.Proofs.Ytnhbejiakfaohaa
