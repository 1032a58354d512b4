/-
  Plain facts of layer 17: values that are valid, stacks as lists. No program in sight.
-/
import Derived.Test.YtdakfjdbdopmbaaDoorVL
set_option linter.unusedSimpArgs false
set_option linter.unusedVariables false
namespace Go.Proofs.YtdakfjdbdopmbaaDoor.St
/-- The place of an index from 0 on. -/
def placeR (n i : Int) : Int × Int := if 1 ≤ i ∧ i ≤ n then (i - 1, 0) else if i ≤ -1 ∧ -n ≤ i then (n + i, 0) else (0, 6)
abbrev okP (n i : Int) : Prop := (placeR n i).2 = 0
theorem placeR_lt {n i : Int} (h : (placeR n i).2 = 0) (hn : 0 ≤ n) : 0 ≤ (placeR n i).1 ∧ (placeR n i).1 < n := by
  unfold placeR at h ⊢; split at h <;> rename_i h1
  · rw [if_pos h1]; dsimp only; omega
  · rw [if_neg h1]; split at h <;> rename_i h2
    · rw [if_pos h2]; dsimp only; omega
    · cases h
theorem placeR_err {n i : Int} (h : ¬ (placeR n i).2 = 0) : (placeR n i).2 = 6 := by
  unfold placeR at h ⊢; split at h <;> rename_i h1
  · exact absurd rfl h
  · rw [if_neg h1]; split at h <;> rename_i h2
    · exact absurd rfl h
    · rw [if_neg h2]
section
variable (L : List Vl) (lim : Int)
def atP (i : Int) : Nat := (placeR L.length i).1.toNat
def pushR (v : Vl) : Int × List Vl := if validB v = false then (2, L) else if lim ≤ L.length then (17, L) else (0, L ++ [v])
def popR (n : Int) : Int × List Vl := if n < 0 then (2, L) else if (L.length : Int) < n then (18, L) else (0, L.take (L.length - n.toNat))
def setTopR (n : Int) : Int × List Vl := if n < 0 ∨ lim < n then (6, L) else if n ≤ L.length then (0, L.take n.toNat) else (0, L ++ List.replicate (n.toNat - L.length) zVl)
def absR (i : Int) : Int × Int := if okP L.length i then ((placeR L.length i).1 + 1, 0) else (0, 6)
def atR (i : Int) : Vl × Int := if okP L.length i then (L.getD (atP L i) zVl, 0) else (zVl, 6)
def putR (i : Int) (v : Vl) : Int × List Vl := if okP L.length i then (if validB v = false then (2, L) else (0, L.set (atP L i) v)) else (6, L)
def rotL (P : List Vl) (n : Int) : List Vl := P.drop (P.length - (n % P.length).toNat) ++ P.take (P.length - (n % P.length).toNat)
def rotR (i n : Int) : Int × List Vl := if okP L.length i then (0, L.take (atP L i) ++ rotL (L.drop (atP L i)) n) else (6, L)
def removeR (i : Int) : Int × List Vl := if okP L.length i then (0, L.take (atP L i) ++ L.drop (atP L i + 1)) else (6, L)
def copyR (i j : Int) : Int × List Vl := if okP L.length i then (if okP L.length j then (0, L.set (atP L j) (L.getD (atP L i) zVl)) else (6, L)) else (6, L)
def roomR (n : Int) : Int := if n < 0 then 2 else if lim - L.length < n then 17 else 0
end
theorem tmod_emod (n m : Int) (hm : 0 < m) : (n.tmod m < 0 → n % m = n.tmod m + m) ∧ (0 ≤ n.tmod m → n % m = n.tmod m) := by
  have h1 : n.tmod m < m := Int.tmod_lt_of_pos n hm
  have h2 : -m < n.tmod m := by
    have := Int.lt_tmod_of_pos n hm
    exact this
  have h3 := Int.mul_tdiv_add_tmod n m
  constructor
  · intro h
    have : n % m = (n.tmod m + m) % m := by
      conv => lhs; rw [← h3]
      rw [Int.add_emod_right, Int.add_comm, Int.add_mul_emod_self_left]
    rw [this, Int.emod_eq_of_lt (by omega) (by omega)]
  · intro h
    have : n % m = (n.tmod m) % m := by
      conv => lhs; rw [← h3]
      rw [Int.add_comm, Int.add_mul_emod_self_left]
    rw [this, Int.emod_eq_of_lt h h1]
theorem rot_two {α : Type} (L L1 L2 : List α) (k b y : Nat) (hk : k < L.length) (hb : b ≤ L.length - k) (hy : y = L.length - k - b)
   (h1 : L1 = L.take (k + b) ++ ((L.drop k).take (L.length - k - b) ++ L.drop (k + b + (L.length - k - b))))
   (h2 : L2 = L1.take k ++ ((L.drop k).drop y ++ L1.drop (k + (L.length - k - y)))) : L2 = L.take k ++ ((L.drop k).drop (L.length - k - b) ++ (L.drop k).take (L.length - k - b)) := by
  subst hy
  have e : L1 = L.take (k + b) ++ (L.drop k).take (L.length - k - b) := by
    rw [h1, List.drop_of_length_le (i := k + b + (L.length - k - b)) (by omega), List.append_nil]
  rw [h2, e]
  congr 1
  · rw [List.take_append_of_le_length (by simp; omega), List.take_take]; congr 1; omega
  congr 1
  rw [List.drop_append, List.drop_of_length_le (by simp; omega), List.nil_append]
  rw [show k + (L.length - k - (L.length - k - b)) - (List.take (k + b) L).length = 0 by simp; omega]
  simp
theorem rot_two' (L L1 L2 : List Vl) (k b y : Nat) (hk : k < L.length) (hb : b ≤ L.length - k) (hy : y = L.length - k - b)
    (h1 : L1 = L.take ((0 + k) + b) ++ ((L.drop k).take ((L.length - k) - b) ++ L.drop (((0 + k) + b) + min (L.drop k).length ((L.length - k) - b))))
    (h2 : L2 = L1.take (0 + k) ++ (((L.drop k).drop y).take (L1.length - k) ++ L1.drop ((0 + k) + min ((L.drop k).drop y).length (L1.length - k)))) : L2 = L.take k ++ ((L.drop k).drop (L.length - k - b) ++ (L.drop k).take (L.length - k - b)) := by
  have l1 : L1.length = L.length := by rw [h1]; simp; omega
  refine rot_two L L1 L2 k b y hk hb hy ?_ ?_
  · rw [h1, List.length_drop, Nat.zero_add, Nat.min_eq_right (by omega)]
  · rw [h2, l1, List.take_of_length_le (l := (L.drop k).drop y) (by simp; omega), List.length_drop, List.length_drop, Nat.zero_add, Nat.min_eq_left (by omega)]
theorem rot_fin (L L1 L2 : List Vl) (i n x y : Int) (hok : (placeR (L.length : Int) i).2 = 0) (hx : x = n % ((L.drop ((placeR (L.length : Int) i).1).toNat).length : Int)) (hy : y = ((L.drop ((placeR (L.length : Int) i).1).toNat).length : Int) - x)
    (h1 : L1 = L.take ((0 + ((placeR (L.length : Int) i).1).toNat) + x.toNat) ++ ((L.drop ((placeR (L.length : Int) i).1).toNat).take ((L.length - ((placeR (L.length : Int) i).1).toNat) - x.toNat) ++ L.drop (((0 + ((placeR (L.length : Int) i).1).toNat) + x.toNat) + min (L.drop ((placeR (L.length : Int) i).1).toNat).length ((L.length - ((placeR (L.length : Int) i).1).toNat) - x.toNat))))
    (h2 : L2 = L1.take (0 + ((placeR (L.length : Int) i).1).toNat) ++ (((L.drop ((placeR (L.length : Int) i).1).toNat).drop y.toNat).take (L1.length - ((placeR (L.length : Int) i).1).toNat) ++ L1.drop ((0 + ((placeR (L.length : Int) i).1).toNat) + min ((L.drop ((placeR (L.length : Int) i).1).toNat).drop y.toNat).length (L1.length - ((placeR (L.length : Int) i).1).toNat)))) : rotR L i n = (0, L2) := by
  have hq := placeR_lt hok (by omega)
  have hp : 0 < (L.drop ((placeR (L.length : Int) i).1).toNat).length := by simp; omega
  have hpos := Int.emod_nonneg n (b := ((L.drop ((placeR (L.length : Int) i).1).toNat).length : Int)) (by omega)
  have hlt := Int.emod_lt_of_pos n (b := ((L.drop ((placeR (L.length : Int) i).1).toNat).length : Int)) (by omega)
  rw [← hx] at hpos hlt
  rw [List.length_drop] at hlt hp hy
  have e := rot_two' L L1 L2 _ x.toNat y.toNat (by omega) (by omega) (by omega) h1 h2
  have e2 : (n % ((L.drop ((placeR (L.length : Int) i).1).toNat).length : Int)).toNat = x.toNat := by rw [← hx]
  rw [rotR, if_pos (show okP _ _ from hok), rotL, e]
  show (_, L.take ((placeR (L.length : Int) i).1).toNat ++ ((L.drop ((placeR (L.length : Int) i).1).toNat).drop ((L.drop ((placeR (L.length : Int) i).1).toNat).length - (n % ((L.drop ((placeR (L.length : Int) i).1).toNat).length : Int)).toNat) ++ (L.drop ((placeR (L.length : Int) i).1).toNat).take ((L.drop ((placeR (L.length : Int) i).1).toNat).length - (n % ((L.drop ((placeR (L.length : Int) i).1).toNat).length : Int)).toNat))) = _
  rw [e2, List.length_drop]
theorem rem_fin (L L1 : List Vl) (i x : Int) (hok : (placeR (L.length : Int) i).2 = 0) (hx : x = (placeR (L.length : Int) i).1 + 1)
    (h1 : L1 = L.take (0 + ((placeR (L.length : Int) i).1).toNat) ++ ((L.drop x.toNat).take (L.length - ((placeR (L.length : Int) i).1).toNat) ++ L.drop ((0 + ((placeR (L.length : Int) i).1).toNat) + min (L.drop x.toNat).length (L.length - ((placeR (L.length : Int) i).1).toNat)))) : removeR L i = (0, L1.take (L1.length - 1)) := by
  have hq := placeR_lt hok (by omega)
  have l1 : L1.length = L.length := by rw [h1]; simp; omega
  have e : L1.take (L1.length - 1) = L.take ((placeR (L.length : Int) i).1).toNat ++ L.drop (((placeR (L.length : Int) i).1).toNat + 1) := by
    rw [l1, h1, show x.toNat = ((placeR (L.length : Int) i).1).toNat + 1 by omega, List.length_drop, Nat.zero_add, List.take_of_length_le (l := L.drop _) (by simp; omega), ← List.append_assoc, List.take_append_of_le_length (by simp; omega), List.take_of_length_le (by simp; omega)]
  rw [removeR, if_pos (show okP _ _ from hok), e]; rfl
/-- The rotation by two copies. -/
theorem rot_copies (A P : List Vl) (n : Int) (b : Nat) (hp : 0 < P.length) (hb : (b : Int) = n % P.length) :
    A ++ rotL P n = A ++ (P.drop (P.length - b) ++ P.take (P.length - b)) := by
  have : (n % (P.length : Int)).toNat = b := by omega
  rw [rotL, this]
end Go.Proofs.YtdakfjdbdopmbaaDoor.St
