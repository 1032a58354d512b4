/-
  Plain facts of layer 17: what every call keeps. No program in sight.
-/
import Derived.Test.YtnhbejiakfaohaaL4
set_option linter.unusedSimpArgs false
set_option linter.unusedVariables false
namespace Go.Proofs.Ytnhbejiakfaohaa
theorem put_of {L : List Vl} {i : Int} {k : Nat} {v : Vl} (hi : i = (k : Int) + 1) (hk : k < L.length) (hv : validB v = true) : putR L i v = (0, L.set k v) := by
  have hp := place_pos (L.length : Int) i (by omega) (by omega)
  rw [putR, if_pos (by rw [okP, hp]), atP_of hp (k := k) (by omega), hv]; simp
theorem setTop0 (L : List Vl) : setTopR L 1000 0 = (0, []) := by rw [setTopR, if_neg (by omega), if_pos (by omega)]; rfl
theorem err_push {L : List Vl} {lim : Int} {v : Vl} (h : (pushR L lim v).1 ≠ 0) : (pushR L lim v).2 = L := by
  unfold pushR at h ⊢; split; rfl; split; rfl; rename_i h1 h2; rw [if_neg h1, if_neg h2] at h; exact absurd rfl h
theorem err_pop {L : List Vl} {n : Int} (h : (popR L n).1 ≠ 0) : (popR L n).2 = L := by
  unfold popR at h ⊢; split; rfl; split; rfl; rename_i h1 h2; rw [if_neg h1, if_neg h2] at h; exact absurd rfl h
theorem err_setTop {L : List Vl} {lim n : Int} (h : (setTopR L lim n).1 ≠ 0) : (setTopR L lim n).2 = L := by
  unfold setTopR at h ⊢; split; rfl; rename_i h1; rw [if_neg h1] at h; split at h <;> exact absurd rfl h
theorem err_put {L : List Vl} {i : Int} {v : Vl} (h : (putR L i v).1 ≠ 0) : (putR L i v).2 = L := by
  unfold putR at h ⊢; split
  · rename_i h1; rw [if_pos h1] at h; split; rfl; rename_i h2; rw [if_neg h2] at h; exact absurd rfl h
  · rfl
theorem err_rot {L : List Vl} {i n : Int} (h : (rotR L i n).1 ≠ 0) : (rotR L i n).2 = L := by
  unfold rotR at h ⊢; split
  · rename_i h1; rw [if_pos h1] at h; exact absurd rfl h
  · rfl
theorem err_rem {L : List Vl} {i : Int} (h : (removeR L i).1 ≠ 0) : (removeR L i).2 = L := by
  unfold removeR at h ⊢; split
  · rename_i h1; rw [if_pos h1] at h; exact absurd rfl h
  · rfl
theorem err_copy {L : List Vl} {i j : Int} (h : (copyR L i j).1 ≠ 0) : (copyR L i j).2 = L := by
  unfold copyR at h ⊢; split
  · rename_i h1; rw [if_pos h1] at h; split
    · rename_i h2; rw [if_pos h2] at h; exact absurd rfl h
    · rfl
  · rfl
theorem prog_err {L : List Vl} {lim : Int} {c : Cl} : (progR L lim c).1.2.2 ≠ 0 → (progR L lim c).2 = L := by
  unfold progR
  split; exact err_push
  split; exact err_pop
  split; exact err_setTop
  split; exact fun _ => rfl
  split; exact fun _ => rfl
  split; exact err_put
  split; exact err_rot
  split; exact err_rem
  split; exact err_rot
  split; exact err_copy
  exact fun _ => rfl
theorem len_rot (L : List Vl) (i n : Int) : (rotR L i n).2.length = L.length := by
  unfold rotR; split
  · simp [rotL_len]; omega
  · rfl
theorem prog_len {L : List Vl} {lim : Int} {c : Cl} (h : (L.length : Int) ≤ lim) : ((progR L lim c).2.length : Int) ≤ lim := by
  unfold progR
  split
  · unfold pushR; split; exact h; split; exact h; simp; omega
  split
  · unfold popR; split; exact h; split; exact h; simp; omega
  split
  · unfold setTopR; split; exact h; split <;> simp <;> omega
  split; exact h
  split; exact h
  split
  · unfold putR; split; split; exact h; simp; exact h; exact h
  split; rw [len_rot]; exact h
  split
  · unfold removeR; split; simp; omega; exact h
  split; rw [len_rot]; exact h
  split
  · unfold copyR; split; split; simp; exact h; exact h; exact h
  exact h
theorem prog_room {L : List Vl} {lim : Int} {c : Cl} (hk : c.kind = 0) (hv : validB c.val = true) : (progR L lim c).1.2.2 = roomR L lim 1 := by
  rw [progR, if_pos hk, pushR, hv, roomR]
  simp
  by_cases h : lim ≤ L.length
  · rw [if_pos h, if_pos (by omega)]
  · rw [if_neg h, if_neg (by omega)]
end Go.Proofs.Ytnhbejiakfaohaa
