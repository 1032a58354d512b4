/-
  FinalizerOnce walked. No condition but that the arguments are what the types say.
-/
import Derived.Test.YtipmkaabogocfaaF7
set_option linter.unusedSimpArgs false
set_option linter.unusedVariables false
set_option maxRecDepth 100000
set_option maxHeartbeats 2000000
namespace Go.Proofs.Ytipmkaabogocfaa
open Go.Hp Go.J Go.S
open Go.Mem (Ty KTy blk elemAt pre suf blk_pre blk_suf aget aset strK aggDesc)
theorem sep_perm (A rg : List Int) : (sepL A rg ++ stayL A rg).Perm rg := by
  unfold sepL stayL lostL
  refine ((List.reverse_perm _).append_right _).trans (List.perm_append_comm.trans ?_)
  exact List.filter_append_perm (fun x => decide (x ∈ A)) rg
theorem stay_nil (rg : List Int) : stayL [] rg = [] := by unfold stayL; rw [List.filter_eq_nil_iff]; intro a _; simp
theorem once_step (x : Cl) {ad tk pd rg : List Int} (h : ad.Perm (tk ++ (pd ++ rg))) {b1 b2 : Bool} (h1 : (decide (x.kind = 0) && decide (prE x rg = 0)) = b1) (h2 : (decide (x.kind = 3) && prB x rg pd) = b2) : (if b1 = true then ad ++ [x.id] else ad).Perm ((if b2 = true then tk ++ [prN x pd] else tk) ++ (prP x rg pd ++ prR x rg)) := by
  have sp : ∀ A : List Int, ad.Perm (tk ++ ((pd ++ sepL A rg) ++ stayL A rg)) := fun A => by
    refine h.trans (List.Perm.append_left tk ?_)
    rw [List.append_assoc]
    exact List.Perm.append_left pd (sep_perm A rg).symm
  by_cases k0 : x.kind = 0
  · have e1 : prE x rg = addI rg x.id := by simp [prE, k0]
    have e2 : prR x rg = addL rg x.id := by simp [prR, k0]
    have e3 : prP x rg pd = pd := by simp [prP, k0]
    have b2f : b2 = false := by rw [← h2]; simp [k0]
    rw [e2, e3, b2f]
    rw [e1, decide_eq_true k0, Bool.true_and] at h1
    by_cases a : addI rg x.id = 0
    · rw [decide_eq_true a] at h1
      rw [← h1, add_ok a, ← List.append_assoc pd, ← List.append_assoc]
      exact h.append_right _
    · rw [decide_eq_false a] at h1
      rw [← h1, add_no a]; exact h
  · have b1f : b1 = false := by rw [← h1]; simp [k0]
    rw [b1f]
    by_cases k3 : x.kind = 3
    · have e2 : prR x rg = rg := by simp [prR, k3]
      have e3 : prP x rg pd = pd.tail := by simp [prP, k3]
      have e4 : prN x pd = nextI pd := by simp [prN, k3]
      have e5 : prB x rg pd = nextB pd := by simp [prB, k3]
      rw [e2, e3, e4]
      rw [e5, decide_eq_true k3, Bool.true_and] at h2
      rw [← h2]
      cases pd with
      | nil => exact h
      | cons a r => simpa [nextB, nextI] using h
    · have b2f : b2 = false := by rw [← h2]; simp [k3]
      rw [b2f]
      by_cases k1 : x.kind = 1
      · rw [show prR x rg = rg by simp [prR, k1], show prP x rg pd = pd by simp [prP, k1]]; exact h
      · by_cases k2 : x.kind = 2
        · rw [show prR x rg = stayL x.alive rg by simp [prR, k2], show prP x rg pd = pd ++ sepL x.alive rg by simp [prP, k2]]; exact sp _
        · by_cases k4 : x.kind = 4
          · rw [show prR x rg = rg by simp [prR, k4], show prP x rg pd = pd by simp [prP, k4]]; exact h
          · by_cases k5 : x.kind = 5
            · rw [show prR x rg = rg by simp [prR, k5], show prP x rg pd = pd by simp [prP, k5]]; exact h
            · rw [show prR x rg = stayL [] rg by simp [prR, k0, k1, k2, k3, k4, k5], show prP x rg pd = pd ++ sepL [] rg by simp [prP, k0, k1, k2, k3, k4, k5]]; exact sp _
theorem cnt_perm {A B : List Int} (h : A.Perm B) (n : Int) : cntI A n = cntI B n := (h.filter _).length_eq
theorem take_once {ad tk pl : List Int} (h : ad.Perm (tk ++ pl)) (hb : nextB pl = true) : ad.Perm (tk ++ [nextI pl] ++ pl.tail) ∧ pl.tail.length + 1 = pl.length := by
  cases pl with
  | nil => cases hb
  | cons a r => exact ⟨by simpa [nextI] using h, rfl⟩
theorem next_none {pl : List Int} (hb : nextB pl = false) : pl = [] := by
  cases pl with
  | nil => rfl
  | cons a r => cases hb
end Go.Proofs.Ytipmkaabogocfaa
