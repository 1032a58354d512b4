/-
  The example of layer 27, computed. No condition but those that each law says.
-/
import Derived.Test.YtipmkaabogocfaaFL
import Derived.Test.YtipmkaabogocfaaL3
set_option linter.unusedSimpArgs false
set_option linter.unusedVariables false
namespace Go.Proofs.Ytipmkaabogocfaa
open Go.S
def sampC : List Core := [(1, 0, 0, [], []), (2, 0, 0, [3], []), (3, 0, 0, [], [])]
def samp : List Ob := sampC.map mkOb
theorem samp_c : samp.map Ob.c = sampC := mkOb_map _
theorem samp_chk : chk 0 samp = true := by rfl
theorem samp_pot : pot samp [] = 4 := by rfl
theorem samp_a1 : aliveR samp [1] = [1] := by
  rw [aliveR_ok samp_chk, ← allN_eq (n := 20) (by rw [samp_pot]; decide) (by rw [samp_pot]; decide)]; rfl
theorem samp_a2 : aliveR samp [1, 2] = [1, 2, 3] := by
  rw [aliveR_ok samp_chk, ← allN_eq (n := 20) (by rw [samp_pot]; decide) (by rw [samp_pot]; decide)]; rfl
theorem samp_1 : cyc1 samp [1] = samp := by unfold cyc1; rw [samp_a1]; rfl
section
variable {l l' : List Ob} (R reg pend : List Int)
theorem cyc1_of (h : l.map Ob.c = l'.map Ob.c) : cyc1 l R = cyc1 l' R := by unfold cyc1; rw [alive_c R h, map_of_c (fun x y => unv_c _) h]
theorem cycR_of (h : l.map Ob.c = l'.map Ob.c) : cycR l R reg = cycR l' R reg := by unfold cycR; rw [alive_c R h]
theorem cycP_of (h : l.map Ob.c = l'.map Ob.c) : cycP l R reg pend = cycP l' R reg pend := by unfold cycP; rw [alive_c R h]
theorem cycB_c (h : l.map Ob.c = l'.map Ob.c) : cycB l R reg pend = cycB l' R reg pend := by unfold cycB; rw [cyc1_of R h, cycP_of R reg pend h]
theorem cycO_c (h : l.map Ob.c = l'.map Ob.c) : cycO l R reg pend = cycO l' R reg pend := by unfold cycO; rw [cyc1_of R h, cycB_c R reg pend h]
theorem cycF_c (h : l.map Ob.c = l'.map Ob.c) : cycF l R reg pend = cycF l' R reg pend := by unfold cycF; rw [cycB_c R reg pend h, map_of_c (fun x y => c_id) h]
end
theorem samp_P : cycP samp [1] [2] [] = [2] := by unfold cycP; rw [samp_a1]; rfl
theorem samp_B : cycB samp [1] [2] [] = [1, 2, 3] := by unfold cycB; rw [samp_1, samp_P]; exact samp_a2
theorem samp_P2 : cycP samp [1] [] [] = [] := by unfold cycP; rw [samp_a1]; rfl
theorem samp_B2 : cycB samp [1] [] [] = [1] := by unfold cycB; rw [samp_1, samp_P2]; exact samp_a1
section
variable {l : List Ob} (h : l.map Ob.c = sampC)
include h
theorem sm_c : l.map Ob.c = samp.map Ob.c := h.trans samp_c.symm
theorem sm_chk : chk 0 l = true := (chk_c (sm_c h)).trans samp_chk
theorem sm_len : l.length = 3 := by have := congrArg List.length h; simpa [sampC] using this
theorem sm_small : ∀ o ∈ l, o.refs.length ≤ 400 ∧ o.ents.length ≤ 400 := fun o ho => by
  have h1 : o.c ∈ l.map Ob.c := List.mem_map.2 ⟨o, ho, rfl⟩
  rw [h] at h1
  have key : ∀ c ∈ sampC, c.2.2.2.1.length ≤ 400 ∧ c.2.2.2.2.length ≤ 400 := by decide
  exact key _ h1
theorem sm_pot : pot l [] ≤ 1000000 := by have := pot_le l (sm_small h) []; have := sm_len h; omega
theorem sm_R : cycR l [1] [2] = [] := by rw [cycR_of _ _ (sm_c h)]; unfold cycR; rw [samp_a1]; rfl
theorem sm_P : cycP l [1] [2] [] = [2] := by rw [cycP_of _ _ _ (sm_c h)]; exact samp_P
theorem sm_O : cycO l [1] [2] [] = sampC := by rw [cycO_c _ _ _ (sm_c h)]; unfold cycO; rw [samp_B, samp_1]; rfl
theorem sm_F : cycF l [1] [2] [] = [] := by rw [cycF_c _ _ _ (sm_c h)]; unfold cycF; rw [samp_B]; rfl
theorem sm_F2 : cycF l [1] [] [] = [2, 3] := by rw [cycF_c _ _ _ (sm_c h)]; unfold cycF; rw [samp_B2]; rfl
end
end Go.Proofs.Ytipmkaabogocfaa
