/-
  FinalizerCalls walked; the queues of a list. Each law says its conditions.
-/
import Derived.Test.YtipmkaabogocfaaF9
set_option linter.unusedSimpArgs false
set_option linter.unusedVariables false
set_option maxRecDepth 100000
set_option maxHeartbeats 2000000
namespace Go.Proofs.Ytipmkaabogocfaa
open Go.Hp Go.J Go.S
open Go.Mem (Ty KTy blk elemAt pre suf blk_pre blk_suf aget aset strK aggDesc)
theorem h_step3 {P : Program} {w0 : World} {Q : Exit → Act → World → Prop} {n : Nat} {E : Env} {H : Heap} {o o' o'' : Oper} {l : List Oper} {S : Heap → Prop} {fuel : Nat} {listed : Array Bool} (i j m : Nat) (hi : l[i]? = some o) (hj : l[j]? = some o') (hm : l[m]? = some o'') (hr : Region.ready .any l.toArray listed = [i, j, m])
    (h : JL P w0 l.toArray (heldQ P l Q S fuel (listed.setIfInBounds i true)) n [o] E H)
    (h' : JL P w0 l.toArray (heldQ P l Q S fuel (listed.setIfInBounds j true)) n [o'] E H)
    (h'' : JL P w0 l.toArray (heldQ P l Q S fuel (listed.setIfInBounds m true)) n [o''] E H) : JH P w0 l Q n S (fuel + 1) listed E H := by
  intro a w hf ha
  refine wpAnyH_all hr (by simp) ?_
  intro k hk
  simp only [List.mem_cons, List.not_mem_nil, or_false] at hk
  rcases hk with rfl | rfl | rfl
  · have := h a w hf ha
    unfold wpOp
    rw [show l.toArray[k]? = some o by simpa using hi]
    exact this
  · have := h' a w hf ha
    unfold wpOp
    rw [show l.toArray[k]? = some o' by simpa using hj]
    exact this
  · have := h'' a w hf ha
    unfold wpOp
    rw [show l.toArray[k]? = some o'' by simpa using hm]
    exact this
theorem h_stepS3 {P : Program} {w0 : World} {Q : Exit → Act → World → Prop} {n : Nat} {E : Env} {Z : Zone} {As : List Asr} {o o' o'' : Oper} {l : List Oper} {Ks : List Asr} {fuel : Nat} {listed : Array Bool} (i j m : Nat) (h : SL P w0 l.toArray (heldQ P l Q (HS Z Ks) fuel (listed.setIfInBounds i true)) n [o] E Z As) (h' : SL P w0 l.toArray (heldQ P l Q (HS Z Ks) fuel (listed.setIfInBounds j true)) n [o'] E Z As) (h'' : SL P w0 l.toArray (heldQ P l Q (HS Z Ks) fuel (listed.setIfInBounds m true)) n [o''] E Z As) (hi : l[i]? = some o := by rfl) (hj : l[j]? = some o' := by rfl) (hm : l[m]? = some o'' := by rfl) (hr : Region.ready .any l.toArray listed = [i, j, m] := by kernel_rfl) : SH P w0 l Q n Z Ks (fuel + 1) listed E As :=
  fun H hH => h_step3 i j m hi hj hm hr (h H hH) (h' H hH) (h'' H hH)
theorem sep_lens (A rg : List Int) : (sepL A rg).length + (stayL A rg).length = rg.length := by have := (sep_perm A rg).length_eq; rwa [List.length_append] at this
theorem add_len (rg : List Int) (id : Int) : (addL rg id).length ≤ rg.length + 1 := by
  unfold addL; split
  · omega
  · split
    · omega
    · simp
theorem pr_len (x : Cl) (rg pd : List Int) : (prR x rg).length + (prP x rg pd).length ≤ rg.length + pd.length + 1 := by
  have h1 := add_len rg x.id; have h2 := sep_lens x.alive rg; have h3 := sep_lens [] rg
  have h4 : pd.tail.length ≤ pd.length := by rw [List.length_tail]; omega
  unfold prR prP
  by_cases k0 : x.kind = 0
  · simp only [k0, if_true]; omega
  · by_cases k1 : x.kind = 1
    · simp [k1]
    · by_cases k2 : x.kind = 2
      · simp [k2]; omega
      · by_cases k3 : x.kind = 3
        · simp [k3]; omega
        · by_cases k4 : x.kind = 4
          · simp [k4]
          · by_cases k5 : x.kind = 5
            · simp [k5]
            · simp [k0, k1, k2, k3, k4, k5]; omega
end Go.Proofs.Ytipmkaabogocfaa
