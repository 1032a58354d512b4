/-
  Plain facts of a new table: what is set is found. No program in sight.
-/
import Derived.Test.YtplkkhpokodbmaaHM
set_option linter.unusedSimpArgs false
set_option linter.unusedVariables false
namespace Go.Proofs.Ytplkkhpokodbmaa
theorem zero_of' {v : Vl} (h : validB v = true) (hk : v.kind = 0) : v = zVl := by
  unfold validB at h
  rw [if_pos hk] at h
  exact of_decide_eq_true h
theorem inB_zero (n : Int) : inB n 0 = false := by
  unfold inB
  by_cases h : 1 ≤ n
  · rw [decide_eq_false (p := n ≤ ((0 : Nat) : Int)) (by omega), Bool.and_false]
  · rw [decide_eq_false h, Bool.false_and]
theorem tget_new {k v : Vl} (hk : okKey k = true) (hv : validB v = true) : tget (tset noTb k v) k = v := by
  obtain ⟨hkv, hk0⟩ := okKey_iff.1 hk
  unfold tset
  rw [if_neg (by rw [hk]; decide), if_neg (by rw [hv]; decide), if_neg (by rw [show noTb.list.length = 0 from rfl, inB_zero]; decide)]
  split
  · rename_i h
    have h1 : whole k = 1 := h.1
    have e : (tadd noTb v).list = [v] := by
      show grow [] 2 [] v = [v]
      rw [grow, if_neg h.2, grow]
      exact if_pos rfl
    unfold tget
    rw [if_neg (by rw [hkv]; decide), e, if_pos (by rw [h1]; rfl), h1]; rfl
  · unfold tget
    rw [if_neg (by rw [hkv]; decide), if_neg (by rw [show ({ noTb with rest := osetL noTb.rest k v } : Tb).list.length = 0 from rfl, inB_zero]; decide)]
    show oget (osetL [] k v) k = v
    unfold osetL
    rw [if_neg (by rw [hk]; decide), if_neg (by rw [hv]; decide)]
    split
    · rename_i h0
      rw [zero_of' hv h0]; rfl
    · show oget ([] ++ [⟨k, v, false⟩]) k = v
      simp [oget, lastAt]
section
variable {st : Hst}
def nT (st : Hst) : Hst := hmake st (newO 4 0 ByteArray.empty [])
theorem nT_find (hc : st.count < 65536) : hfind (nT st) (hmakeV st 4) = some (newO 4 0 ByteArray.empty []) := by
  unfold nT hmake hmakeV
  rw [if_neg (by omega), if_neg (by omega)]
  refine hfind_is ?_ rfl
  rw [get_snoc]
  exact if_pos rfl
theorem nT_tab (hc : st.count < 65536) : htab (nT st) (hmakeV st 4) = some noTb := htab_is (nT_find hc) rfl
theorem nT_set {k v : Vl} (hc : st.count < 65536) (he : hsetE (nT st) (hmakeV st 4) k v = 0) : okKey k = true ∧ validB v = true ∧ hfind (hset (nT st) (hmakeV st 4) k v) (hmakeV st 4) = some { newO 4 0 ByteArray.empty [] with tab := tset noTb k v } := by
  have ht := nT_tab hc
  unfold hsetE at he
  rw [ht] at he
  simp only at he
  split at he
  · cases he
  rename_i hk
  have hk' : okKey k = true := by simpa using hk
  have hv : validB v = true := by
    unfold elemE at he
    split at he
    · cases he
    split at he
    · cases he
    · rename_i h; simpa using h
  refine ⟨hk', hv, ?_⟩
  unfold hset
  rw [ht]
  simp only
  rw [if_neg (by rw [hk']; decide), if_neg (by rw [he]; decide)]
  obtain ⟨hg, hkd⟩ := hfind_some (nT_find hc)
  refine hfind_is ?_ hkd
  rw [get_touch]
  unfold Hst.setTab
  rw [hg]
  simp only
  rw [get_put hg, if_pos rfl]
theorem nT_get {k v : Vl} (hc : st.count < 65536) (he : hsetE (nT st) (hmakeV st 4) k v = 0) : hgetV (hset (nT st) (hmakeV st 4) k v) (hmakeV st 4) k = v := by
  obtain ⟨hk, hv, hf⟩ := nT_set hc he
  unfold hgetV
  rw [htab_is hf rfl]
  exact tget_new hk hv
theorem nT_getE {k v : Vl} (hc : st.count < 65536) (he : hsetE (nT st) (hmakeV st 4) k v = 0) : hgetE (hset (nT st) (hmakeV st 4) k v) (hmakeV st 4) = 0 := by
  obtain ⟨hk, hv, hf⟩ := nT_set hc he
  unfold hgetE
  rw [htab_is hf rfl]; rfl
theorem nT_meta (hc : st.count < 65536) : hmeta (nT st) (hmakeV st 4) = zVl := by unfold hmeta; rw [nT_find hc]; rfl
theorem nT_meta2 {k v : Vl} (hc : st.count < 65536) (he : hsetE (nT st) (hmakeV st 4) k v = 0) : hmeta (hset (nT st) (hmakeV st 4) k v) (hmakeV st 4) = zVl := by unfold hmeta; rw [(nT_set hc he).2.2]; rfl
theorem nT_none (hc : st.count < 65536) (k : Vl) : hgetV (nT st) (hmakeV st 4) k = zVl := by
  unfold hgetV
  rw [nT_tab hc]
  show tget noTb k = zVl
  unfold tget
  split
  · rfl
  rw [if_neg (by rw [show noTb.list.length = 0 from rfl, inB_zero]; decide)]; rfl
theorem nT_kind (hc : st.count < 65536) : (hmakeV st 4).kind = 4 := by unfold hmakeV; rw [if_neg (by omega)]; rfl
theorem hset_err {st : Hst} {t k v : Vl} (h : hsetE st t k v ≠ 0) : hset st t k v = st := by
  rcases hset_cases st t k v with ⟨_, h1, _⟩ | ⟨T, _, _, h1, _⟩ | ⟨T, _, _, _, h1, _⟩ | ⟨T, o, _, _, _, _, _, _, _, _, _, he⟩
  · exact h1
  · exact h1
  · exact h1
  · exact absurd he h
end
end Go.Proofs.Ytplkkhpokodbmaa
