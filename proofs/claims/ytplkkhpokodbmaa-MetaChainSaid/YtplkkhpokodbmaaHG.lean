/-
  Plain facts of heaps: the objects behind each call. No program in sight.
-/
import Derived.Test.YtplkkhpokodbmaaHM
import Derived.Test.YtplkkhpokodbmaaTW
set_option linter.unusedSimpArgs false
set_option linter.unusedVariables false
namespace Go.Proofs.Ytplkkhpokodbmaa
section
variable {st st' : Hst} {v k t m : Vl} {o : Hob}
theorem hfind_same (h : st'.get v.ref = st.get v.ref) : hfind st' v = hfind st v := by unfold hfind; rw [h]
theorem htab_same (h : st'.get v.ref = st.get v.ref) : htab st' v = htab st v := by unfold htab; rw [hfind_same h]
theorem hgetV_same (h : st'.get v.ref = st.get v.ref) : hgetV st' v k = hgetV st v k := by unfold hgetV; rw [htab_same h]
theorem hmeta_same (h : st'.get v.ref = st.get v.ref) : hmeta st' v = hmeta st v := by unfold hmeta; rw [hfind_same h]
theorem htab_of (hg : st.get v.ref = some o) (hk : v.kind = 4) (h4 : o.kind = 4) : htab st v = some o.tab := htab_is (hfind_is hg (by rw [hk, h4])) h4
theorem hgetV_of (hg : st.get v.ref = some o) (hk : v.kind = 4) (h4 : o.kind = 4) : hgetV st v k = tget o.tab k := by unfold hgetV; rw [htab_of hg hk h4]
theorem hmeta_of (hg : st.get v.ref = some o) (hk : o.kind = v.kind) : hmeta st v = o.mt := by unfold hmeta; rw [hfind_is hg hk]
theorem count_le (st : Hst) : st.count ≤ st.objs.length := List.countP_le_length
theorem hmake_ok (hc : st.count < 65536) : hmakeE st = 0 ∧ (∀ kd, hmakeV st kd = refV kd ((st.objs.length : Int) + 1)) ∧ (hmake st o).objs.length = st.objs.length + 1 ∧ ∀ id, (hmake st o).get id = if id = (st.objs.length : Int) + 1 then some o else st.get id := by
  unfold hmakeE hmake
  rw [if_neg (by omega), if_neg (by omega)]
  refine ⟨rfl, fun kd => ?_, by simp, fun id => get_snoc st o _ id⟩
  unfold hmakeV; rw [if_neg (by omega)]
theorem hset_okG {x : Vl} (hg : st.get t.ref = some o) (h4 : o.kind = 4) (ht : t.kind = 4) (hk : okKey k = true) (he : elemE x = 0) : hsetE st t k x = 0 ∧ (hset st t k x).objs.length = st.objs.length ∧ ∀ id, (hset st t k x).get id = if id = t.ref then some { o with tab := tset o.tab k x } else st.get id := by
  have hT := htab_of hg ht h4
  unfold hsetE hset Hst.setTab
  rw [hT, hg]
  simp only [hk, he]
  refine ⟨by simp, by simp [Hst.touch, Hst.put], fun id => ?_⟩
  simp only [ne_eq, not_true_eq_false, if_false, Bool.true_eq_false]
  rw [get_touch, get_put hg]
theorem hsetMeta_okG (hg : st.get v.ref = some o) (hk : o.kind = v.kind) (h48 : o.kind = 4 ∨ o.kind = 8) (hm : m = zVl ∨ (htab st m).isSome = true) : hsetMetaE st v m = 0 ∧ (hsetMeta st v m).objs.length = st.objs.length ∧ ∀ id, (hsetMeta st v m).get id = if id = v.ref then some { o with mt := m } else st.get id := by
  have hb : hmetaOk st v m = true := by
    unfold hmetaOk; rw [hfind_is hg hk]
    rcases h48 with h | h <;> rcases hm with e | e <;> simp [h, e]
  unfold hsetMetaE hsetMeta Hst.setMt
  rw [hb, hg]
  refine ⟨rfl, by simp [Hst.touch, Hst.put], fun id => ?_⟩
  simp only [if_true]
  rw [get_touch, get_put hg]
theorem tget_noTb (k : Vl) : tget noTb k = zVl := by
  unfold tget
  split
  · rfl
  rw [if_neg (by rw [inB_false (n := whole k) (m := noTb.list.length) (by show ¬ (1 ≤ whole k ∧ whole k ≤ ((0 : Nat) : Int)); omega)]; decide)]; rfl
theorem noTb_inv : TInv noTb := TInv.nil
theorem noTb_tw : TW noTb := TW.nil
end
end Go.Proofs.Ytplkkhpokodbmaa
