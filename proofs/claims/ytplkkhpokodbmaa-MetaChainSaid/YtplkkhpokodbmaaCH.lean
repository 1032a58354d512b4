/-
  Plain facts of chains of tables, each found through the one before. No program in sight.
-/
import Derived.Test.YtplkkhpokodbmaaHG
set_option linter.unusedSimpArgs false
set_option linter.unusedVariables false
namespace Go.Proofs.Ytplkkhpokodbmaa
def tbO : Hob := newO 4 0 ByteArray.empty []
/-- Tables, one behind the other; the last one has the field. -/
def lnk (st : Hst) (k ix nx last e : Vl) (n : Int) : Nat → Vl → Prop
  | 0, v => v = last ∧ v.kind = 4 ∧ validB v = true ∧ v.ref ≤ n ∧ st.get v.ref = some { tbO with tab := tset noTb k e }
  | j + 1, v => v.kind = 4 ∧ validB v = true ∧ v.ref ≤ n ∧ hgetV st v k = zVl ∧ (hmeta st v).kind = 4 ∧ (hmeta st v).ref ≤ n ∧ ∃ u, hgetV st (hmeta st v) ix = u ∧ hgetV st (hmeta st v) nx = u ∧ lnk st k ix nx last e n j u
section
variable {st st' : Hst} {k ix nx last e : Vl} {n n' : Int}
theorem lnk_keep (hn : n ≤ n') (hs : ∀ id, id ≤ n → st'.get id = st.get id) : ∀ (j : Nat) (v : Vl), lnk st k ix nx last e n j v → lnk st' k ix nx last e n' j v
  | 0, v, ⟨h1, h2, h3, h4, h5⟩ => ⟨h1, h2, h3, by omega, by rw [hs _ h4]; exact h5⟩
  | j + 1, v, ⟨h1, h2, h3, h4, h5, h6, u, h7, h8, h9⟩ => by
    have em := hmeta_same (hs _ h3)
    refine ⟨h1, h2, by omega, by rw [hgetV_same (hs _ h3)]; exact h4, by rw [em]; exact h5, by rw [em]; omega, u, ?_, ?_, lnk_keep hn hs j u h9⟩
    · rw [em, hgetV_same (hs _ h6)]; exact h7
    · rw [em, hgetV_same (hs _ h6)]; exact h8
theorem lnk_kind : ∀ (j : Nat) {v : Vl}, lnk st k ix nx last e n j v → v.kind = 4 ∧ validB v = true
  | 0, _, h => ⟨h.2.1, h.2.2.1⟩
  | _ + 1, _, h => ⟨h.1, h.2.1⟩
theorem elem_table {u : Vl} (h4 : u.kind = 4) (hv : validB u = true) : elemE u = 0 := by
  unfold elemE; rw [if_neg (fun h => by have := h.1; omega), if_neg (by rw [hv]; decide)]
theorem refV_valid {i : Int} (h : 1 ≤ i) : validB (refV 4 i) = true := by
  show (if (4 : Int) = 0 then _ else _) = true
  simp [refV]; exact decide_eq_true h
/-- One table more, before the others. -/
theorem lnk_round {j : Nat} {u : Vl} (hc : st.objs.length < 60000) (h : lnk st k ix nx last e st.objs.length j u) (hix : okKey ix = true) (hnx : okKey nx = true) (hne : ix ≠ nx) :
    hmakeE st = 0 ∧ hmakeE (hmake st tbO) = 0 ∧ hsetE (hmake (hmake st tbO) tbO) (hmakeV (hmake st tbO) 4) ix u = 0 ∧ hsetE (hset (hmake (hmake st tbO) tbO) (hmakeV (hmake st tbO) 4) ix u) (hmakeV (hmake st tbO) 4) nx u = 0 ∧
    hsetMetaE (hset (hset (hmake (hmake st tbO) tbO) (hmakeV (hmake st tbO) 4) ix u) (hmakeV (hmake st tbO) 4) nx u) (hmakeV st 4) (hmakeV (hmake st tbO) 4) = 0 ∧
    (hsetMeta (hset (hset (hmake (hmake st tbO) tbO) (hmakeV (hmake st tbO) 4) ix u) (hmakeV (hmake st tbO) 4) nx u) (hmakeV st 4) (hmakeV (hmake st tbO) 4)).objs.length = st.objs.length + 2 ∧
    lnk (hsetMeta (hset (hset (hmake (hmake st tbO) tbO) (hmakeV (hmake st tbO) 4) ix u) (hmakeV (hmake st tbO) 4) nx u) (hmakeV st 4) (hmakeV (hmake st tbO) 4)) k ix nx last e (hsetMeta (hset (hset (hmake (hmake st tbO) tbO) (hmakeV (hmake st tbO) 4) ix u) (hmakeV (hmake st tbO) 4) nx u) (hmakeV st 4) (hmakeV (hmake st tbO) 4)).objs.length (j + 1) (hmakeV st 4) := by
  obtain ⟨hu4, huv⟩ := lnk_kind j h
  have he := elem_table hu4 huv
  obtain ⟨a1, a2, a3, a4⟩ := hmake_ok (o := tbO) (st := st) (by have := count_le st; omega)
  obtain ⟨b1, b2, b3, b4⟩ := hmake_ok (o := tbO) (st := hmake st tbO) (by have := count_le (hmake st tbO); omega)
  have et : hmakeV st 4 = refV 4 ((st.objs.length : Int) + 1) := a2 4
  have em : hmakeV (hmake st tbO) 4 = refV 4 ((st.objs.length : Int) + 2) := by rw [b2 4, a3]; congr 1 <;> omega
  have hm0 : (hmake (hmake st tbO) tbO).get (hmakeV (hmake st tbO) 4).ref = some tbO := by rw [b4, if_pos (by rw [b2 4]; rfl)]
  obtain ⟨c1, c2, c3⟩ := hset_okG (x := u) (k := ix) hm0 rfl (by rw [em]; rfl) hix he
  have hm1 : (hset (hmake (hmake st tbO) tbO) (hmakeV (hmake st tbO) 4) ix u).get (hmakeV (hmake st tbO) 4).ref = some { tbO with tab := tset noTb ix u } := by rw [c3, if_pos rfl]; rfl
  obtain ⟨d1, d2, d3⟩ := hset_okG (x := u) (k := nx) hm1 rfl (by rw [em]; rfl) hnx he
  have rm : (hmakeV (hmake st tbO) 4).ref = (st.objs.length : Int) + 2 := by rw [em]; rfl
  have rt : (hmakeV st 4).ref = (st.objs.length : Int) + 1 := by rw [et]; rfl
  have ht0 : (hset (hset (hmake (hmake st tbO) tbO) (hmakeV (hmake st tbO) 4) ix u) (hmakeV (hmake st tbO) 4) nx u).get (hmakeV st 4).ref = some tbO := by
    rw [d3, if_neg (by omega), c3, if_neg (by omega), b4, a3, if_neg (by omega), a4, if_pos rt]
  have hm2 : (hset (hset (hmake (hmake st tbO) tbO) (hmakeV (hmake st tbO) 4) ix u) (hmakeV (hmake st tbO) 4) nx u).get (hmakeV (hmake st tbO) 4).ref = some { tbO with tab := tset (tset noTb ix u) nx u } := by rw [d3, if_pos rfl]
  obtain ⟨e1, e2, e3⟩ := hsetMeta_okG (m := hmakeV (hmake st tbO) 4) ht0 (by rw [et]; rfl) (.inl rfl) (.inr (by rw [htab_of hm2 (by rw [em]; rfl) rfl]; rfl))
  have hlen : (hsetMeta (hset (hset (hmake (hmake st tbO) tbO) (hmakeV (hmake st tbO) 4) ix u) (hmakeV (hmake st tbO) 4) nx u) (hmakeV st 4) (hmakeV (hmake st tbO) 4)).objs.length = st.objs.length + 2 := by rw [e2, d2, c2, b3, a3]
  refine ⟨a1, b1, c1, d1, e1, hlen, ?_⟩
  have gt := e3 (hmakeV st 4).ref
  rw [if_pos rfl] at gt
  have gm := e3 (hmakeV (hmake st tbO) 4).ref
  rw [if_neg (by omega), hm2] at gm
  have hmt := hmeta_of gt (by rw [et]; rfl)
  have hT1 := tset_inv noTb_inv ix u
  have hW1 := tset_tw noTb_inv noTb_tw ix u
  rw [hlen]
  refine ⟨by rw [et]; rfl, by rw [et]; exact refV_valid (by omega), by rw [rt]; omega, ?_, by rw [hmt, em]; rfl, by rw [hmt]; show (hmakeV (hmake st tbO) 4).ref ≤ _; rw [rm]; omega, u, ?_, ?_, ?_⟩
  · rw [hgetV_of gt (by rw [et]; rfl) rfl]; exact tget_noTb k
  · rw [hmt, hgetV_of gm (by rw [em]; rfl) rfl]
    show tget (tset (tset noTb ix u) nx u) ix = u
    rw [tget_tset hT1 hW1 hnx huv, if_neg hne, tget_tset noTb_inv noTb_tw hix huv, if_pos rfl]
  · rw [hmt, hgetV_of gm (by rw [em]; rfl) rfl]
    show tget (tset (tset noTb ix u) nx u) nx = u
    rw [tget_tset hT1 hW1 hnx huv, if_pos rfl]
  · refine lnk_keep (by omega) (fun id hid => ?_) j u h
    rw [e3, if_neg (by omega), d3, if_neg (by omega), c3, if_neg (by omega), b4, a3, if_neg (by omega), a4, if_neg (by omega)]
theorem tbO_set {v : Vl} (hk : okKey k = true) (hv : validB v = true) (hx : validB e = true) : tget (tset (tset noTb k e) k v) k = v := by
  rw [tget_tset (tset_inv noTb_inv k e) (tset_tw noTb_inv noTb_tw k e) hk hv, if_pos rfl]
/-- The last table of a chain, new. -/
theorem lnk_start (hk : okKey k = true) (he : elemE e = 0) : hmakeE hp0 = 0 ∧ hsetE (hmake hp0 tbO) (hmakeV hp0 4) k e = 0 ∧ (hset (hmake hp0 tbO) (hmakeV hp0 4) k e).objs.length = 1 ∧ lnk (hset (hmake hp0 tbO) (hmakeV hp0 4) k e) k ix nx (hmakeV hp0 4) e (hset (hmake hp0 tbO) (hmakeV hp0 4) k e).objs.length 0 (hmakeV hp0 4) := by
  obtain ⟨a1, a2, a3, a4⟩ := hmake_ok (o := tbO) (st := hp0) (by decide)
  have hg : (hmake hp0 tbO).get (hmakeV hp0 4).ref = some tbO := by rw [a4, if_pos (by rw [a2 4]; rfl)]
  obtain ⟨c1, c2, c3⟩ := hset_okG (x := e) (k := k) hg rfl rfl hk he
  have hl : (hset (hmake hp0 tbO) (hmakeV hp0 4) k e).objs.length = 1 := by rw [c2, a3]; rfl
  refine ⟨a1, c1, hl, rfl, rfl, refV_valid (by decide), by rw [hl]; decide, ?_⟩
  rw [c3, if_pos rfl]; rfl
/-- The last table. -/
theorem lnk_last : ∀ (j : Nat) {v : Vl}, lnk st k ix nx last e n j v → last.kind = 4 ∧ st.get last.ref = some { tbO with tab := tset noTb k e }
  | 0, v, h => by obtain ⟨rfl, h2, _, _, h5⟩ := h; exact ⟨h2, h5⟩
  | j + 1, v, h => by obtain ⟨_, _, _, _, _, _, u, _, _, h9⟩ := h; exact lnk_last j h9
end
end Go.Proofs.Ytplkkhpokodbmaa
