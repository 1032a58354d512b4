/-
  Heaps of the program. Each law says its conditions.
-/
import Derived.Test.YtplkkhpokodbmaaW3
import Derived.Test.YtplkkhpokodbmaaHM2
set_option linter.unusedSimpArgs false
set_option linter.unusedVariables false
set_option maxRecDepth 100000
set_option maxHeartbeats 2000000
namespace Go.Proofs.Ytplkkhpokodbmaa
open Go.Hp Go.J Go.S
open Go.Mem (Ty KTy blk elemAt pre suf blk_pre blk_suf aget aset strK aggDesc)
open Go.Mem (adel apos aget_aset aget_adel)
abbrev oV (q : Nat × Nat) : Value := ptrV q.1
abbrev bV (b : Bool) : Value := .bool b
abbrev iK : KTy Int := Go.Mem.intK 3
/-- The table of an object, if it is one. -/
def tabO (q : Nat × Nat) (o : Hob) : Asr := star (if o.kind = 4 then [tbA q.2 o.tab.list o.tab.rest] else [])
/-- An object in memory. -/
def obP (q : Nat × Nat) (o : Hob) : Asr := exA fun v => stA True [blkA q.1 #[.int .i64 o.kind, .int .i64 o.tag, .string o.name, tabV q o, .int .i64 o.mt.kind, .int .i64 o.mt.p, .int .i64 o.mt.q, .string o.mt.str, .int .i64 o.mt.ref, v] 109, own VlT v o.vals, tabO q o]
def allP (ps : List (Int × (Nat × Nat))) (st : Hst) : Asr := star (ps.map fun p => obP p.2 (st.ob p.1))
def holeP (ps : List (Int × (Nat × Nat))) (st : Hst) (id : Int) : Asr := star ((adel ps id).map fun p => obP p.2 (st.ob p.1))
/-- A heap in memory, with the places of its objects. -/
def hpP (b : Nat) (st : Hst) (ps : List (Int × (Nat × Nat))) : Asr := exA fun mb => exA fun tb => exA fun tm => stA (HInv st ∧ HA ps st ∧ TA tm st) [blkA b #[.map (some mb), .int .i64 (st.objs.length : Int), .map (some tb)] 103, mpA iK oV mb ps, mpA iK bV tb tm, allP ps st]
def hpA (b : Nat) (st : Hst) : Asr := exA fun ps => hpP b st ps
section
variable {Z : Zone} {F : List Asr} {H : Heap} {b : Nat} {st : Hst} {ps : List (Int × (Nat × Nat))} {id : Int} {q : Nat × Nat} {o o' : Hob}
theorem ob_open (h : Holds Z (obP q o :: F) H) : ∃ v, True ∧ Holds Z (blkA q.1 #[.int .i64 o.kind, .int .i64 o.tag, .string o.name, tabV q o, .int .i64 o.mt.kind, .int .i64 o.mt.p, .int .i64 o.mt.q, .string o.mt.str, .int .i64 o.mt.ref, v] 109 :: own VlT v o.vals :: tabO q o :: F) H := by
  obtain ⟨v, h⟩ := h.open_ex
  exact ⟨v, h.open_st⟩
theorem ob_shut {v : Value} (h : Holds Z (blkA q.1 #[.int .i64 o.kind, .int .i64 o.tag, .string o.name, tabV q o, .int .i64 o.mt.kind, .int .i64 o.mt.p, .int .i64 o.mt.q, .string o.mt.str, .int .i64 o.mt.ref, v] 109 :: own VlT v o.vals :: tabO q o :: F) H) : Holds Z (obP q o :: F) H := Holds.shut_ex v (Holds.shut_st trivial h)
theorem tabO_open (h4 : o.kind = 4) (h : Holds Z (tabO q o :: F) H) : Holds Z (tbA q.2 o.tab.list o.tab.rest :: F) H := by
  unfold tabO at h
  rw [if_pos h4] at h
  exact h.star_out
theorem tabO_shut {T : Tb} (h4 : o.kind = 4) (h : Holds Z (tbA q.2 T.list T.rest :: F) H) : Holds Z (tabO q { o with tab := T } :: F) H := by
  unfold tabO
  rw [if_pos h4]
  exact Holds.star_in (L := [_]) h
theorem all_focus (hq : aget ps id = some q) (ho : st.get id = some o) (h : Holds Z (allP ps st :: F) H) : ∃ v, True ∧ Holds Z (blkA q.1 #[.int .i64 o.kind, .int .i64 o.tag, .string o.name, tabV q o, .int .i64 o.mt.kind, .int .i64 o.mt.p, .int .i64 o.mt.q, .string o.mt.str, .int .i64 o.mt.ref, v] 109 :: own VlT v o.vals :: tabO q o :: holeP ps st id :: F) H := by
  obtain ⟨i, hp⟩ : ∃ i, apos ps id = some i := by
    cases hp : apos ps id with
    | none => rw [Go.Mem.apos_none hp] at hq; cases hq
    | some i => exact ⟨i, rfl⟩
  obtain ⟨hi, y, hy, hq'⟩ := Go.Mem.apos_lt hp
  rw [hq] at hq'; cases hq'
  have h1 : Holds Z (obP q (st.ob id) :: star ((ps.eraseIdx i).map fun p => obP p.2 (st.ob p.1)) :: F) H := h.star_get hy
  unfold holeP
  rw [Go.Mem.adel_pos hp]
  rw [ob_get ho] at h1
  exact ob_open h1
theorem put_same (ho : st.get id = some o) : st.put id o = st := by
  obtain ⟨_, h1, h2, h3⟩ := get_mem ho
  unfold Hst.put
  rw [set_same h3]
theorem all_unfocus (hnd : (ps.map Prod.fst).Nodup) (hq : aget ps id = some q) (ho : st.get id = some o) (h : Holds Z (obP q o' :: holeP ps st id :: F) H) : Holds Z (allP ps (st.put id o') :: F) H := by
  obtain ⟨i, hp⟩ : ∃ i, apos ps id = some i := by
    cases hp : apos ps id with
    | none => rw [Go.Mem.apos_none hp] at hq; cases hq
    | some i => exact ⟨i, rfl⟩
  obtain ⟨hi, y, hy, hq'⟩ := Go.Mem.apos_lt hp
  rw [hq] at hq'; cases hq'
  unfold holeP at h
  rw [Go.Mem.adel_pos hp] at h
  refine Holds.star_set (f := fun p : Int × (Nat × Nat) => obP p.2 (st.ob p.1)) (g := fun p => obP p.2 ((st.put id o').ob p.1)) hy (fun j p hj hp' => ?_) ?_
  · show obP p.2 _ = obP p.2 _
    have hne : p.1 ≠ id := fun e => hj (by
      obtain ⟨hj1, e1⟩ := List.getElem?_eq_some_iff.1 hp'
      refine (List.getElem_inj (h₀ := by rw [List.length_map]; exact hj1) (h₁ := by rw [List.length_map]; exact hi) hnd).1 ?_
      simp only [List.getElem_map]
      rw [e1, (List.getElem?_eq_some_iff.1 hy).2]; exact e)
    unfold Hst.ob
    rw [get_put ho, if_neg hne]
  · have e : (st.put id o').ob id = o' := by unfold Hst.ob; rw [get_put ho, if_pos rfl]; rfl
    show Holds Z (obP q ((st.put id o').ob id) :: _ :: F) H
    rw [e]; exact h
theorem hp_open (h : Holds Z (hpP b st ps :: F) H) : ∃ (mb tb : Nat) (tm : List (Int × Bool)), (HInv st ∧ HA ps st ∧ TA tm st) ∧ Holds Z (blkA b #[.map (some mb), .int .i64 (st.objs.length : Int), .map (some tb)] 103 :: mpA iK oV mb ps :: mpA iK bV tb tm :: allP ps st :: F) H := by
  obtain ⟨mb, h⟩ := h.open_ex
  obtain ⟨tb, h⟩ := h.open_ex
  obtain ⟨tm, h⟩ := h.open_ex
  exact ⟨mb, tb, tm, h.open_st⟩
theorem hp_shut {mb tb : Nat} {tm : List (Int × Bool)} {n : Int} (hp : (HInv st ∧ HA ps st ∧ TA tm st) ∧ n = (st.objs.length : Int)) (h : Holds Z (blkA b #[.map (some mb), .int .i64 n, .map (some tb)] 103 :: mpA iK oV mb ps :: mpA iK bV tb tm :: allP ps st :: F) H) : Holds Z (hpP b st ps :: F) H := by
  obtain ⟨h1, rfl⟩ := hp
  exact Holds.shut_ex mb (Holds.shut_ex tb (Holds.shut_ex tm (Holds.shut_st h1 h)))
theorem hp_facts (h : Holds Z (hpP b st ps :: F) H) : HInv st ∧ HA ps st := by
  obtain ⟨_, _, _, h, _⟩ := hp_open h; exact ⟨h.1, h.2.1⟩
theorem hpA_open (h : Holds Z (hpA b st :: F) H) : ∃ ps, True ∧ Holds Z (hpP b st ps :: F) H := by
  obtain ⟨ps, h⟩ := h.open_ex; exact ⟨ps, trivial, h⟩
theorem hpA_shut (h : Holds Z (hpP b st ps :: F) H) : Holds Z (hpA b st :: F) H := Holds.shut_ex ps h
theorem put_len : (st.put id o').objs.length = st.objs.length := by unfold Hst.put; simp
/-- A heap of which a table is taken out. -/
def tholeP (b : Nat) (st : Hst) (ps : List (Int × (Nat × Nat))) (id : Int) (q : Nat × Nat) (o : Hob) : Asr := exA fun mb => exA fun tb => exA fun tm => exA fun v => stA (HInv st ∧ HA ps st ∧ TA tm st) [blkA b #[.map (some mb), .int .i64 (st.objs.length : Int), .map (some tb)] 103, mpA iK oV mb ps, mpA iK bV tb tm, blkA q.1 #[.int .i64 o.kind, .int .i64 o.tag, .string o.name, tabV q o, .int .i64 o.mt.kind, .int .i64 o.mt.p, .int .i64 o.mt.q, .string o.mt.str, .int .i64 o.mt.ref, v] 109, own VlT v o.vals, holeP ps st id]
theorem tab_out (hq : aget ps id = some q) (ho : st.get id = some o) (h4 : o.kind = 4) (h : Holds Z (hpP b st ps :: F) H) : Holds Z (tbA q.2 o.tab.list o.tab.rest :: tholeP b st ps id q o :: F) H := by
  obtain ⟨mb, tb, tm, hf, h⟩ := hp_open h
  obtain ⟨v, _, h⟩ := all_focus hq ho (h.re [3] [] : Holds Z (allP ps st :: _ :: _ :: _ :: F) H)
  have h1 := tabO_open h4 (h.re [2] [] : Holds Z (tabO q o :: _ :: _ :: _ :: _ :: _ :: _ :: F) H)
  refine Holds.swap (Holds.shut_ex mb (Holds.shut_ex tb (Holds.shut_ex tm (Holds.shut_ex v (Holds.shut_st hf ?_)))))
  exact h1.re [4, 4, 4, 1, 1, 1] []
theorem tab_in {T : Tb} (hq : aget ps id = some q) (ho : st.get id = some o) (h4 : o.kind = 4) (hT : TInv T) (h : Holds Z (tbA q.2 T.list T.rest :: tholeP b st ps id q o :: F) H) : Holds Z (hpP b (st.put id { o with tab := T }) ps :: F) H := by
  obtain ⟨mb, h⟩ := h.swap.open_ex
  obtain ⟨tb, h⟩ := h.open_ex
  obtain ⟨tm, h⟩ := h.open_ex
  obtain ⟨v, h⟩ := h.open_ex
  obtain ⟨hf, h⟩ := h.open_st
  have hnd := (h.mp (i := 1) rfl).nodup
  have h1 := tabO_shut (o := o) h4 (h.re [6] [] : Holds Z (tbA q.2 T.list T.rest :: _ :: _ :: _ :: _ :: _ :: _ :: F) H)
  have e : tabV q { o with tab := T } = tabV q o := rfl
  have h2 : Holds Z (obP q { o with tab := T } :: holeP ps st id :: _ :: _ :: _ :: F) H := ob_shut (o := { o with tab := T }) (by rw [e]; exact h1.re [4, 4, 0, 3] [])
  have h3 := all_unfocus hnd hq ho h2
  have hi : ObInv o := hf.1.obs o (get_mem ho).1
  exact hp_shut ⟨⟨put_inv hf.1 ⟨hi.kind, hT, hi.mt⟩, hf.2.1.put ho, hf.2.2.put ho⟩, by rw [put_len]⟩ (h3.re [1, 1, 1, 0] [])
theorem tab_back (hq : aget ps id = some q) (ho : st.get id = some o) (h4 : o.kind = 4) (h : Holds Z (tbA q.2 o.tab.list o.tab.rest :: tholeP b st ps id q o :: F) H) : Holds Z (hpP b st ps :: F) H := by
  have hi : HInv st := by
    obtain ⟨_, h⟩ := h.swap.open_ex
    obtain ⟨_, h⟩ := h.open_ex
    obtain ⟨_, h⟩ := h.open_ex
    obtain ⟨_, h⟩ := h.open_ex
    exact h.open_st.1.1
  have := tab_in hq ho h4 (hi.obs o (get_mem ho).1).tab h
  rwa [show st.put id { o with tab := o.tab } = st from put_same ho] at this
end
theorem hfind_s {Z : Zone} {F : List Asr} {b : Nat} {st : Hst} {ps : List (Int × (Nat × Nat))} (v : Vl) : SF Try.prog 80 #[.pointer (some ⟨b, 0, none⟩), v.v] Z (hpP b st ps :: F) fun r Bs => r = fndV ps st v ∧ Bs = hpP b st ps :: F := by
 refine sf_enter Try.func80 27 [(0, pB b 0), (1, .agg #[.int .i64 v.kind, .int .i64 v.p, .int .i64 v.q, .string v.str, .int .i64 v.ref])] (fun w0 => ?_)
 refine k_mem3 (fun H h => hp_open (h.re [0] [])) (fun mb1 tb2 tm3 hw => ?_)
 obtain ⟨hi4, ha5, ht6⟩ := hw
 refine k_sr ?_
 refine s_box #[.int .i64 v.kind, .int .i64 v.p, .int .i64 v.q, .string v.str, .int .i64 v.ref] (fun g7 => ?_)
 refine sp (.pointer none) ?_
 refine s_nt ?_
 refine k_seq ?_
 refine k_sr ?_
 refine sp (pB b 0) ?_
 refine sp (.bool false) ?_
 refine s_nt ?_
 refine k_false ?_
 refine k_st ?_
 refine k_seq ?_
 refine k_draw ?_
 refine sp (pB b 0) ?_
 refine sp (pB b 0) ?_
 refine sp (pB b 0) ?_
 refine s_lt (t_load 1 (.map (some mb1))) ?_
 refine sp (pB g7 4) ?_
 refine s_lt (t_load 0 (.int .i64 v.ref)) ?_
 rcases get_cases ha5 v.ref with ⟨hg8, hq9⟩ | ⟨o10, q11, ho12, hq13⟩
 ·
  refine s_lt (Lt.to (v' := .pointer none) (t_lookup 2 intOk Try.underlying100 (.pointer none) v.ref) (by rw [hq9]; rfl)) ?_
  refine sp (.pointer none) ?_
  refine s_nil ?_
  refine x_dynS (fun _ h => by kernel_rfl) ?_
  refine xs_then ?_
  refine k_seq ?_
  refine k_seq ?_
  refine k_draw ?_
  refine sp (.pointer none) ?_
  refine sp (.bool true) ?_
  refine sp (.bool true) ?_
  refine s_skip ?_
  refine s_skip ?_
  refine s_skip ?_
  refine s_skip ?_
  refine s_skip ?_
  refine s_skip ?_
  refine s_skip ?_
  refine sp (.bool true) ?_
  refine s_nil ?_
  refine x_dynS (fun _ h => by kernel_rfl) ?_
  refine xs_then ?_
  refine k_true ?_
  refine k_sr ?_
  refine sp (.pointer none) ?_
  refine s_nt ?_
  refine k_ret ?_
  refine xs_ret ?_
  refine xs_mem (fun _ h => hp_shut (st := st) (n := (st.objs.length : Int)) ⟨⟨hi4, ha5, ht6⟩, rfl⟩ (h.re [1, 1, 1, 1] [])) ?_
  refine xs_fin [.pointer none] (hpP b st ps :: F) (SI.tmp 4 SI.nil) (fun _ h => h.re [0] [1]) ⟨?_, rfl⟩
  show Value.pointer none = fndV ps st v; unfold fndV; rw [hfind_none hg8]
 ·
  refine s_lt (Lt.to (v' := ptrV q11.1) (t_lookup 2 intOk Try.underlying100 (.pointer none) v.ref) (by rw [hq13]; rfl)) ?_
  refine sp (pB q11.1 0) ?_
  refine s_nil ?_
  refine x_dynS (fun _ h => by kernel_rfl) ?_
  refine xs_then ?_
  refine k_seq ?_
  refine k_seq ?_
  refine k_draw ?_
  refine sp (pB q11.1 0) ?_
  refine sp (.bool false) ?_
  refine sp (.bool false) ?_
  refine sp (pB q11.1 0) ?_
  refine sp (pB q11.1 0) ?_
  refine sp (pB q11.1 0) ?_
  refine s_memX (fun H h => all_focus hq13 ho12 (h.re [4] [])) (fun v14 _ => ?_)
  refine s_lt (t_load 0 (.int .i64 o10.kind)) ?_
  refine sp (pB g7 0) ?_
  refine s_lt (t_load 4 (.int .i64 v.kind)) ?_
  refine s_lt t_cmp ?_
  refine sp (.bool (decide (o10.kind ≠ v.kind))) ?_
  refine s_nil ?_
  refine x_dynS (fun _ h => by kernel_rfl) ?_
  refine xs_then ?_
  refine k_cond (decide (o10.kind ≠ v.kind)) (fun c15 => ?_) (fun c15 => ?_)
  ·
   have p16 := of_decide_eq_true c15
   refine k_sr ?_
   refine sp (.pointer none) ?_
   refine s_nt ?_
   refine k_ret ?_
   refine xs_ret ?_
   refine xs_fact (fun H h => (h.mp (i := 6) rfl).nodup) (fun hnd17 => ?_)
   refine xs_mem (fun _ h => (put_same ho12) ▸ all_unfocus (o' := o10) hnd17 hq13 ho12 (ob_shut (o := o10) (h.re [0, 0, 0, 0] []))) ?_
   refine xs_mem (Bs := allP ps st :: blkA g7 #[.int .i64 v.kind, .int .i64 v.p, .int .i64 v.q, .string v.str, .int .i64 v.ref] 26 :: blkA b #[.map (some mb1), .int .i64 (st.objs.length : Int), .map (some tb2)] 103 :: mpA iK oV mb1 ps :: mpA iK bV tb2 tm3 :: F) (fun _ h => h) ?_
   refine xs_mem (fun _ h => hp_shut (st := st) (n := (st.objs.length : Int)) ⟨⟨hi4, ha5, ht6⟩, rfl⟩ (h.re [2, 2, 2, 0] [])) ?_
   refine xs_fin [.pointer none] (hpP b st ps :: F) (SI.tmp 4 SI.nil) (fun _ h => h.re [0] [1]) ⟨?_, rfl⟩
   show Value.pointer none = fndV ps st v; unfold fndV; rw [hfind_kind ho12 (by omega)]
  ·
   have p18 := Decidable.not_not.1 (of_decide_eq_false c15)
   refine k_st ?_
   refine k_sr ?_
   refine sp (pB q11.1 0) ?_
   refine sp (pB q11.1 0) ?_
   refine s_nt ?_
   refine k_ret ?_
   refine xs_fact (fun H h => (h.mp (i := 6) rfl).nodup) (fun hnd19 => ?_)
   refine xs_mem (fun _ h => (put_same ho12) ▸ all_unfocus (o' := o10) hnd19 hq13 ho12 (ob_shut (o := o10) (h.re [0, 0, 0, 0] []))) ?_
   refine xs_mem (Bs := allP ps st :: blkA g7 #[.int .i64 v.kind, .int .i64 v.p, .int .i64 v.q, .string v.str, .int .i64 v.ref] 26 :: blkA b #[.map (some mb1), .int .i64 (st.objs.length : Int), .map (some tb2)] 103 :: mpA iK oV mb1 ps :: mpA iK bV tb2 tm3 :: F) (fun _ h => h) ?_
   refine xs_mem (fun _ h => hp_shut (st := st) (n := (st.objs.length : Int)) ⟨⟨hi4, ha5, ht6⟩, rfl⟩ (h.re [2, 2, 2, 0] [])) ?_
   refine xs_fin [pB q11.1 0] (hpP b st ps :: F) (SI.tmp 4 SI.nil) (fun _ h => h.re [0] [1]) ⟨?_, rfl⟩
   show ptrV _ = fndV ps st v; unfold fndV; rw [hfind_is ho12 (by omega), hq13]
theorem htab_s {Z : Zone} {F : List Asr} {b : Nat} {st : Hst} {ps : List (Int × (Nat × Nat))} (v : Vl) : SF Try.prog 68 #[.pointer (some ⟨b, 0, none⟩), v.v] Z (hpP b st ps :: F) fun r Bs => r = tbV ps st v ∧ Bs = hpP b st ps :: F := by
 refine sf_enter Try.func68 15 [(0, pB b 0), (1, .agg #[.int .i64 v.kind, .int .i64 v.p, .int .i64 v.q, .string v.str, .int .i64 v.ref])] (fun w0 => ?_)
 refine k_fact (fun H h => hp_facts (h.re [0] [])) (fun hf1 => ?_)
 obtain ⟨hi2, ha3⟩ := hf1
 refine k_sr ?_
 refine s_box #[.int .i64 v.kind, .int .i64 v.p, .int .i64 v.q, .string v.str, .int .i64 v.ref] (fun g4 => ?_)
 refine sp (.pointer none) ?_
 refine s_nr ?_
 refine sp (pB b 0) ?_
 refine s_lt (t_loadA 0 #[.int .i64 v.kind, .int .i64 v.p, .int .i64 v.q, .string v.str, .int .i64 v.ref]) ?_
 refine s_call [1] (hfind_s (st := st) (ps := ps) v) ?_
 rintro u5 _ ⟨e6, rfl⟩
 rcases fnd_cases ha3 v with ⟨hf7, ht8, hv9, hv10⟩ | ⟨o11, q12, hf13, ho14, hk15, hq16, hv17, hv18⟩
 ·
  rw [hv9] at e6; subst e6
  refine sp (.pointer none) ?_
  refine s_nt ?_
  refine k_seq ?_
  refine k_sr ?_
  refine sp (.pointer none) ?_
  refine sp (.bool true) ?_
  refine s_nt ?_
  refine k_true ?_
  refine k_sr ?_
  refine sp (.pointer none) ?_
  refine s_nt ?_
  refine k_ret ?_
  refine xs_ret ?_
  refine xs_fin [.pointer none] (hpP b st ps :: F) (SI.tmp 4 SI.nil) (fun _ h => h.re [0] [1]) ⟨?_, rfl⟩
  exact (hv10).symm
 ·
  rw [hv17] at e6; subst e6
  refine sp (pB q12.1 0) ?_
  refine s_nt ?_
  refine k_seq ?_
  refine k_sr ?_
  refine sp (pB q12.1 0) ?_
  refine sp (.bool false) ?_
  refine s_nt ?_
  refine k_false ?_
  refine k_st ?_
  refine k_sr ?_
  refine sp (pB q12.1 0) ?_
  refine sp (pB q12.1 0) ?_
  refine sp (pB q12.1 3) ?_
  refine s_mem3 (fun H h => hp_open (h.re [0] [])) (fun mb19 tb20 tm21 hw => ?_)
  obtain ⟨hi22, ha23, ht24⟩ := hw
  refine s_memX (fun H h => all_focus hq16 ho14 (h.re [3] [])) (fun v25 _ => ?_)
  refine s_lt (t_load 0 (tabV q12 o11)) ?_
  refine sp (tabV q12 o11) ?_
  refine s_nt ?_
  refine k_ret ?_
  refine xs_fact (fun H h => (h.mp (i := 5) rfl).nodup) (fun hnd26 => ?_)
  refine xs_mem (fun _ h => (put_same ho14) ▸ all_unfocus (o' := o11) hnd26 hq16 ho14 (ob_shut (o := o11) (h.re [0, 0, 0, 0] []))) ?_
  refine xs_mem (Bs := allP ps st :: blkA b #[.map (some mb19), .int .i64 (st.objs.length : Int), .map (some tb20)] 103 :: mpA iK oV mb19 ps :: mpA iK bV tb20 tm21 :: blkA g4 #[.int .i64 v.kind, .int .i64 v.p, .int .i64 v.q, .string v.str, .int .i64 v.ref] 26 :: F) (fun _ h => h) ?_
  refine xs_mem (fun _ h => hp_shut (st := st) (n := (st.objs.length : Int)) ⟨⟨hi22, ha23, ht24⟩, rfl⟩ (h.re [1, 1, 1, 0] [])) ?_
  refine xs_fin [(tabV q12 o11)] (hpP b st ps :: F) (SI.tmp 4 SI.nil) (fun _ h => h.re [0] [1]) ⟨?_, rfl⟩
  unfold tbV; rw [hf13, hq16]; rfl
theorem hmiss_s {Z : Zone} {F : List Asr} {b : Nat} : SF Try.prog 69 #[.pointer (some ⟨b, 0, none⟩)] Z F fun r Bs => r = .int .i64 8 ∧ Bs = F := by
 refine sf_enter Try.func69 5 [(0, pB b 0)] (fun w0 => ?_)
 refine k_sr ?_
 refine sp (.int .i64 0) ?_
 refine s_nt ?_
 refine k_seq ?_
 refine k_sr ?_
 refine sp (pB b 0) ?_
 refine sp (.bool false) ?_
 refine s_nt ?_
 refine k_false ?_
 refine k_st ?_
 refine k_sr ?_
 refine sp (.int .i64 8) ?_
 refine s_nt ?_
 refine k_ret ?_
 exact xs_fin [.int .i64 8] F (SI.tmp 2 SI.nil) (fun _ h => h) ⟨rfl, rfl⟩
theorem htouch_s {Z : Zone} {F : List Asr} {b : Nat} {st : Hst} {ps : List (Int × (Nat × Nat))} (v : Vl) {o : Hob} (hg : st.get v.ref = some o) (e : Int) : SF Try.prog 78 #[.pointer (some ⟨b, 0, none⟩), v.v, .int .i64 e] Z (hpP b st ps :: F) fun r Bs => r = .int .i64 e ∧ Bs = (if e = 0 then hpP b (st.touch v.ref) ps else hpP b st ps) :: F := by
 refine sf_enter Try.func78 16 [(0, pB b 0), (1, .agg #[.int .i64 v.kind, .int .i64 v.p, .int .i64 v.q, .string v.str, .int .i64 v.ref]), (2, .int .i64 e)] (fun w0 => ?_)
 refine k_sr ?_
 refine s_box #[.int .i64 v.kind, .int .i64 v.p, .int .i64 v.q, .string v.str, .int .i64 v.ref] (fun g1 => ?_)
 refine sp (.int .i64 0) ?_
 refine s_nt ?_
 refine k_seq ?_
 refine k_sr ?_
 refine sp (.int .i64 e) ?_
 refine s_lt t_cmp ?_
 refine s_nt ?_
 refine k_cond (decide (e = 0)) (fun c2 => ?_) (fun c2 => ?_)
 ·
  have p3 := of_decide_eq_true c2
  refine k_draw ?_
  refine sp (pB b 0) ?_
  refine sp (pB b 0) ?_
  refine sp (pB b 2) ?_
  refine s_mem3 (fun H h => hp_open (h.re [1] [])) (fun mb4 tb5 tm6 hw => ?_)
  obtain ⟨hi7, ha8, ht9⟩ := hw
  refine s_lt (t_load 0 (.map (some tb5))) ?_
  refine sp (pB g1 4) ?_
  refine s_lt (t_load 4 (.int .i64 v.ref)) ?_
  refine s_update 2 intOk Try.underlying101 v.ref true ?_
  refine s_nil ?_
  refine x_dynS (fun _ h => by kernel_rfl) ?_
  refine xs_then ?_
  refine k_sr ?_
  refine sp (.int .i64 e) ?_
  refine sp (.int .i64 e) ?_
  refine s_nt ?_
  refine k_ret ?_
  refine xs_mem (Bs := blkA b #[.map (some mb4), .int .i64 (st.objs.length : Int), .map (some tb5)] 103 :: mpA iK oV mb4 ps :: mpA iK bV tb5 (aset tm6 v.ref true) :: allP ps (st.touch v.ref) :: blkA g1 #[.int .i64 v.kind, .int .i64 v.p, .int .i64 v.q, .string v.str, .int .i64 v.ref] 26 :: F) (fun _ h => h) ?_
  refine xs_mem (fun _ h => hp_shut (st := (st.touch v.ref)) (n := (st.objs.length : Int)) ⟨⟨touch_inv hi7 v.ref, HA.touch ha8 v.ref, TA.touch ht9 hi7 hg⟩, rfl⟩ (h.re [0, 0, 0, 0] [])) ?_
  rw [if_pos (of_decide_eq_true c2)]
  exact xs_fin [.int .i64 e] (hpP b (st.touch v.ref) ps :: F) (SI.tmp 6 SI.nil) (fun _ h => h.re [0] [1]) ⟨rfl, rfl⟩
 ·
  have p10 := of_decide_eq_false c2
  refine k_st ?_
  refine k_sr ?_
  refine sp (.int .i64 e) ?_
  refine sp (.int .i64 e) ?_
  refine s_nt ?_
  refine k_ret ?_
  rw [if_neg (of_decide_eq_false c2)]
  exact xs_fin [.int .i64 e] (hpP b st ps :: F) (SI.tmp 6 SI.nil) (fun _ h => h.re [1] [1]) ⟨rfl, rfl⟩
theorem helem_s {Z : Zone} (v : Vl) : SF Try.prog 77 #[v.v] Z [] fun r Bs => r = .int .i64 (elemE v) ∧ Bs = [] := by
 refine sf_enter Try.func77 17 [(0, .agg #[.int .i64 v.kind, .int .i64 v.p, .int .i64 v.q, .string v.str, .int .i64 v.ref])] (fun w0 => ?_)
 refine k_sr ?_
 refine s_box #[.int .i64 v.kind, .int .i64 v.p, .int .i64 v.q, .string v.str, .int .i64 v.ref] (fun g1 => ?_)
 refine sp (.int .i64 0) ?_
 refine s_nt ?_
 refine k_seq ?_
 refine k_block ?_
 refine k_sr ?_
 refine sp (pB g1 0) ?_
 refine s_lt (t_load 0 (.int .i64 v.kind)) ?_
 refine s_lt t_cmp ?_
 refine sp (.bool (decide (v.kind = 3))) ?_
 refine s_fork 7 (decide (v.kind = 3)) (fun c2 => ?_) (fun c2 => ?_)
 ·
  have p3 := of_decide_eq_true c2
  refine sp (pB g1 3) ?_
  refine s_lt (t_load 0 (.string v.str)) ?_
  refine s_lt (t_kern (.int .i64 (v.str.size : Int))) ?_
  refine s_lt t_cmp ?_
  refine sp (.bool (decide ((4096 : Int) < (v.str.size : Int)))) ?_
  refine sp (.bool (decide ((4096 : Int) < (v.str.size : Int)))) ?_
  refine s_nt ?_
  refine k_cond (decide ((4096 : Int) < (v.str.size : Int))) (fun c4 => ?_) (fun c4 => ?_)
  ·
   have p5 := of_decide_eq_true c4
   refine k_sr ?_
   refine sp (.int .i64 14) ?_
   refine s_nt ?_
   refine k_ret ?_
   refine xs_retBlock ?_
   refine xs_ret ?_
   refine xs_fin [.int .i64 14] [] (SI.tmp 2 SI.nil) (fun _ h => h.re [] [0]) ⟨congrArg (Value.int .i64) ?_, rfl⟩
   unfold elemE; simp [c2, c4, p3, p5]
  ·
   have p6 := of_decide_eq_false c4
   refine k_sr ?_
   refine s_lt (t_loadA 0 #[.int .i64 v.kind, .int .i64 v.p, .int .i64 v.q, .string v.str, .int .i64 v.ref]) ?_
   refine s_vcall (fun _ h => valid_s v) ?_
   rintro _ rfl
   refine sp (.bool (!(validB v))) ?_
   refine sp (.bool (!(validB v))) ?_
   refine s_nt ?_
   refine k_cond (!(validB v)) (fun c7 => ?_) (fun c7 => ?_)
   ·
    have c8 := not_t c7
    refine k_sr ?_
    refine sp (.int .i64 2) ?_
    refine s_nt ?_
    refine k_ret ?_
    refine xs_retBlock ?_
    refine xs_ret ?_
    refine xs_fin [.int .i64 2] [] (SI.tmp 2 SI.nil) (fun _ h => h.re [] [0]) ⟨congrArg (Value.int .i64) ?_, rfl⟩
    unfold elemE; simp [c2, c4, c7, p3, p6, c8]
   ·
    have c9 := not_f c7
    refine k_skip ?_
    refine xs_block ?_
    refine xs_then ?_
    refine k_sr ?_
    refine sp (.int .i64 0) ?_
    refine s_nt ?_
    refine k_ret ?_
    refine xs_fin [.int .i64 0] [] (SI.tmp 2 SI.nil) (fun _ h => h.re [] [0]) ⟨congrArg (Value.int .i64) ?_, rfl⟩
    unfold elemE; simp [c2, c4, c7, p3, p6, c9]
 ·
  have p10 := of_decide_eq_false c2
  refine s_skip ?_
  refine s_skip ?_
  refine s_skip ?_
  refine s_skip ?_
  refine sp (.bool false) ?_
  refine sp (.bool false) ?_
  refine s_nt ?_
  refine k_false ?_
  refine k_sr ?_
  refine s_lt (t_loadA 0 #[.int .i64 v.kind, .int .i64 v.p, .int .i64 v.q, .string v.str, .int .i64 v.ref]) ?_
  refine s_vcall (fun _ h => valid_s v) ?_
  rintro _ rfl
  refine sp (.bool (!(validB v))) ?_
  refine sp (.bool (!(validB v))) ?_
  refine s_nt ?_
  refine k_cond (!(validB v)) (fun c11 => ?_) (fun c11 => ?_)
  ·
   have c12 := not_t c11
   refine k_sr ?_
   refine sp (.int .i64 2) ?_
   refine s_nt ?_
   refine k_ret ?_
   refine xs_retBlock ?_
   refine xs_ret ?_
   refine xs_fin [.int .i64 2] [] (SI.tmp 2 SI.nil) (fun _ h => h.re [] [0]) ⟨congrArg (Value.int .i64) ?_, rfl⟩
   unfold elemE; simp [c2, c11, p10, c12]
  ·
   have c13 := not_f c11
   refine k_skip ?_
   refine xs_block ?_
   refine xs_then ?_
   refine k_sr ?_
   refine sp (.int .i64 0) ?_
   refine s_nt ?_
   refine k_ret ?_
   refine xs_fin [.int .i64 0] [] (SI.tmp 2 SI.nil) (fun _ h => h.re [] [0]) ⟨congrArg (Value.int .i64) ?_, rfl⟩
   unfold elemE; simp [c2, c11, p10, c13]
theorem hgetV_none {st : Hst} {t k : Vl} (h : htab st t = none) : hgetV st t k = zVl := by unfold hgetV; rw [h]
theorem hgetE_none {st : Hst} {t : Vl} (h : htab st t = none) : hgetE st t = 8 := by unfold hgetE; rw [h]; rfl
theorem hgetV_some {st : Hst} {t k : Vl} {T : Tb} (h : htab st t = some T) : hgetV st t k = tget T k := by unfold hgetV; rw [h]
theorem hgetE_some {st : Hst} {t : Vl} {T : Tb} (h : htab st t = some T) : hgetE st t = 0 := by unfold hgetE; rw [h]; rfl
abbrev pairV (v : Vl) (e : Int) : Value := .tuple #[v.v, .int .i64 e]
theorem hget_s {Z : Zone} {F : List Asr} {b : Nat} {st : Hst} {n : Nat} (hsm : HSm n st) (hn : n ≤ 300) (t k : Vl) : SF Try.prog 24 #[.pointer (some ⟨b, 0, none⟩), t.v, k.v] Z (hpA b st :: F) fun r Bs => r = pairV (hgetV st t k) (hgetE st t) ∧ Bs = hpA b st :: F := by
 refine sf_enter Try.func24 20 [(0, pB b 0), (1, .agg #[.int .i64 t.kind, .int .i64 t.p, .int .i64 t.q, .string t.str, .int .i64 t.ref]), (2, .agg #[.int .i64 k.kind, .int .i64 k.p, .int .i64 k.q, .string k.str, .int .i64 k.ref])] (fun w0 => ?_)
 refine k_sr ?_
 refine s_box #[.int .i64 t.kind, .int .i64 t.p, .int .i64 t.q, .string t.str, .int .i64 t.ref] (fun g1 => ?_)
 refine s_box #[.int .i64 k.kind, .int .i64 k.p, .int .i64 k.q, .string k.str, .int .i64 k.ref] (fun g2 => ?_)
 refine s_alloc (.agg #[.int .i64 0, .int .i64 0, .int .i64 0, .string ByteArray.empty, .int .i64 0]) #[.int .i64 0, .int .i64 0, .int .i64 0, .string ByteArray.empty, .int .i64 0] (fun g3 => ?_)
 refine sp (.int .i64 0) ?_
 refine s_nr ?_
 refine sp (pB b 0) ?_
 refine s_lt (t_loadA 2 #[.int .i64 t.kind, .int .i64 t.p, .int .i64 t.q, .string t.str, .int .i64 t.ref]) ?_
 refine s_memX (fun H h => hpA_open (h.re [3] [])) (fun ps4 _ => ?_)
 refine s_fact (fun H h => hp_facts (h.re [0] [])) (fun hf5 => ?_)
 obtain ⟨hi6, ha7⟩ := hf5
 refine s_call [0] (htab_s (st := st) (ps := ps4) t) ?_
 rintro u8 _ ⟨e9, rfl⟩
 rcases tb_cases ha7 t with ⟨ht10, hv11⟩ | ⟨o12, q13, ht14, ho15, hk16, hk17, hq18, hv19⟩
 ·
  rw [hv11] at e9; subst e9
  refine sp (.pointer none) ?_
  refine s_nt ?_
  refine k_seq ?_
  refine k_sr ?_
  refine sp (.pointer none) ?_
  refine sp (.bool true) ?_
  refine s_nt ?_
  refine k_true ?_
  refine k_sr ?_
  refine s_lt (t_kern (.agg #[.int .i64 0, .int .i64 0, .int .i64 0, .string ByteArray.empty, .int .i64 0])) ?_
  refine sp (pB b 0) ?_
  refine s_vcall (fun _ h => hmiss_s (F := [])) ?_
  rintro _ rfl
  refine s_store 1 #[.int .i64 0, .int .i64 0, .int .i64 0, .string ByteArray.empty, .int .i64 0] ?_
  refine sp (.int .i64 8) ?_
  refine s_nt ?_
  refine k_ret ?_
  refine xs_ret ?_
  refine xs_mem (fun _ h => hpA_shut (h.re [0] [])) ?_
  refine xs_fin [.agg #[.int .i64 0, .int .i64 0, .int .i64 0, .string ByteArray.empty, .int .i64 0], .int .i64 8] (hpA b st :: F) (SI.agg 6 26 1 (SI.tmp 7 SI.nil)) (fun _ h => h.re [0] [1, 1, 1]) ⟨?_, rfl⟩
  rw [hgetV_none ht10, hgetE_none ht10]; rfl
 ·
  rw [hv19] at e9; subst e9
  refine sp (pB q13.2 0) ?_
  refine s_nt ?_
  refine k_seq ?_
  refine k_sr ?_
  refine sp (pB q13.2 0) ?_
  refine sp (.bool false) ?_
  refine s_nt ?_
  refine k_false ?_
  refine k_st ?_
  refine k_sr ?_
  refine sp (pB q13.2 0) ?_
  refine s_lt (t_loadA 2 #[.int .i64 k.kind, .int .i64 k.p, .int .i64 k.q, .string k.str, .int .i64 k.ref]) ?_
  refine s_mem (fun _ h => tab_out hq18 ho15 hk16 (h.re [0] [])) ?_
  obtain ⟨hl20, hl202, _⟩ := hsm.obs o12 (get_mem ho15).1
  have hl203 : n * (n + 1) ≤ 300 * 301 := Nat.mul_le_mul (by omega) (by omega)
  refine s_call [0] (tbget_s (L := o12.tab.list) (S := o12.tab.rest) (by (try simp only [lnm]); omega) k) ?_
  rintro _ _ ⟨rfl, rfl⟩
  refine s_store 2 #[.int .i64 ((tget ⟨o12.tab.list, o12.tab.rest⟩ k).kind), .int .i64 ((tget ⟨o12.tab.list, o12.tab.rest⟩ k).p), .int .i64 ((tget ⟨o12.tab.list, o12.tab.rest⟩ k).q), .string ((tget ⟨o12.tab.list, o12.tab.rest⟩ k).str), .int .i64 ((tget ⟨o12.tab.list, o12.tab.rest⟩ k).ref)] ?_
  refine sp (.int .i64 0) ?_
  refine s_nt ?_
  refine k_ret ?_
  refine xs_mem (fun _ h => tab_back hq18 ho15 hk16 (h.re [0, 0] [])) ?_
  refine xs_mem (fun _ h => hpA_shut (h.re [0] [])) ?_
  refine xs_fin [.agg #[.int .i64 ((tget ⟨o12.tab.list, o12.tab.rest⟩ k).kind), .int .i64 ((tget ⟨o12.tab.list, o12.tab.rest⟩ k).p), .int .i64 ((tget ⟨o12.tab.list, o12.tab.rest⟩ k).q), .string ((tget ⟨o12.tab.list, o12.tab.rest⟩ k).str), .int .i64 ((tget ⟨o12.tab.list, o12.tab.rest⟩ k).ref)], .int .i64 0] (hpA b st :: F) (SI.agg 6 26 1 (SI.tmp 7 SI.nil)) (fun _ h => h.re [0] [1, 1, 1]) ⟨?_, rfl⟩
  rw [hgetV_some ht14, hgetE_some ht14]; rfl
theorem elem_valid {v : Vl} (h : elemE v = 0) : validB v = true := by
  unfold elemE at h
  split at h
  · cases h
  · split at h
    · cases h
    · rename_i hv; simpa using hv
theorem hset_none {st : Hst} {t k v : Vl} (h : htab st t = none) : hset st t k v = st ∧ hsetE st t k v = 8 := by unfold hset hsetE; rw [h]; exact ⟨rfl, rfl⟩
theorem hset_key {st : Hst} {t k v : Vl} {T : Tb} (h : htab st t = some T) (hk : okKey k = false) : hset st t k v = st ∧ hsetE st t k v = 13 := by unfold hset hsetE; rw [h]; simp [hk]
theorem hset_elem {st : Hst} {t k v : Vl} {T : Tb} (h : htab st t = some T) (hk : okKey k = true) (he : elemE v ≠ 0) : hset st t k v = st ∧ hsetE st t k v = elemE v := by unfold hset hsetE; rw [h]; simp [hk, he]
theorem hset_ok {st : Hst} {t k v : Vl} {o : Hob} (h : htab st t = some o.tab) (ho : st.get t.ref = some o) (hk : okKey k = true) (he : elemE v = 0) : hset st t k v = (st.put t.ref { o with tab := tset o.tab k v }).touch t.ref ∧ hsetE st t k v = 0 := by unfold hset hsetE Hst.setTab; rw [h, ho]; simp [hk, he]
theorem hset_s {Z : Zone} {F : List Asr} {b : Nat} {st : Hst} {n : Nat} (hsm : HSm n st) (hn : n ≤ 300) (t k x : Vl) : SF Try.prog 29 #[.pointer (some ⟨b, 0, none⟩), t.v, k.v, x.v] Z (hpA b st :: F) fun r Bs => r = .int .i64 (hsetE st t k x) ∧ Bs = hpA b (hset st t k x) :: F := by
 refine sf_enter Try.func29 40 [(0, pB b 0), (1, .agg #[.int .i64 t.kind, .int .i64 t.p, .int .i64 t.q, .string t.str, .int .i64 t.ref]), (2, .agg #[.int .i64 k.kind, .int .i64 k.p, .int .i64 k.q, .string k.str, .int .i64 k.ref]), (3, .agg #[.int .i64 x.kind, .int .i64 x.p, .int .i64 x.q, .string x.str, .int .i64 x.ref])] (fun w0 => ?_)
 refine k_sr ?_
 refine s_box #[.int .i64 t.kind, .int .i64 t.p, .int .i64 t.q, .string t.str, .int .i64 t.ref] (fun g1 => ?_)
 refine s_box #[.int .i64 k.kind, .int .i64 k.p, .int .i64 k.q, .string k.str, .int .i64 k.ref] (fun g2 => ?_)
 refine s_box #[.int .i64 x.kind, .int .i64 x.p, .int .i64 x.q, .string x.str, .int .i64 x.ref] (fun g3 => ?_)
 refine sp (.int .i64 0) ?_
 refine s_nr ?_
 refine sp (pB b 0) ?_
 refine s_lt (t_loadA 2 #[.int .i64 t.kind, .int .i64 t.p, .int .i64 t.q, .string t.str, .int .i64 t.ref]) ?_
 refine s_memX (fun H h => hpA_open (h.re [3] [])) (fun ps4 _ => ?_)
 refine s_fact (fun H h => hp_facts (h.re [0] [])) (fun hf5 => ?_)
 obtain ⟨hi6, ha7⟩ := hf5
 refine s_call [0] (htab_s (st := st) (ps := ps4) t) ?_
 rintro u8 _ ⟨e9, rfl⟩
 rcases tb_cases ha7 t with ⟨ht10, hv11⟩ | ⟨o12, q13, ht14, ho15, hk16, hk17, hq18, hv19⟩
 ·
  rw [hv11] at e9; subst e9
  refine sp (.pointer none) ?_
  refine s_nt ?_
  refine k_seq ?_
  refine k_block ?_
  refine k_sr ?_
  refine sp (.pointer none) ?_
  refine sp (.bool true) ?_
  refine sp (.bool true) ?_
  refine s_nt ?_
  refine k_true ?_
  refine k_sr ?_
  refine sp (pB b 0) ?_
  refine s_vcall (fun _ h => hmiss_s (F := [])) ?_
  rintro _ rfl
  refine sp (.int .i64 8) ?_
  refine s_nt ?_
  refine k_ret ?_
  refine xs_retBlock ?_
  refine xs_ret ?_
  refine xs_mem (fun _ h => hpA_shut (h.re [0] [])) ?_
  have hp := hset_none (k := k) (v := x) ht10
  refine xs_fin [.int .i64 8] (hpA b st :: F) (SI.tmp 8 SI.nil) (fun _ h => h.re [0] [1, 1, 1]) ⟨?_, ?_⟩
  · rw [hp.2]; exact congrArg (Value.int .i64) (by first | rfl | exact tsetE_ok hk hv0)
  · rw [hp.1]
 ·
  rw [hv19] at e9; subst e9
  refine sp (pB q13.2 0) ?_
  refine s_nt ?_
  refine k_seq ?_
  refine k_block ?_
  refine k_sr ?_
  refine sp (pB q13.2 0) ?_
  refine sp (.bool false) ?_
  refine sp (.bool false) ?_
  refine s_nt ?_
  refine k_false ?_
  refine k_cut (ι := Unit) (fun _ => True) (fun _ => [(0, pB b 0), (5, pB g1 0), (6, pB g2 0), (7, pB g3 0), (9, pB q13.2 0), (19, .bool ((decide (k.kind = 0)) || (!(validB k))))]) (fun _ => hpP b st ps4 :: blkA g3 #[.int .i64 x.kind, .int .i64 x.p, .int .i64 x.q, .string x.str, .int .i64 x.ref] 26 :: blkA g2 #[.int .i64 k.kind, .int .i64 k.p, .int .i64 k.q, .string k.str, .int .i64 k.ref] 26 :: blkA g1 #[.int .i64 t.kind, .int .i64 t.p, .int .i64 t.q, .string t.str, .int .i64 t.ref] 26 :: F) ?_ (fun _ _ => ?_)
  ·
   refine k_reg ?_
   refine sp (pB g2 0) ?_
   refine s_lt (t_load 2 (.int .i64 k.kind)) ?_
   refine s_lt t_cmp ?_
   refine sp (.bool (decide (k.kind = 0))) ?_
   refine s_fork 23 (decide (k.kind = 0)) (fun c20 => ?_) (fun c20 => ?_)
   ·
    have p21 := of_decide_eq_true c20
    refine s_skip ?_
    refine s_skip ?_
    refine s_skip ?_
    refine sp (.bool true) ?_
    refine sp (.bool true) ?_
    refine s_nil ?_
    exact xs_cut () trivial (sub_of rfl ⟨⟨rfl, rfl⟩, ⟨⟨rfl, rfl⟩, ⟨⟨rfl, rfl⟩, ⟨⟨rfl, rfl⟩, ⟨⟨rfl, rfl⟩, ⟨⟨rfl, show Value.bool true = Value.bool ((decide (k.kind = 0)) || (!(validB k))) by first | (simp only [c20, bls]; done) | simp [c20]⟩, trivial⟩⟩⟩⟩⟩⟩) (fun _ h => h.re [0, 0, 0, 0] [])
   ·
    have p22 := of_decide_eq_false c20
    refine s_lt (t_loadA 2 #[.int .i64 k.kind, .int .i64 k.p, .int .i64 k.q, .string k.str, .int .i64 k.ref]) ?_
    refine s_vcall (fun _ h => valid_s k) ?_
    rintro _ rfl
    refine sp (.bool (!(validB k))) ?_
    refine sp (.bool (!(validB k))) ?_
    refine sp (.bool (!(validB k))) ?_
    refine s_nil ?_
    exact xs_cut () trivial (sub_of rfl ⟨⟨rfl, rfl⟩, ⟨⟨rfl, rfl⟩, ⟨⟨rfl, rfl⟩, ⟨⟨rfl, rfl⟩, ⟨⟨rfl, rfl⟩, ⟨⟨rfl, show Value.bool (!(validB k)) = Value.bool ((decide (k.kind = 0)) || (!(validB k))) by first | (simp only [c20, bls]; done) | simp [c20]⟩, trivial⟩⟩⟩⟩⟩⟩) (fun _ h => h.re [0, 0, 0, 0] [])
  ·
   refine k_cond ((decide (k.kind = 0)) || (!(validB k))) (fun c23 => ?_) (fun c23 => ?_)
   ·
    have p24 := c23
    simp only [Bool.and_eq_true, Bool.or_eq_true, Bool.and_eq_false_iff, Bool.or_eq_false_iff, Bool.not_eq_true', Bool.not_eq_false', decide_eq_true_eq, decide_eq_false_iff_not] at p24
    refine k_sr ?_
    refine sp (.int .i64 13) ?_
    refine s_nt ?_
    refine k_ret ?_
    refine xs_retBlock ?_
    refine xs_ret ?_
    refine xs_mem (fun _ h => hpA_shut (h.re [0] [])) ?_
    have hk : okKey k = false := okKey_bad (by first | exact p24 | exact .inl p24 | exact .inr p24)
    have hp := hset_key (v := x) ht14 hk
    refine xs_fin [.int .i64 13] (hpA b st :: F) (SI.tmp 8 SI.nil) (fun _ h => h.re [0] [1, 1, 1]) ⟨?_, ?_⟩
    · rw [hp.2]; exact congrArg (Value.int .i64) (by first | rfl | exact tsetE_ok hk hv0)
    · rw [hp.1]
   ·
    obtain ⟨c25, c26⟩ := or_f c23
    have p27 := of_decide_eq_false c25
    have c28 := not_f c26
    refine k_skip ?_
    refine xs_block ?_
    refine xs_then ?_
    refine k_seq ?_
    refine k_sr ?_
    refine s_lt (t_loadA 1 #[.int .i64 x.kind, .int .i64 x.p, .int .i64 x.q, .string x.str, .int .i64 x.ref]) ?_
    refine s_vcall (fun _ h => helem_s x) ?_
    rintro _ rfl
    refine sp (.int .i64 (elemE x)) ?_
    refine s_nr ?_
    refine sp (.int .i64 (elemE x)) ?_
    refine s_lt t_cmp ?_
    refine s_nt ?_
    refine k_cond (decide ((elemE x) ≠ 0)) (fun c29 => ?_) (fun c29 => ?_)
    ·
     have p30 := of_decide_eq_true c29
     refine k_sr ?_
     refine sp (.int .i64 (elemE x)) ?_
     refine sp (.int .i64 (elemE x)) ?_
     refine s_nt ?_
     refine k_ret ?_
     refine xs_ret ?_
     refine xs_mem (fun _ h => hpA_shut (h.re [0] [])) ?_
     have hk := okKey_good c25 c28
     have hp := hset_elem (v := x) ht14 hk (of_decide_eq_true c29)
     refine xs_fin [.int .i64 (elemE x)] (hpA b st :: F) (SI.tmp 8 SI.nil) (fun _ h => h.re [0] [1, 1, 1]) ⟨?_, ?_⟩
     · rw [hp.2]; exact congrArg (Value.int .i64) (by first | rfl | exact tsetE_ok hk hv0)
     · rw [hp.1]
    ·
     have p31 := Decidable.not_not.1 (of_decide_eq_false c29)
     refine k_st ?_
     refine k_seq ?_
     refine k_held [blkA g3 #[.int .i64 x.kind, .int .i64 x.p, .int .i64 x.q, .string x.str, .int .i64 x.ref] 26, blkA g2 #[.int .i64 k.kind, .int .i64 k.p, .int .i64 k.q, .string k.str, .int .i64 k.ref] 26, blkA g1 #[.int .i64 t.kind, .int .i64 t.p, .int .i64 t.q, .string t.str, .int .i64 t.ref] 26] ?_
     refine hp_ 0 [1, 1, 1] (pB b 0) ?_
     refine h_l 1 rfl [1, 1, 1] (fun _ => (t_loadA 2 #[.int .i64 t.kind, .int .i64 t.p, .int .i64 t.q, .string t.str, .int .i64 t.ref])) ?_
     refine hp_ 2 [1, 1, 1] (pB q13.2 0) ?_
     refine h_l 3 rfl [1, 1, 1] (fun _ => (t_loadA 1 #[.int .i64 k.kind, .int .i64 k.p, .int .i64 k.q, .string k.str, .int .i64 k.ref])) ?_
     refine h_l 4 rfl [1, 1, 1] (fun _ => (t_loadA 0 #[.int .i64 x.kind, .int .i64 x.p, .int .i64 x.q, .string x.str, .int .i64 x.ref])) ?_
     refine h_stepS 5 ?_
     refine s_mem (fun _ h => tab_out hq18 ho15 hk16 (h.re [0] [])) ?_
     obtain ⟨hl32, hl322, _⟩ := hsm.obs o12 (get_mem ho15).1
     have hl323 : n * (n + 1) ≤ 300 * 301 := Nat.mul_le_mul (by omega) (by omega)
     refine s_call [0] (tbset_s (L := o12.tab.list) (S := o12.tab.rest) (hi6.obs o12 (get_mem ho15).1).tab (by (try simp only [lnm]); omega) (by (try simp only [lnm]); omega) k x) ?_
     rintro _ _ ⟨rfl, rfl⟩
     refine s_nil (xs_held [2, 2, 2] ?_)
     refine h_stepS 6 ?_
     refine s_mem (fun _ h => tab_in (T := (tset ⟨o12.tab.list, o12.tab.rest⟩ k x)) hq18 ho15 hk16 (tset_inv (hi6.obs o12 (get_mem ho15).1).tab _ _) (h.re [0, 0] [])) ?_
     have hk := okKey_good c25 c28
     have he0 : elemE x = 0 := Decidable.not_not.1 (of_decide_eq_false c29)
     have hv0 := elem_valid he0
     refine s_call [0] (htouch_s (st := (st.put t.ref { o12 with tab := (tset ⟨o12.tab.list, o12.tab.rest⟩ k x) })) (ps := ps4) t (show Hst.get _ _ = some { o12 with tab := (tset ⟨o12.tab.list, o12.tab.rest⟩ k x) } from by rw [get_put ho15, if_pos rfl]) (tsetE k x)) ?_
     rw [if_pos (tsetE_ok hk hv0)]
     rintro _ _ ⟨rfl, rfl⟩
     refine s_nil (xs_held [1, 1, 1] ?_)
     refine hp_ 7 [1, 1, 1] (.int .i64 (tsetE k x)) ?_
     refine h_doneS ?_
     refine xs_then ?_
     refine k_ret ?_
     refine xs_mem (fun _ h => hpA_shut (h.re [0] [])) ?_
     have hp := hset_ok ht14 ho15 hk he0
     refine xs_fin [.int .i64 (tsetE k x)] (hpA b ((st.put t.ref { o12 with tab := (tset ⟨o12.tab.list, o12.tab.rest⟩ k x) }).touch t.ref) :: F) (SI.tmp 8 SI.nil) (fun _ h => h.re [0] [1, 1, 1]) ⟨?_, ?_⟩
     · rw [hp.2]; exact congrArg (Value.int .i64) (by first | rfl | exact tsetE_ok hk hv0)
     · rw [hp.1]
theorem hmeta_s {Z : Zone} {F : List Asr} {b : Nat} {st : Hst} (v : Vl) : SF Try.prog 46 #[.pointer (some ⟨b, 0, none⟩), v.v] Z (hpA b st :: F) fun r Bs => r = (hmeta st v).v ∧ Bs = hpA b st :: F := by
 refine sf_enter Try.func46 16 [(0, pB b 0), (1, .agg #[.int .i64 v.kind, .int .i64 v.p, .int .i64 v.q, .string v.str, .int .i64 v.ref])] (fun w0 => ?_)
 refine k_sr ?_
 refine s_box #[.int .i64 v.kind, .int .i64 v.p, .int .i64 v.q, .string v.str, .int .i64 v.ref] (fun g1 => ?_)
 refine s_alloc (.agg #[.int .i64 0, .int .i64 0, .int .i64 0, .string ByteArray.empty, .int .i64 0]) #[.int .i64 0, .int .i64 0, .int .i64 0, .string ByteArray.empty, .int .i64 0] (fun g2 => ?_)
 refine s_nr ?_
 refine sp (pB b 0) ?_
 refine s_lt (t_loadA 1 #[.int .i64 v.kind, .int .i64 v.p, .int .i64 v.q, .string v.str, .int .i64 v.ref]) ?_
 refine s_memX (fun H h => hpA_open (h.re [2] [])) (fun ps3 _ => ?_)
 refine s_fact (fun H h => hp_facts (h.re [0] [])) (fun hf4 => ?_)
 obtain ⟨hi5, ha6⟩ := hf4
 refine s_call [0] (hfind_s (st := st) (ps := ps3) v) ?_
 rintro u7 _ ⟨e8, rfl⟩
 rcases fnd_cases ha6 v with ⟨hf9, ht10, hv11, hv12⟩ | ⟨o13, q14, hf15, ho16, hk17, hq18, hv19, hv20⟩
 ·
  rw [hv11] at e8; subst e8
  refine sp (.pointer none) ?_
  refine s_nt ?_
  refine k_seq ?_
  refine k_sr ?_
  refine sp (.pointer none) ?_
  refine sp (.bool true) ?_
  refine s_nt ?_
  refine k_true ?_
  refine k_sr ?_
  refine s_lt (t_kern (.agg #[.int .i64 0, .int .i64 0, .int .i64 0, .string ByteArray.empty, .int .i64 0])) ?_
  refine s_store 1 #[.int .i64 0, .int .i64 0, .int .i64 0, .string ByteArray.empty, .int .i64 0] ?_
  refine s_nt ?_
  refine k_ret ?_
  refine xs_ret ?_
  refine xs_mem (fun _ h => hpA_shut (h.re [0] [])) ?_
  refine xs_fin [.agg #[.int .i64 0, .int .i64 0, .int .i64 0, .string ByteArray.empty, .int .i64 0]] (hpA b st :: F) (SI.agg 4 26 1 SI.nil) (fun _ h => h.re [0] [1, 1]) ⟨?_, rfl⟩
  unfold hmeta; rw [hf9]; rfl
 ·
  rw [hv19] at e8; subst e8
  refine sp (pB q14.1 0) ?_
  refine s_nt ?_
  refine k_seq ?_
  refine k_sr ?_
  refine sp (pB q14.1 0) ?_
  refine sp (.bool false) ?_
  refine s_nt ?_
  refine k_false ?_
  refine k_st ?_
  refine k_sr ?_
  refine sp (pB q14.1 0) ?_
  refine sp (pB q14.1 0) ?_
  refine sp (pB q14.1 4) ?_
  refine s_mem3 (fun H h => hp_open (h.re [0] [])) (fun mb21 tb22 tm23 hw => ?_)
  obtain ⟨hi24, ha25, ht26⟩ := hw
  refine s_memX (fun H h => all_focus hq18 ho16 (h.re [3] [])) (fun v27 _ => ?_)
  refine s_lt (t_loadA 0 #[.int .i64 o13.mt.kind, .int .i64 o13.mt.p, .int .i64 o13.mt.q, .string o13.mt.str, .int .i64 o13.mt.ref]) ?_
  refine s_store 7 #[.int .i64 o13.mt.kind, .int .i64 o13.mt.p, .int .i64 o13.mt.q, .string o13.mt.str, .int .i64 o13.mt.ref] ?_
  refine s_nt ?_
  refine k_ret ?_
  refine xs_fact (fun H h => (h.mp (i := 5) rfl).nodup) (fun hnd28 => ?_)
  refine xs_mem (fun _ h => (put_same ho16) ▸ all_unfocus (o' := o13) hnd28 hq18 ho16 (ob_shut (o := o13) (h.re [0, 0, 0, 0] []))) ?_
  refine xs_mem (Bs := allP ps3 st :: blkA b #[.map (some mb21), .int .i64 (st.objs.length : Int), .map (some tb22)] 103 :: mpA iK oV mb21 ps3 :: mpA iK bV tb22 tm23 :: blkA g2 #[.int .i64 o13.mt.kind, .int .i64 o13.mt.p, .int .i64 o13.mt.q, .string o13.mt.str, .int .i64 o13.mt.ref] 26 :: blkA g1 #[.int .i64 v.kind, .int .i64 v.p, .int .i64 v.q, .string v.str, .int .i64 v.ref] 26 :: F) (fun _ h => h) ?_
  refine xs_mem (fun _ h => hp_shut (st := st) (n := (st.objs.length : Int)) ⟨⟨hi24, ha25, ht26⟩, rfl⟩ (h.re [1, 1, 1, 0] [])) ?_
  refine xs_mem (fun _ h => hpA_shut (h.re [0] [])) ?_
  refine xs_fin [.agg #[.int .i64 o13.mt.kind, .int .i64 o13.mt.p, .int .i64 o13.mt.q, .string o13.mt.str, .int .i64 o13.mt.ref]] (hpA b st :: F) (SI.agg 4 26 1 SI.nil) (fun _ h => h.re [0] [1, 1]) ⟨?_, rfl⟩
  unfold hmeta; rw [hf15]; rfl
theorem hsetmeta_s {Z : Zone} {F : List Asr} {b : Nat} {st : Hst} (v m : Vl) : SF Try.prog 31 #[.pointer (some ⟨b, 0, none⟩), v.v, m.v] Z (hpA b st :: F) fun r Bs => r = .int .i64 (hsetMetaE st v m) ∧ Bs = hpA b (hsetMeta st v m) :: F := by
 refine sf_enter Try.func31 47 [(0, pB b 0), (1, .agg #[.int .i64 v.kind, .int .i64 v.p, .int .i64 v.q, .string v.str, .int .i64 v.ref]), (2, .agg #[.int .i64 m.kind, .int .i64 m.p, .int .i64 m.q, .string m.str, .int .i64 m.ref])] (fun w0 => ?_)
 refine k_sr ?_
 refine s_box #[.int .i64 v.kind, .int .i64 v.p, .int .i64 v.q, .string v.str, .int .i64 v.ref] (fun g1 => ?_)
 refine s_box #[.int .i64 m.kind, .int .i64 m.p, .int .i64 m.q, .string m.str, .int .i64 m.ref] (fun g2 => ?_)
 refine sp (.int .i64 0) ?_
 refine s_nr ?_
 refine sp (pB b 0) ?_
 refine s_lt (t_loadA 1 #[.int .i64 v.kind, .int .i64 v.p, .int .i64 v.q, .string v.str, .int .i64 v.ref]) ?_
 refine s_memX (fun H h => hpA_open (h.re [2] [])) (fun ps3 _ => ?_)
 refine s_fact (fun H h => hp_facts (h.re [0] [])) (fun hf4 => ?_)
 obtain ⟨hi5, ha6⟩ := hf4
 refine s_call [0] (hfind_s (st := st) (ps := ps3) v) ?_
 rintro u7 _ ⟨e8, rfl⟩
 rcases fnd_cases ha6 v with ⟨hf9, ht10, hv11, hv12⟩ | ⟨o13, q14, hf15, ho16, hk17, hq18, hv19, hv20⟩
 ·
  rw [hv11] at e8; subst e8
  refine sp (.pointer none) ?_
  refine s_nt ?_
  refine k_seq ?_
  refine k_sr ?_
  refine sp (.pointer none) ?_
  refine sp (.bool true) ?_
  refine sp (.bool true) ?_
  refine s_skip ?_
  refine s_skip ?_
  refine s_skip ?_
  refine s_skip ?_
  refine s_skip ?_
  refine s_skip ?_
  refine s_skip ?_
  refine s_skip ?_
  refine s_skip ?_
  refine s_skip ?_
  refine s_skip ?_
  refine s_skip ?_
  refine sp (.bool true) ?_
  refine sp (.bool true) ?_
  refine s_skip ?_
  refine s_skip ?_
  refine s_skip ?_
  refine s_skip ?_
  refine s_skip ?_
  refine s_skip ?_
  refine s_skip ?_
  refine s_skip ?_
  refine s_skip ?_
  refine sp (.bool true) ?_
  refine s_nt ?_
  refine k_true ?_
  refine k_sr ?_
  refine sp (pB b 0) ?_
  refine s_vcall (fun _ h => hmiss_s (F := [])) ?_
  rintro _ rfl
  refine sp (.int .i64 8) ?_
  refine s_nt ?_
  refine k_ret ?_
  refine xs_ret ?_
  refine xs_mem (fun _ h => hpA_shut (h.re [0] [])) ?_
  have hb : hmetaOk st v m = false := by unfold hmetaOk; rw [hf9]
  refine xs_fin [.int .i64 8] (hpA b st :: F) (SI.tmp 6 SI.nil) (fun _ h => h.re [0] [1, 1]) ⟨?_, ?_⟩
  · unfold hsetMetaE; rw [hb]; rfl
  · unfold hsetMeta; rw [hb]; rfl
 ·
  rw [hv19] at e8; subst e8
  refine sp (pB q14.1 0) ?_
  refine s_nt ?_
  refine k_seq ?_
  refine k_sr ?_
  refine sp (pB q14.1 0) ?_
  refine sp (.bool false) ?_
  refine sp (.bool false) ?_
  refine sp (pB q14.1 0) ?_
  refine sp (pB q14.1 0) ?_
  refine sp (pB q14.1 0) ?_
  refine s_mem3 (fun H h => hp_open (h.re [0] [])) (fun mb21 tb22 tm23 hw => ?_)
  obtain ⟨hi24, ha25, ht26⟩ := hw
  refine s_memX (fun H h => all_focus hq18 ho16 (h.re [3] [])) (fun v27 _ => ?_)
  refine s_lt (t_load 0 (.int .i64 o13.kind)) ?_
  refine s_lt t_cmp ?_
  refine sp (.bool (decide (o13.kind ≠ 4))) ?_
  refine s_fork 19 (decide (o13.kind ≠ 4)) (fun c28 => ?_) (fun c28 => ?_)
  ·
   have p29 := of_decide_eq_true c28
   refine sp (pB q14.1 0) ?_
   refine sp (pB q14.1 0) ?_
   refine sp (pB q14.1 0) ?_
   refine s_lt (t_load 0 (.int .i64 o13.kind)) ?_
   refine s_lt t_cmp ?_
   refine sp (.bool (decide (o13.kind ≠ 8))) ?_
   refine sp (.bool (decide (o13.kind ≠ 8))) ?_
   refine sp (.bool (decide (o13.kind ≠ 8))) ?_
   refine s_fork 27 (decide (o13.kind ≠ 8)) (fun c30 => ?_) (fun c30 => ?_)
   ·
    have p31 := of_decide_eq_true c30
    refine s_skip ?_
    refine s_skip ?_
    refine s_skip ?_
    refine s_skip ?_
    refine s_skip ?_
    refine s_skip ?_
    refine s_skip ?_
    refine s_skip ?_
    refine s_skip ?_
    refine sp (.bool true) ?_
    refine s_nt ?_
    refine k_true ?_
    refine k_sr ?_
    refine sp (pB b 0) ?_
    refine s_vcall (fun _ h => hmiss_s (F := [])) ?_
    rintro _ rfl
    refine sp (.int .i64 8) ?_
    refine s_nt ?_
    refine k_ret ?_
    refine xs_ret ?_
    refine xs_fact (fun H h => (h.mp (i := 5) rfl).nodup) (fun hnd32 => ?_)
    refine xs_mem (fun _ h => (put_same ho16) ▸ all_unfocus (o' := o13) hnd32 hq18 ho16 (ob_shut (o := o13) (h.re [0, 0, 0, 0] []))) ?_
    refine xs_mem (Bs := allP ps3 st :: blkA b #[.map (some mb21), .int .i64 (st.objs.length : Int), .map (some tb22)] 103 :: mpA iK oV mb21 ps3 :: mpA iK bV tb22 tm23 :: blkA g2 #[.int .i64 m.kind, .int .i64 m.p, .int .i64 m.q, .string m.str, .int .i64 m.ref] 26 :: blkA g1 #[.int .i64 v.kind, .int .i64 v.p, .int .i64 v.q, .string v.str, .int .i64 v.ref] 26 :: F) (fun _ h => h) ?_
    refine xs_mem (fun _ h => hp_shut (st := st) (n := (st.objs.length : Int)) ⟨⟨hi24, ha25, ht26⟩, rfl⟩ (h.re [1, 1, 1, 0] [])) ?_
    refine xs_mem (fun _ h => hpA_shut (h.re [0] [])) ?_
    have hb : hmetaOk st v m = false := by unfold hmetaOk; rw [hf15]; simp_all
    refine xs_fin [.int .i64 8] (hpA b st :: F) (SI.tmp 6 SI.nil) (fun _ h => h.re [0] [1, 1]) ⟨?_, ?_⟩
    · unfold hsetMetaE; rw [hb]; rfl
    · unfold hsetMeta; rw [hb]; rfl
   ·
    have p33 := Decidable.not_not.1 (of_decide_eq_false c30)
    refine s_lt (t_loadA 7 #[.int .i64 m.kind, .int .i64 m.p, .int .i64 m.q, .string m.str, .int .i64 m.ref]) ?_
    refine s_lt (t_kern (.agg #[.int .i64 0, .int .i64 0, .int .i64 0, .string ByteArray.empty, .int .i64 0])) ?_
    refine s_lt (t_eqS (fun w => (eqVlT m zVl w).2)) ?_
    refine sp (.bool (!(decide (m = zVl)))) ?_
    refine s_fork 31 (!(decide (m = zVl))) (fun c34 => ?_) (fun c34 => ?_)
    ·
     have c35 := not_t c34
     have p36 := of_decide_eq_false c35
     refine sp (pB b 0) ?_
     refine s_lt (t_loadA 7 #[.int .i64 m.kind, .int .i64 m.p, .int .i64 m.q, .string m.str, .int .i64 m.ref]) ?_
     refine s_fact (fun H h => (h.mp (i := 5) rfl).nodup) (fun hnd37 => ?_)
     refine s_mem (fun _ h => (put_same ho16) ▸ all_unfocus (o' := o13) hnd37 hq18 ho16 (ob_shut (o := o13) (h.re [0, 0, 0, 0] []))) ?_
     refine s_mem (Bs := allP ps3 st :: blkA b #[.map (some mb21), .int .i64 (st.objs.length : Int), .map (some tb22)] 103 :: mpA iK oV mb21 ps3 :: mpA iK bV tb22 tm23 :: blkA g2 #[.int .i64 m.kind, .int .i64 m.p, .int .i64 m.q, .string m.str, .int .i64 m.ref] 26 :: blkA g1 #[.int .i64 v.kind, .int .i64 v.p, .int .i64 v.q, .string v.str, .int .i64 v.ref] 26 :: F) (fun _ h => h) ?_
     refine s_mem (fun _ h => hp_shut (st := st) (n := (st.objs.length : Int)) ⟨⟨hi24, ha25, ht26⟩, rfl⟩ (h.re [1, 1, 1, 0] [])) ?_
     refine s_call [0] (htab_s (st := st) (ps := ps3) m) ?_
     rintro u38 _ ⟨e39, rfl⟩
     rcases tb_cases ha6 m with ⟨ht40, hv41⟩ | ⟨o42, q43, ht44, ho45, hk46, hk47, hq48, hv49⟩
     ·
      rw [hv41] at e39; subst e39
      refine sp (.bool true) ?_
      refine sp (.bool true) ?_
      refine sp (.bool true) ?_
      refine s_nt ?_
      refine k_true ?_
      refine k_sr ?_
      refine sp (pB b 0) ?_
      refine s_vcall (fun _ h => hmiss_s (F := [])) ?_
      rintro _ rfl
      refine sp (.int .i64 8) ?_
      refine s_nt ?_
      refine k_ret ?_
      refine xs_ret ?_
      refine xs_mem (fun _ h => hpA_shut (h.re [0] [])) ?_
      have hb : hmetaOk st v m = false := by unfold hmetaOk; rw [hf15]; simp_all
      refine xs_fin [.int .i64 8] (hpA b st :: F) (SI.tmp 6 SI.nil) (fun _ h => h.re [0] [1, 1]) ⟨?_, ?_⟩
      · unfold hsetMetaE; rw [hb]; rfl
      · unfold hsetMeta; rw [hb]; rfl
     ·
      rw [hv49] at e39; subst e39
      refine sp (.bool false) ?_
      refine sp (.bool false) ?_
      refine sp (.bool false) ?_
      refine s_nt ?_
      refine k_false ?_
      refine k_st ?_
      refine k_sr ?_
      refine sp (pB q14.1 0) ?_
      refine s_lt (t_loadA 1 #[.int .i64 m.kind, .int .i64 m.p, .int .i64 m.q, .string m.str, .int .i64 m.ref]) ?_
      refine sp (pB q14.1 0) ?_
      refine sp (pB q14.1 4) ?_
      refine s_mem3 (fun H h => hp_open (h.re [0] [])) (fun mb50 tb51 tm52 hw => ?_)
      obtain ⟨hi53, ha54, ht55⟩ := hw
      refine s_memX (fun H h => all_focus hq18 ho16 (h.re [3] [])) (fun v56 _ => ?_)
      refine s_store 0 #[.int .i64 o13.kind, .int .i64 o13.tag, .string o13.name, (tabV q14 o13), .int .i64 m.kind, .int .i64 m.p, .int .i64 m.q, .string m.str, .int .i64 m.ref, v56] ?_
      refine s_nr ?_
      refine sp (pB b 0) ?_
      refine s_lt (t_loadA 8 #[.int .i64 v.kind, .int .i64 v.p, .int .i64 v.q, .string v.str, .int .i64 v.ref]) ?_
      refine s_fact (fun H h => (h.mp (i := 5) rfl).nodup) (fun hnd57 => ?_)
      refine s_mem (fun _ h => all_unfocus (o' := { o13 with mt := m }) hnd57 hq18 ho16 (ob_shut (o := { o13 with mt := m }) (h.re [0, 0, 0, 0] []))) ?_
      refine s_mem (Bs := allP ps3 (st.put v.ref { o13 with mt := m }) :: blkA b #[.map (some mb50), .int .i64 (st.objs.length : Int), .map (some tb51)] 103 :: mpA iK oV mb50 ps3 :: mpA iK bV tb51 tm52 :: blkA g2 #[.int .i64 m.kind, .int .i64 m.p, .int .i64 m.q, .string m.str, .int .i64 m.ref] 26 :: blkA g1 #[.int .i64 v.kind, .int .i64 v.p, .int .i64 v.q, .string v.str, .int .i64 v.ref] 26 :: F) (fun _ h => h) ?_
      have hob58 := hi53.obs o13 (get_mem ho16).1
      refine s_mem (fun _ h => hp_shut (st := (st.put v.ref { o13 with mt := m })) (n := (st.objs.length : Int)) ⟨⟨put_inv hi53 ⟨hob58.kind, hob58.tab, (fun a b => by exfalso; have a1 : o13.kind ≠ 4 := a; have b1 : o13.kind ≠ 8 := b; omega)⟩, ha54.put ho16, ht55.put ho16⟩, by rw [put_len]⟩ (h.re [1, 1, 1, 0] [])) ?_
      refine s_call [0] (htouch_s (st := (st.put v.ref { o13 with mt := m })) (ps := ps3) v (show Hst.get _ _ = some { o13 with mt := m } from by rw [get_put ho16, if_pos rfl]) 0) ?_
      rw [if_pos (rfl)]
      rintro _ _ ⟨rfl, rfl⟩
      refine sp (.int .i64 0) ?_
      refine s_nt ?_
      refine k_ret ?_
      refine xs_mem (fun _ h => hpA_shut (h.re [0] [])) ?_
      have hb : hmetaOk st v m = true := by unfold hmetaOk; rw [hf15]; simp_all
      refine xs_fin [.int .i64 0] (hpA b ((st.put v.ref { o13 with mt := m }).touch v.ref) :: F) (SI.tmp 6 SI.nil) (fun _ h => h.re [0] [1, 1]) ⟨?_, ?_⟩
      · unfold hsetMetaE; rw [hb]; rfl
      · unfold hsetMeta; rw [hb]; unfold Hst.setMt; rw [ho16]; rfl
    ·
     have c60 := not_f c34
     have p61 := of_decide_eq_true c60
     refine s_skip ?_
     refine s_skip ?_
     refine s_skip ?_
     refine s_skip ?_
     refine sp (.bool false) ?_
     refine sp (.bool false) ?_
     refine s_nt ?_
     refine k_false ?_
     refine k_st ?_
     refine k_sr ?_
     refine sp (pB q14.1 0) ?_
     refine s_lt (t_loadA 7 #[.int .i64 m.kind, .int .i64 m.p, .int .i64 m.q, .string m.str, .int .i64 m.ref]) ?_
     refine sp (pB q14.1 0) ?_
     refine sp (pB q14.1 4) ?_
     refine s_store 0 #[.int .i64 o13.kind, .int .i64 o13.tag, .string o13.name, (tabV q14 o13), .int .i64 m.kind, .int .i64 m.p, .int .i64 m.q, .string m.str, .int .i64 m.ref, v27] ?_
     refine s_nr ?_
     refine sp (pB b 0) ?_
     refine s_lt (t_loadA 8 #[.int .i64 v.kind, .int .i64 v.p, .int .i64 v.q, .string v.str, .int .i64 v.ref]) ?_
     refine s_fact (fun H h => (h.mp (i := 5) rfl).nodup) (fun hnd62 => ?_)
     refine s_mem (fun _ h => all_unfocus (o' := { o13 with mt := m }) hnd62 hq18 ho16 (ob_shut (o := { o13 with mt := m }) (h.re [0, 0, 0, 0] []))) ?_
     refine s_mem (Bs := allP ps3 (st.put v.ref { o13 with mt := m }) :: blkA b #[.map (some mb21), .int .i64 (st.objs.length : Int), .map (some tb22)] 103 :: mpA iK oV mb21 ps3 :: mpA iK bV tb22 tm23 :: blkA g2 #[.int .i64 m.kind, .int .i64 m.p, .int .i64 m.q, .string m.str, .int .i64 m.ref] 26 :: blkA g1 #[.int .i64 v.kind, .int .i64 v.p, .int .i64 v.q, .string v.str, .int .i64 v.ref] 26 :: F) (fun _ h => h) ?_
     have hob63 := hi24.obs o13 (get_mem ho16).1
     refine s_mem (fun _ h => hp_shut (st := (st.put v.ref { o13 with mt := m })) (n := (st.objs.length : Int)) ⟨⟨put_inv hi24 ⟨hob63.kind, hob63.tab, (fun a b => by exfalso; have a1 : o13.kind ≠ 4 := a; have b1 : o13.kind ≠ 8 := b; omega)⟩, ha25.put ho16, ht26.put ho16⟩, by rw [put_len]⟩ (h.re [1, 1, 1, 0] [])) ?_
     refine s_call [0] (htouch_s (st := (st.put v.ref { o13 with mt := m })) (ps := ps3) v (show Hst.get _ _ = some { o13 with mt := m } from by rw [get_put ho16, if_pos rfl]) 0) ?_
     rw [if_pos (rfl)]
     rintro _ _ ⟨rfl, rfl⟩
     refine sp (.int .i64 0) ?_
     refine s_nt ?_
     refine k_ret ?_
     refine xs_mem (fun _ h => hpA_shut (h.re [0] [])) ?_
     have hb : hmetaOk st v m = true := by unfold hmetaOk; rw [hf15]; simp_all
     refine xs_fin [.int .i64 0] (hpA b ((st.put v.ref { o13 with mt := m }).touch v.ref) :: F) (SI.tmp 6 SI.nil) (fun _ h => h.re [0] [1, 1]) ⟨?_, ?_⟩
     · unfold hsetMetaE; rw [hb]; rfl
     · unfold hsetMeta; rw [hb]; unfold Hst.setMt; rw [ho16]; rfl
  ·
   have p65 := Decidable.not_not.1 (of_decide_eq_false c28)
   refine s_skip ?_
   refine s_skip ?_
   refine s_skip ?_
   refine s_skip ?_
   refine s_skip ?_
   refine sp (.bool false) ?_
   refine sp (.bool false) ?_
   refine sp (.bool false) ?_
   refine s_lt (t_loadA 7 #[.int .i64 m.kind, .int .i64 m.p, .int .i64 m.q, .string m.str, .int .i64 m.ref]) ?_
   refine s_lt (t_kern (.agg #[.int .i64 0, .int .i64 0, .int .i64 0, .string ByteArray.empty, .int .i64 0])) ?_
   refine s_lt (t_eqS (fun w => (eqVlT m zVl w).2)) ?_
   refine sp (.bool (!(decide (m = zVl)))) ?_
   refine s_fork 31 (!(decide (m = zVl))) (fun c66 => ?_) (fun c66 => ?_)
   ·
    have c67 := not_t c66
    have p68 := of_decide_eq_false c67
    refine sp (pB b 0) ?_
    refine s_lt (t_loadA 7 #[.int .i64 m.kind, .int .i64 m.p, .int .i64 m.q, .string m.str, .int .i64 m.ref]) ?_
    refine s_fact (fun H h => (h.mp (i := 5) rfl).nodup) (fun hnd69 => ?_)
    refine s_mem (fun _ h => (put_same ho16) ▸ all_unfocus (o' := o13) hnd69 hq18 ho16 (ob_shut (o := o13) (h.re [0, 0, 0, 0] []))) ?_
    refine s_mem (Bs := allP ps3 st :: blkA b #[.map (some mb21), .int .i64 (st.objs.length : Int), .map (some tb22)] 103 :: mpA iK oV mb21 ps3 :: mpA iK bV tb22 tm23 :: blkA g2 #[.int .i64 m.kind, .int .i64 m.p, .int .i64 m.q, .string m.str, .int .i64 m.ref] 26 :: blkA g1 #[.int .i64 v.kind, .int .i64 v.p, .int .i64 v.q, .string v.str, .int .i64 v.ref] 26 :: F) (fun _ h => h) ?_
    refine s_mem (fun _ h => hp_shut (st := st) (n := (st.objs.length : Int)) ⟨⟨hi24, ha25, ht26⟩, rfl⟩ (h.re [1, 1, 1, 0] [])) ?_
    refine s_call [0] (htab_s (st := st) (ps := ps3) m) ?_
    rintro u70 _ ⟨e71, rfl⟩
    rcases tb_cases ha6 m with ⟨ht72, hv73⟩ | ⟨o74, q75, ht76, ho77, hk78, hk79, hq80, hv81⟩
    ·
     rw [hv73] at e71; subst e71
     refine sp (.bool true) ?_
     refine sp (.bool true) ?_
     refine sp (.bool true) ?_
     refine s_nt ?_
     refine k_true ?_
     refine k_sr ?_
     refine sp (pB b 0) ?_
     refine s_vcall (fun _ h => hmiss_s (F := [])) ?_
     rintro _ rfl
     refine sp (.int .i64 8) ?_
     refine s_nt ?_
     refine k_ret ?_
     refine xs_ret ?_
     refine xs_mem (fun _ h => hpA_shut (h.re [0] [])) ?_
     have hb : hmetaOk st v m = false := by unfold hmetaOk; rw [hf15]; simp_all
     refine xs_fin [.int .i64 8] (hpA b st :: F) (SI.tmp 6 SI.nil) (fun _ h => h.re [0] [1, 1]) ⟨?_, ?_⟩
     · unfold hsetMetaE; rw [hb]; rfl
     · unfold hsetMeta; rw [hb]; rfl
    ·
     rw [hv81] at e71; subst e71
     refine sp (.bool false) ?_
     refine sp (.bool false) ?_
     refine sp (.bool false) ?_
     refine s_nt ?_
     refine k_false ?_
     refine k_st ?_
     refine k_sr ?_
     refine sp (pB q14.1 0) ?_
     refine s_lt (t_loadA 1 #[.int .i64 m.kind, .int .i64 m.p, .int .i64 m.q, .string m.str, .int .i64 m.ref]) ?_
     refine sp (pB q14.1 0) ?_
     refine sp (pB q14.1 4) ?_
     refine s_mem3 (fun H h => hp_open (h.re [0] [])) (fun mb82 tb83 tm84 hw => ?_)
     obtain ⟨hi85, ha86, ht87⟩ := hw
     refine s_memX (fun H h => all_focus hq18 ho16 (h.re [3] [])) (fun v88 _ => ?_)
     refine s_store 0 #[.int .i64 o13.kind, .int .i64 o13.tag, .string o13.name, (tabV q14 o13), .int .i64 m.kind, .int .i64 m.p, .int .i64 m.q, .string m.str, .int .i64 m.ref, v88] ?_
     refine s_nr ?_
     refine sp (pB b 0) ?_
     refine s_lt (t_loadA 8 #[.int .i64 v.kind, .int .i64 v.p, .int .i64 v.q, .string v.str, .int .i64 v.ref]) ?_
     refine s_fact (fun H h => (h.mp (i := 5) rfl).nodup) (fun hnd89 => ?_)
     refine s_mem (fun _ h => all_unfocus (o' := { o13 with mt := m }) hnd89 hq18 ho16 (ob_shut (o := { o13 with mt := m }) (h.re [0, 0, 0, 0] []))) ?_
     refine s_mem (Bs := allP ps3 (st.put v.ref { o13 with mt := m }) :: blkA b #[.map (some mb82), .int .i64 (st.objs.length : Int), .map (some tb83)] 103 :: mpA iK oV mb82 ps3 :: mpA iK bV tb83 tm84 :: blkA g2 #[.int .i64 m.kind, .int .i64 m.p, .int .i64 m.q, .string m.str, .int .i64 m.ref] 26 :: blkA g1 #[.int .i64 v.kind, .int .i64 v.p, .int .i64 v.q, .string v.str, .int .i64 v.ref] 26 :: F) (fun _ h => h) ?_
     have hob90 := hi85.obs o13 (get_mem ho16).1
     refine s_mem (fun _ h => hp_shut (st := (st.put v.ref { o13 with mt := m })) (n := (st.objs.length : Int)) ⟨⟨put_inv hi85 ⟨hob90.kind, hob90.tab, (fun a b => by exfalso; have a1 : o13.kind ≠ 4 := a; have b1 : o13.kind ≠ 8 := b; omega)⟩, ha86.put ho16, ht87.put ho16⟩, by rw [put_len]⟩ (h.re [1, 1, 1, 0] [])) ?_
     refine s_call [0] (htouch_s (st := (st.put v.ref { o13 with mt := m })) (ps := ps3) v (show Hst.get _ _ = some { o13 with mt := m } from by rw [get_put ho16, if_pos rfl]) 0) ?_
     rw [if_pos (rfl)]
     rintro _ _ ⟨rfl, rfl⟩
     refine sp (.int .i64 0) ?_
     refine s_nt ?_
     refine k_ret ?_
     refine xs_mem (fun _ h => hpA_shut (h.re [0] [])) ?_
     have hb : hmetaOk st v m = true := by unfold hmetaOk; rw [hf15]; simp_all
     refine xs_fin [.int .i64 0] (hpA b ((st.put v.ref { o13 with mt := m }).touch v.ref) :: F) (SI.tmp 6 SI.nil) (fun _ h => h.re [0] [1, 1]) ⟨?_, ?_⟩
     · unfold hsetMetaE; rw [hb]; rfl
     · unfold hsetMeta; rw [hb]; unfold Hst.setMt; rw [ho16]; rfl
   ·
    have c92 := not_f c66
    have p93 := of_decide_eq_true c92
    refine s_skip ?_
    refine s_skip ?_
    refine s_skip ?_
    refine s_skip ?_
    refine sp (.bool false) ?_
    refine sp (.bool false) ?_
    refine s_nt ?_
    refine k_false ?_
    refine k_st ?_
    refine k_sr ?_
    refine sp (pB q14.1 0) ?_
    refine s_lt (t_loadA 7 #[.int .i64 m.kind, .int .i64 m.p, .int .i64 m.q, .string m.str, .int .i64 m.ref]) ?_
    refine sp (pB q14.1 0) ?_
    refine sp (pB q14.1 4) ?_
    refine s_store 0 #[.int .i64 o13.kind, .int .i64 o13.tag, .string o13.name, (tabV q14 o13), .int .i64 m.kind, .int .i64 m.p, .int .i64 m.q, .string m.str, .int .i64 m.ref, v27] ?_
    refine s_nr ?_
    refine sp (pB b 0) ?_
    refine s_lt (t_loadA 8 #[.int .i64 v.kind, .int .i64 v.p, .int .i64 v.q, .string v.str, .int .i64 v.ref]) ?_
    refine s_fact (fun H h => (h.mp (i := 5) rfl).nodup) (fun hnd94 => ?_)
    refine s_mem (fun _ h => all_unfocus (o' := { o13 with mt := m }) hnd94 hq18 ho16 (ob_shut (o := { o13 with mt := m }) (h.re [0, 0, 0, 0] []))) ?_
    refine s_mem (Bs := allP ps3 (st.put v.ref { o13 with mt := m }) :: blkA b #[.map (some mb21), .int .i64 (st.objs.length : Int), .map (some tb22)] 103 :: mpA iK oV mb21 ps3 :: mpA iK bV tb22 tm23 :: blkA g2 #[.int .i64 m.kind, .int .i64 m.p, .int .i64 m.q, .string m.str, .int .i64 m.ref] 26 :: blkA g1 #[.int .i64 v.kind, .int .i64 v.p, .int .i64 v.q, .string v.str, .int .i64 v.ref] 26 :: F) (fun _ h => h) ?_
    have hob95 := hi24.obs o13 (get_mem ho16).1
    refine s_mem (fun _ h => hp_shut (st := (st.put v.ref { o13 with mt := m })) (n := (st.objs.length : Int)) ⟨⟨put_inv hi24 ⟨hob95.kind, hob95.tab, (fun a b => by exfalso; have a1 : o13.kind ≠ 4 := a; have b1 : o13.kind ≠ 8 := b; omega)⟩, ha25.put ho16, ht26.put ho16⟩, by rw [put_len]⟩ (h.re [1, 1, 1, 0] [])) ?_
    refine s_call [0] (htouch_s (st := (st.put v.ref { o13 with mt := m })) (ps := ps3) v (show Hst.get _ _ = some { o13 with mt := m } from by rw [get_put ho16, if_pos rfl]) 0) ?_
    rw [if_pos (rfl)]
    rintro _ _ ⟨rfl, rfl⟩
    refine sp (.int .i64 0) ?_
    refine s_nt ?_
    refine k_ret ?_
    refine xs_mem (fun _ h => hpA_shut (h.re [0] [])) ?_
    have hb : hmetaOk st v m = true := by unfold hmetaOk; rw [hf15]; simp_all
    refine xs_fin [.int .i64 0] (hpA b ((st.put v.ref { o13 with mt := m }).touch v.ref) :: F) (SI.tmp 6 SI.nil) (fun _ h => h.re [0] [1, 1]) ⟨?_, ?_⟩
    · unfold hsetMetaE; rw [hb]; rfl
    · unfold hsetMeta; rw [hb]; unfold Hst.setMt; rw [ho16]; rfl
theorem all_add {Z : Zone} {F : List Asr} {H : Heap} {st : Hst} {ps : List (Int × (Nat × Nat))} {q : Nat × Nat} {o : Hob} (ha : HA ps st) (hf : st.count < 65536) (hi : (ps.map Prod.fst).Nodup) (h : Holds Z (obP q o :: allP ps st :: F) H) : Holds Z (allP (aset ps ((st.objs.length : Int) + 1) q) (hmake st o) :: F) H := by
  have hnone : apos ps ((st.objs.length : Int) + 1) = none := by
    have := ha.has ((st.objs.length : Int) + 1)
    rw [get_end] at this
    cases hp : apos ps ((st.objs.length : Int) + 1) with
    | none => rfl
    | some i => obtain ⟨_, y, _, h2⟩ := Go.Mem.apos_lt hp; rw [h2] at this; cases this
  have e0 : hmake st o = ⟨st.objs ++ [some o], st.tch ++ [true]⟩ := by unfold hmake; rw [if_neg (by omega)]
  unfold allP
  rw [Go.Mem.aset_new hnone, List.map_append, List.map_cons, List.map_nil]
  have e1 : (hmake st o).ob ((st.objs.length : Int) + 1) = o := by
    unfold Hst.ob; rw [e0, get_snoc, if_pos rfl]; rfl
  have e2 : ps.map (fun p => obP p.2 ((hmake st o).ob p.1)) = ps.map fun p => obP p.2 (st.ob p.1) := by
    refine List.map_congr_left fun p hp => ?_
    have hne : p.1 ≠ (st.objs.length : Int) + 1 := fun e => by
      have := (Go.Mem.aget_none_iff ps ((st.objs.length : Int) + 1)).1 (Go.Mem.apos_none hnone)
      exact this (List.mem_map.2 ⟨p, hp, e⟩)
    unfold Hst.ob; rw [e0, get_snoc, if_neg hne]
  rw [e2]
  show Holds Z (star (_ ++ [obP q ((hmake st o).ob _)]) :: F) H
  rw [e1]
  exact Holds.star_add h
theorem hmake_len {st : Hst} {o : Hob} (hf : st.count < 65536) : (hmake st o).objs.length = st.objs.length + 1 := by unfold hmake; rw [if_neg (by omega)]; simp
theorem hmakeV_full {st : Hst} {k : Int} (hf : 65536 ≤ st.count) : hmakeV st k = zVl ∧ hmakeE st = 17 := by unfold hmakeV hmakeE; rw [if_pos hf, if_pos hf]; exact ⟨rfl, rfl⟩
theorem hmakeV_ok {st : Hst} {k : Int} (hf : st.count < 65536) : hmakeV st k = refV k ((st.objs.length : Int) + 1) ∧ hmakeE st = 0 := by unfold hmakeV hmakeE; rw [if_neg (by omega), if_neg (by omega)]; exact ⟨rfl, rfl⟩
theorem hmake_full {st : Hst} {o : Hob} (hf : 65536 ≤ st.count) : hmake st o = st := by unfold hmake; rw [if_pos hf]
theorem hcreate_s {Z : Zone} {F : List Asr} {b : Nat} {st : Hst} {ps : List (Int × (Nat × Nat))} {q : Nat × Nat} {o : Hob} (hob : ObInv o) (hl : st.objs.length ≤ 1000000) : SF Try.prog 74 #[.pointer (some ⟨b, 0, none⟩), ptrV q.1] Z (hpP b st ps :: obP q o :: F) fun r Bs => r = pairV (hmakeV st o.kind) (hmakeE st) ∧ Bs = hpA b (hmake st o) :: F := by
 refine sf_enter Try.func74 46 [(0, pB b 0), (1, pB q.1 0)] (fun w0 => ?_)
 refine k_mem3 (fun H h => hp_open (h.re [0] [])) (fun mb1 tb2 tm3 hw => ?_)
 obtain ⟨hi4, ha5, ht6⟩ := hw
 refine k_fact (fun H h => (h.mp (i := 1) rfl).nodup) (fun hnd0 => ?_)
 have hlen := ha5.len
 refine k_sr ?_
 refine s_alloc (.agg #[.int .i64 0, .int .i64 0, .int .i64 0, .string ByteArray.empty, .int .i64 0]) #[.int .i64 0, .int .i64 0, .int .i64 0, .string ByteArray.empty, .int .i64 0] (fun g7 => ?_)
 refine sp (.int .i64 0) ?_
 refine s_nt ?_
 refine k_seq ?_
 refine k_sr ?_
 refine sp (pB b 0) ?_
 refine sp (pB b 0) ?_
 refine sp (pB b 0) ?_
 refine s_lt (t_load 1 (.map (some mb1))) ?_
 refine s_lt (t_lenM 2 Try.underlying100) ?_
 refine s_lt t_cmp ?_
 refine s_nt ?_
 refine k_cond (decide ((65536 : Int) ≤ (ps.length : Int))) (fun c8 => ?_) (fun c8 => ?_)
 ·
  have p9 := of_decide_eq_true c8
  refine k_sr ?_
  refine s_lt (t_kern (.agg #[.int .i64 0, .int .i64 0, .int .i64 0, .string ByteArray.empty, .int .i64 0])) ?_
  refine s_store 0 #[.int .i64 0, .int .i64 0, .int .i64 0, .string ByteArray.empty, .int .i64 0] ?_
  refine sp (.int .i64 17) ?_
  refine s_nt ?_
  refine k_ret ?_
  refine xs_ret ?_
  refine xs_mem (fun _ h => hp_shut (st := st) (n := (st.objs.length : Int)) ⟨⟨hi4, ha5, ht6⟩, rfl⟩ (h.re [1, 1, 1, 1] [])) ?_
  have hf : 65536 ≤ st.count := by omega
  refine xs_fin [.agg #[.int .i64 0, .int .i64 0, .int .i64 0, .string ByteArray.empty, .int .i64 0], .int .i64 17] (hpA b st :: F) (SI.agg 4 26 1 (SI.tmp 5 SI.nil)) (fun _ h => hpA_shut (h.re [0] [1, 1])) ⟨?_, ?_⟩
  · rw [(hmakeV_full hf).1, (hmakeV_full (k := 0) hf).2]; rfl
  · rw [hmake_full hf]
 ·
  have p10 := of_decide_eq_false c8
  refine k_st ?_
  refine k_sr ?_
  refine sp (pB b 0) ?_
  refine sp (pB b 0) ?_
  refine sp (pB b 1) ?_
  refine s_lt (t_load 1 (.int .i64 (st.objs.length : Int))) ?_
  refine s_lt (t_add (st.objs.length : Int) 1 (by (try simp only [lnm]); omega)) ?_
  refine sp (pB b 0) ?_
  refine sp (pB b 1) ?_
  refine s_store 1 #[.map (some mb1), .int .i64 ((st.objs.length : Int) + 1), .map (some tb2)] ?_
  refine s_nt ?_
  refine k_seq ?_
  refine k_draw ?_
  refine sp (pB b 0) ?_
  refine sp (pB b 0) ?_
  refine sp (pB b 0) ?_
  refine s_lt (t_load 1 (.map (some mb1))) ?_
  refine sp (pB b 0) ?_
  refine sp (pB b 0) ?_
  refine sp (pB b 1) ?_
  refine s_lt (t_load 1 (.int .i64 ((st.objs.length : Int) + 1))) ?_
  refine sp (pB q.1 0) ?_
  refine s_update 2 intOk Try.underlying100 ((st.objs.length : Int) + 1) q ?_
  refine s_nil ?_
  refine x_dynS (fun _ h => by kernel_rfl) ?_
  refine xs_then ?_
  refine k_seq ?_
  refine k_draw ?_
  refine sp (pB b 0) ?_
  refine sp (pB b 0) ?_
  refine sp (pB b 2) ?_
  refine s_lt (t_load 1 (.map (some tb2))) ?_
  refine sp (pB b 0) ?_
  refine sp (pB b 0) ?_
  refine sp (pB b 1) ?_
  refine s_lt (t_load 1 (.int .i64 ((st.objs.length : Int) + 1))) ?_
  refine s_update 3 intOk Try.underlying101 ((st.objs.length : Int) + 1) true ?_
  refine s_nil ?_
  refine x_dynS (fun _ h => by kernel_rfl) ?_
  refine xs_then ?_
  refine k_seq ?_
  refine k_draw ?_
  refine sp (pB q.1 0) ?_
  refine sp (pB q.1 0) ?_
  refine sp (pB q.1 0) ?_
  refine s_memX (fun H h => ob_open (h.re [5] [])) (fun v11 hw => ?_)
  refine s_lt (t_load 0 (.int .i64 o.kind)) ?_
  refine sp (pB b 0) ?_
  refine sp (pB b 0) ?_
  refine sp (pB b 1) ?_
  refine s_lt (t_load 4 (.int .i64 ((st.objs.length : Int) + 1))) ?_
  refine s_lt (t_kern (.agg #[.int .i64 o.kind, .int .i64 0, .int .i64 0, .string ByteArray.empty, .int .i64 ((st.objs.length : Int) + 1)])) ?_
  refine s_store 3 #[.int .i64 o.kind, .int .i64 0, .int .i64 0, .string ByteArray.empty, .int .i64 ((st.objs.length : Int) + 1)] ?_
  refine sp (.int .i64 0) ?_
  refine s_nil ?_
  refine x_dynS (fun _ h => by kernel_rfl) ?_
  refine xs_then ?_
  refine k_ret ?_
  refine xs_mem (fun _ h => ob_shut (o := o) (h.re [0, 0, 0] [])) ?_
  have hf : st.count < 65536 := by omega
  refine xs_fact (fun H h => hnd0) (fun hnd => ?_)
  refine xs_mem (fun _ h => all_add ha5 hf hnd (h.re [0, 4] [])) ?_
  refine xs_mem (fun _ h => hp_shut (st := (hmake st o)) (n := ((st.objs.length : Int) + 1)) ⟨⟨hmake_inv hi4 hob, HA.make ha5 o q hf, TA.make ht6 hi4 o hf⟩, by rw [hmake_len hf]; rfl⟩ (h.re [2, 2, 2, 0] [])) ?_
  refine xs_fin [.agg #[.int .i64 o.kind, .int .i64 0, .int .i64 0, .string ByteArray.empty, .int .i64 ((st.objs.length : Int) + 1)], .int .i64 0] (hpA b (hmake st o) :: F) (SI.agg 4 26 1 (SI.tmp 5 SI.nil)) (fun _ h => hpA_shut (h.re [0] [1])) ⟨?_, rfl⟩
  rw [(hmakeV_ok hf).1, (hmakeV_ok (k := 0) hf).2]; rfl
theorem hnewtable_s {Z : Zone} {F : List Asr} {b : Nat} {st : Hst} (hl : st.objs.length ≤ 1000000) : SF Try.prog 28 #[.pointer (some ⟨b, 0, none⟩)] Z (hpA b st :: F) fun r Bs => r = pairV (hmakeV st 4) (hmakeE st) ∧ Bs = hpA b (hmake st (newO 4 0 ByteArray.empty [])) :: F := by
 refine sf_enter Try.func28 14 [(0, pB b 0)] (fun w0 => ?_)
 refine k_sr ?_
 refine s_alloc (.agg #[.int .i64 0, .int .i64 0, .int .i64 0, .string ByteArray.empty, .int .i64 0]) #[.int .i64 0, .int .i64 0, .int .i64 0, .string ByteArray.empty, .int .i64 0] (fun g1 => ?_)
 refine sp (.int .i64 0) ?_
 refine s_nt ?_
 refine k_seq ?_
 refine k_sr ?_
 refine sp (pB b 0) ?_
 refine sp (.bool false) ?_
 refine s_nt ?_
 refine k_false ?_
 refine k_st ?_
 refine k_sr ?_
 refine sp (pB b 0) ?_
 refine s_pcall (fun _ h => tbnew_s) ?_
 rintro _ _ ⟨tg2, rfl, rfl⟩
 refine s_lt (t_kern (.agg #[.int .i64 4, .int .i64 0, .string ByteArray.empty, pB tg2 0, .int .i64 0, .int .i64 0, .int .i64 0, .string ByteArray.empty, .int .i64 0, (.slice none 0 0)])) ?_
 refine s_box #[.int .i64 4, .int .i64 0, .string ByteArray.empty, pB tg2 0, .int .i64 0, .int .i64 0, .int .i64 0, .string ByteArray.empty, .int .i64 0, (.slice none 0 0)] (fun g3 => ?_)
 refine s_memX (fun H h => hpA_open (h.re [3] [])) (fun ps4 _ => ?_)
 refine s_fact (fun H h => hp_facts (h.re [0] [])) (fun hf5 => ?_)
 obtain ⟨hi6, ha7⟩ := hf5
 refine s_mem (fun _ h => Holds.nilS (T := VlT) h) ?_
 refine s_mem (fun _ h => tabO_shut (q := (g3, tg2)) (o := (newO 4 0 ByteArray.empty [])) (T := noTb) rfl (h.re [3] [])) ?_
 refine s_mem (fun _ h => ob_shut (q := (g3, tg2)) (o := (newO 4 0 ByteArray.empty [])) (h.re [3, 1, 0] [])) ?_
 refine s_call [1, 0] (hcreate_s (st := st) (ps := ps4) (q := (g3, tg2)) (o := (newO 4 0 ByteArray.empty [])) (newO_inv _ _ _ (by decide)) (by omega)) ?_
 rintro _ _ ⟨rfl, rfl⟩
 refine sp (.agg #[.int .i64 ((hmakeV st 4).kind), .int .i64 ((hmakeV st 4).p), .int .i64 ((hmakeV st 4).q), .string ((hmakeV st 4).str), .int .i64 ((hmakeV st 4).ref)]) ?_
 refine sp (.int .i64 (hmakeE st)) ?_
 refine s_store 1 #[.int .i64 ((hmakeV st 4).kind), .int .i64 ((hmakeV st 4).p), .int .i64 ((hmakeV st 4).q), .string ((hmakeV st 4).str), .int .i64 ((hmakeV st 4).ref)] ?_
 refine sp (.int .i64 (hmakeE st)) ?_
 refine s_nt ?_
 refine k_ret ?_
 exact xs_fin [.agg #[.int .i64 ((hmakeV st 4).kind), .int .i64 ((hmakeV st 4).p), .int .i64 ((hmakeV st 4).q), .string ((hmakeV st 4).str), .int .i64 ((hmakeV st 4).ref)], .int .i64 (hmakeE st)] (hpA b (hmake st (newO 4 0 ByteArray.empty [])) :: F) (SI.agg 2 26 1 (SI.tmp 3 SI.nil)) (fun _ h => h.re [0] [1]) ⟨rfl, rfl⟩
def hdataV (st : Hst) (name : ByteArray) : Vl := if 40 < (name.size : Int) then zVl else hmakeV st 8
def hdataE (st : Hst) (name : ByteArray) : Int := if 40 < (name.size : Int) then 14 else hmakeE st
def hdata (st : Hst) (name : ByteArray) : Hst := if 40 < (name.size : Int) then st else hmake st (newO 8 0 name (List.replicate 16 zVl))
theorem hnew_s {Z : Zone} : SF Try.prog 26 #[] Z [] fun r Bs => ∃ b, r = .pointer (some ⟨b, 0, none⟩) ∧ Bs = [hpA b hp0] := by
 refine sf_enter Try.func26 5 [] (fun w0 => ?_)
 refine k_sr ?_
 refine sp (.pointer none) ?_
 refine s_nr ?_
 refine s_makeMap iK oV (fun b1 => ?_)
 refine s_makeMap iK bV (fun b2 => ?_)
 refine s_lt (t_kern (.agg #[.map (some b1), .int .i64 0, .map (some b2)])) ?_
 refine s_box #[.map (some b1), .int .i64 0, .map (some b2)] (fun g3 => ?_)
 refine sp (pB g3 0) ?_
 refine s_nt ?_
 refine k_ret ?_
 refine xs_fin [pB g3 0] [hpA g3 hp0] (SI.tmp 0 SI.nil) (fun _ h => hpA_shut (ps := []) (hp_shut (b := g3) (st := hp0) (tm := []) ⟨⟨HInv.nil, HA.nil, TA.nil⟩, rfl⟩ ((Holds.star_nil h).re [1, 2, 1, 0] []))) ⟨g3, rfl, rfl⟩
end Go.Proofs.Ytplkkhpokodbmaa
