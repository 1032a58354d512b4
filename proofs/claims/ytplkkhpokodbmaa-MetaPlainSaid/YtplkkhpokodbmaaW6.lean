/-
  Heaps of the reference. Each law says its conditions.
-/
import Derived.Test.YtplkkhpokodbmaaW5
set_option linter.unusedSimpArgs false
set_option linter.unusedVariables false
set_option maxRecDepth 100000
set_option maxHeartbeats 2000000
namespace Go.Proofs.Ytplkkhpokodbmaa
open Go.Hp Go.J Go.S
open Go.Mem (Ty KTy blk elemAt pre suf blk_pre blk_suf aget aset strK aggDesc)
open Go.Mem (adel apos aget_aset aget_adel)
structure Sv where
  p : Option Addr
  len : Nat
  cap : Nat
abbrev Sv.v (s : Sv) : Value := .slice s.p s.len s.cap
/-- An element of the reference's list: an object (none: a removed one), and where its parts lie. -/
structure Rx where
  o : Option Hob
  tp : Nat
  uv : Sv
  rv : Sv
def Rx.v : Rx → Value
  | ⟨some o, tp, uv, rv⟩ => .agg #[.int .i64 o.kind, .int .i64 o.tag, .string o.name, tabV (0, tp) o, .int .i64 o.mt.kind, .int .i64 o.mt.p, .int .i64 o.mt.q, .string o.mt.str, .int .i64 o.mt.ref, uv.v, rv.v]
  | ⟨none, _, _, _⟩ => .agg #[.int .i64 0, .int .i64 0, .string ByteArray.empty, .pointer none, .int .i64 0, .int .i64 0, .int .i64 0, .string ByteArray.empty, .int .i64 0, .slice none 0 0, .slice none 0 0]
theorem tabV_one (q : Nat × Nat) (o : Hob) : (tabV q o).oneCell' = true := by unfold tabV; split <;> rfl
theorem tabV_tab {q : Nat × Nat} {o : Hob} (h : o.kind = 4) : tabV q o = ptrV q.2 := by unfold tabV; rw [if_pos h]
def RxT : Ty Rx := ⟨95, 11, 136, true, Rx.v, ⟨none, 0, ⟨none, 0, 0⟩, ⟨none, 0, 0⟩⟩⟩
theorem RxT_ok : RxT.Ok Try.prog := ok_of RxT _ Try.t95 (by decide) (fun x => by obtain ⟨o, _, _, _⟩ := x; cases o <;> rfl) (fun x u hu => by
  obtain ⟨o, tp, uv, rv⟩ := x
  cases o with
  | none => simp [Ty.enc, RxT, Rx.v, Value.cells] at hu; repeat (first | (rcases hu with rfl | hu; rfl) | (subst hu; rfl))
  | some o =>
    simp [Ty.enc, RxT, Rx.v, Value.cells] at hu
    rcases hu with rfl | rfl | rfl | rfl | rfl | rfl | rfl | rfl | rfl | rfl | rfl <;> first | rfl | exact tabV_one _ _) (fun x => by obtain ⟨o, _, _, _⟩ := x; cases o <;> rfl) Try.underlying95 rfl (fun h => by cases h) (by kernel_rfl) (by kernel_rfl) (by kernel_rfl) (by kernel_rfl)
def usr (o : Hob) : List Vl := if o.kind = 8 then o.vals else []
def rfs (o : Hob) : List Vl := if o.kind = 8 then [] else o.vals
def rtO (tp : Nat) (o : Hob) : Asr := star (if o.kind = 4 then [rtA tp o.tab.list o.tab.rest] else [])
/-- The parts of an element. -/
def roP : Rx → Asr
  | ⟨some o, tp, uv, rv⟩ => star [own VlT uv.v (usr o), own VlT rv.v (rfs o), rtO tp o]
  | ⟨none, _, _, _⟩ => star []
def rallP (L : List Rx) : Asr := star (L.map roP)
/-- A heap of the reference in memory. -/
def rhA (b : Nat) (st : Hst) : Asr := exA fun v => exA fun tv => exA fun L => stA (HInv st ∧ L.map Rx.o = st.objs) [blkA b #[v, .int .i64 (st.count : Int), tv] 99, own RxT v L, own bTy tv st.tch, rallP L]
section
variable {Z : Zone} {F : List Asr} {H : Heap} {b : Nat} {st : Hst} {L : List Rx} {id : Int} {o o' : Hob} {i tp : Nat} {uv rv : Sv}
theorem rh_open (h : Holds Z (rhA b st :: F) H) : ∃ (v tv : Value) (L : List Rx), (HInv st ∧ L.map Rx.o = st.objs) ∧ Holds Z (blkA b #[v, .int .i64 (st.count : Int), tv] 99 :: own RxT v L :: own bTy tv st.tch :: rallP L :: F) H := by
  obtain ⟨v, h⟩ := h.open_ex
  obtain ⟨tv, h⟩ := h.open_ex
  obtain ⟨L, h⟩ := h.open_ex
  exact ⟨v, tv, L, h.open_st⟩
theorem rh_shut {v tv : Value} {n : Int} {T : List Bool} (hp : ((HInv st ∧ L.map Rx.o = st.objs) ∧ n = (st.count : Int)) ∧ T = st.tch) (h : Holds Z (blkA b #[v, .int .i64 n, tv] 99 :: own RxT v L :: own bTy tv T :: rallP L :: F) H) : Holds Z (rhA b st :: F) H := by
  obtain ⟨⟨h1, rfl⟩, rfl⟩ := hp
  exact Holds.shut_ex v (Holds.shut_ex tv (Holds.shut_ex L (Holds.shut_st h1 h)))
theorem rh_inv (h : Holds Z (rhA b st :: F) H) : HInv st := by
  obtain ⟨_, _, _, h, _⟩ := rh_open h; exact h.1
theorem rx_len (hL : L.map Rx.o = st.objs) : L.length = st.objs.length := by rw [← hL, List.length_map]
theorem rx_get (hL : L.map Rx.o = st.objs) (ho : st.get id = some o) : ∃ tp uv rv, L[(id - 1).toNat]? = some ⟨some o, tp, uv, rv⟩ := by
  obtain ⟨_, h1, h2, h3⟩ := get_mem ho
  rw [← hL, List.getElem?_map, show id.toNat - 1 = (id - 1).toNat by omega] at h3
  cases hx : L[(id - 1).toNat]? with
  | none => rw [hx] at h3; cases h3
  | some x =>
    rw [hx] at h3
    obtain ⟨ox, tp, uv, rv⟩ := x
    simp at h3
    exact ⟨tp, uv, rv, by rw [← h3]⟩
theorem rx_cases (hL : L.map Rx.o = st.objs) (h1 : 1 ≤ id) (h2 : id ≤ (L.length : Int)) : (∃ tp uv rv, L[(id - 1).toNat]? = some ⟨none, tp, uv, rv⟩ ∧ st.get id = none) ∨ ∃ o tp uv rv, L[(id - 1).toNat]? = some ⟨some o, tp, uv, rv⟩ ∧ st.get id = some o := by
  have hlt : (id - 1).toNat < L.length := by omega
  obtain ⟨x, hx⟩ : ∃ x, L[(id - 1).toNat]? = some x := ⟨_, List.getElem?_eq_getElem hlt⟩
  have hg : st.get id = x.o := by
    unfold Hst.get
    rw [if_pos h1, ← hL, List.getElem?_map, show id.toNat - 1 = (id - 1).toNat by omega, hx]; rfl
  obtain ⟨o, tp, uv, rv⟩ := x
  cases o with
  | none => exact .inl ⟨tp, uv, rv, hx, hg⟩
  | some o => exact .inr ⟨o, tp, uv, rv, hx, hg⟩
theorem rtO_open (h4 : o.kind = 4) (h : Holds Z (rtO tp o :: F) H) : Holds Z (rtA tp o.tab.list o.tab.rest :: F) H := by
  unfold rtO at h
  rw [if_pos h4] at h
  exact h.star_out
theorem rtO_shut {T : Tb} (h4 : o.kind = 4) (h : Holds Z (rtA tp T.list T.rest :: F) H) : Holds Z (rtO tp { o with tab := T } :: F) H := by
  unfold rtO
  rw [if_pos h4]
  exact Holds.star_in (L := [_]) h
theorem rtO_none (h4 : o.kind ≠ 4) (h : Holds Z F H) : Holds Z (rtO tp o :: F) H := by
  unfold rtO
  rw [if_neg h4]
  exact h.star_nil
theorem rall_out (hy : L[i]? = some ⟨some o, tp, uv, rv⟩) (h : Holds Z (rallP L :: F) H) : Holds Z (own VlT uv.v (usr o) :: own VlT rv.v (rfs o) :: rtO tp o :: rallP (L.eraseIdx i) :: F) H := (h.star_get hy).star_out
theorem rall_in (hy : L[i]? = some ⟨some o, tp, uv, rv⟩) {uv' rv' : Sv} (h : Holds Z (own VlT uv'.v (usr o') :: own VlT rv'.v (rfs o') :: rtO tp o' :: rallP (L.eraseIdx i) :: F) H) : Holds Z (rallP (L.set i ⟨some o', tp, uv', rv'⟩) :: F) H := by
  have h1 : Holds Z (roP ⟨some o', tp, uv', rv'⟩ :: star ((L.eraseIdx i).map roP) :: F) H := Holds.star_in (L := [_, _, _]) h
  have hi := (List.getElem?_eq_some_iff.1 hy).1
  unfold rallP
  rw [List.map_set]
  rw [← erase_map, ← del_eq] at h1
  have := Holds.star_push (i := i) (A := roP ⟨some o, tp, uv, rv⟩) (by rw [gt_eq, List.getElem?_map, hy]; rfl) h1
  rwa [upd_eq] at this
theorem own_flat {α : Type} {T : Ty α} {v : Value} {A B : List α} (hl : A.length = B.length) (hf : T.flat A = T.flat B) (h : Holds Z (own T v A :: F) H) : Holds Z (own T v B :: F) H := h.imp fun S ⟨S1, S2, h1, h2, hd, hS⟩ => ⟨S1, S2, ⟨by
  obtain ⟨hw, _⟩ := h1
  unfold Ow at hw ⊢
  rw [← hl, ← hf]
  rcases hw with ⟨a, b⟩ | hw
  · exact .inl ⟨a, List.eq_nil_of_length_eq_zero (by rw [← hl, b]; rfl)⟩
  · exact .inr hw, h1.2⟩, h2, hd, hS⟩
theorem flat_set {α : Type} {T : Ty α} {A : List α} {x y : α} (hx : A[i]? = some x) (he : T.enc y = T.enc x) : T.flat (A.set i y) = T.flat A := by
  obtain ⟨hi, e⟩ := List.getElem?_eq_some_iff.1 hx
  have h1 : A.set i y = A.take i ++ ([y] ++ A.drop (i + 1)) := by rw [List.set_eq_take_append_cons_drop, if_pos hi]; rfl
  have h2 : A = A.take i ++ ([x] ++ A.drop (i + 1)) := by
    have : A.drop i = A[i] :: A.drop (i + 1) := List.drop_eq_getElem_cons hi
    rw [← e]; show A = A.take i ++ (A[i] :: A.drop (i + 1)); rw [← this, List.take_append_drop]
  have hs : T.flat [y] = T.flat [x] := by show T.enc y ++ T.flat [] = T.enc x ++ T.flat []; rw [he]
  rw [h1]
  conv => rhs; rw [h2]
  simp only [Ty.flat_append, hs]
theorem own_set {α : Type} {T : Ty α} {v : Value} {A : List α} {x y : α} (hx : A[i]? = some x) (he : T.enc y = T.enc x) (h : Holds Z (own T v A :: F) H) : Holds Z (own T v (A.set i y) :: F) H := own_flat (by simp) (flat_set hx he).symm h
theorem rx_set {x : Rx} (hL : L.map Rx.o = st.objs) (ho : st.get id = some o) (hx : x.o = some o') : (L.set (id - 1).toNat x).map Rx.o = (st.put id o').objs := by
  obtain ⟨_, h1, h2, _⟩ := get_mem ho
  unfold Hst.put
  rw [List.map_set, hL, hx, show id.toNat - 1 = (id - 1).toNat by omega]
theorem rx_snoc {x : Rx} (hL : L.map Rx.o = st.objs) (hx : x.o = some o') (tch : List Bool) : (L ++ [x]).map Rx.o = (⟨st.objs ++ [some o'], tch⟩ : Hst).objs := by rw [List.map_append, hL]; simp [hx]
theorem rall_same {x : Rx} (hy : L[i]? = some x) (h : Holds Z (rallP (L.set i x) :: F) H) : Holds Z (rallP L :: F) H := by
  rw [set_same hy] at h; exact h
theorem rall_add {x : Rx} (h : Holds Z (roP x :: rallP L :: F) H) : Holds Z (rallP (L ++ [x]) :: F) H := by
  unfold rallP
  rw [List.map_append]
  exact Holds.star_add h
/-- A value denotes an object. -/
def denB (st : Hst) (v : Vl) : Bool := (hfind st v).isSome
theorem den_zero (hi : HInv st) {v : Vl} (h : v.kind = 0) : denB st v = false := by
  unfold denB
  cases hf : hfind st v with
  | none => rfl
  | some o =>
    obtain ⟨h1, h2⟩ := hfind_some hf
    have := (hi.obs o (get_mem h1).1).kind
    rw [h2, h] at this; cases this
theorem den_none {v : Vl} (h : st.get v.ref = none) : denB st v = false := by unfold denB; rw [hfind_none h]; rfl
theorem get_low {id : Int} (h : ¬ 1 ≤ id) : st.get id = none := by unfold Hst.get; rw [if_neg h]
theorem get_high {id : Int} (h : (st.objs.length : Int) < id) : st.get id = none := by unfold Hst.get; rw [if_pos (by omega), List.getElem?_eq_none (by omega)]; rfl
theorem den_kind {v : Vl} (h : st.get v.ref = some o) (hk : o.kind ≠ v.kind) : denB st v = false := by unfold denB; rw [hfind_kind h hk]; rfl
theorem den_yes (hi : HInv st) {v : Vl} (h : st.get v.ref = some o) (hk : o.kind = v.kind) : isRef v.kind = denB st v := by
  unfold denB; rw [hfind_is h hk, ← hk]; exact (hi.obs o (get_mem h).1).kind
theorem is_cases (st : Hst) (v : Vl) (k : Int) : ((denB st v && decide (v.kind = k)) = false ∧ (hfind st v = none ∨ v.kind ≠ k)) ∨ ∃ o, (denB st v && decide (v.kind = k)) = true ∧ hfind st v = some o ∧ st.get v.ref = some o ∧ o.kind = v.kind ∧ v.kind = k := by
  unfold denB
  cases hf : hfind st v with
  | none => exact .inl ⟨rfl, .inl rfl⟩
  | some o =>
    obtain ⟨h1, h2⟩ := hfind_some hf
    by_cases hk : v.kind = k
    · exact .inr ⟨o, by simp [hk], rfl, h1, h2, hk⟩
    · exact .inl ⟨by simp [hk], .inr hk⟩
theorem tabE_cases (st : Hst) (v : Vl) : (htab st v = none ∧ hgetE st v = 8) ∨ ∃ o, htab st v = some o.tab ∧ st.get v.ref = some o ∧ o.kind = 4 ∧ v.kind = 4 ∧ hgetE st v = 0 := by
  cases ht : htab st v with
  | none => exact .inl ⟨rfl, hgetE_none ht⟩
  | some T =>
    obtain ⟨o, _, h1, h2, h3, h4⟩ := htab_some ht
    exact .inr ⟨o, by rw [h4], h1, h2, h3, hgetE_some ht⟩
theorem tab_of_is {v : Vl} (h : (denB st v && decide (v.kind = 4)) = false) : hgetE st v = 8 := by
  refine hgetE_none ?_
  cases hf : hfind st v with
  | none => exact htab_none hf
  | some o =>
    unfold denB at h
    rw [hf] at h
    simp at h
    exact htab_not hf (by rw [(hfind_some hf).2]; exact h)
theorem tab_of_is2 {v : Vl} (h : hfind st v = some o) (hk : o.kind = v.kind) (h4 : v.kind = 4) : hgetE st v = 0 := hgetE_some (htab_is h (by omega))
end
theorem rref_s {Z : Zone} (v : Vl) : SF Try.prog 123 #[v.v] Z [] fun r Bs => r = .bool (isRef v.kind) ∧ Bs = [] := by
 refine sf_enter Try.func123 21 [(0, .agg #[.int .i64 v.kind, .int .i64 v.p, .int .i64 v.q, .string v.str, .int .i64 v.ref])] (fun w0 => ?_)
 refine k_sr ?_
 refine s_box #[.int .i64 v.kind, .int .i64 v.p, .int .i64 v.q, .string v.str, .int .i64 v.ref] (fun g1 => ?_)
 refine sp (.bool false) ?_
 refine s_nr ?_
 refine sp (pB g1 0) ?_
 refine s_lt (t_load 0 (.int .i64 v.kind)) ?_
 refine s_lt t_cmp ?_
 refine sp (.bool (decide (v.kind = 4))) ?_
 refine s_fork 6 (decide (v.kind = 4)) (fun c2 => ?_) (fun c2 => ?_)
 ·
  have p3 := of_decide_eq_true c2
  refine s_skip ?_
  refine s_skip ?_
  refine s_skip ?_
  refine sp (.bool true) ?_
  refine sp (.bool true) ?_
  refine s_skip ?_
  refine s_skip ?_
  refine s_skip ?_
  refine sp (.bool true) ?_
  refine sp (.bool true) ?_
  refine s_skip ?_
  refine s_skip ?_
  refine s_skip ?_
  refine sp (.bool true) ?_
  refine sp (.bool true) ?_
  refine s_nt ?_
  refine k_ret ?_
  refine xs_fin [.bool true] [] (SI.tmp 2 SI.nil) (fun _ h => h.re [] [0]) ⟨congrArg Value.bool ?_, rfl⟩
  unfold isRef; simp [c2, p3]
 ·
  have p4 := of_decide_eq_false c2
  refine sp (pB g1 0) ?_
  refine s_lt (t_load 0 (.int .i64 v.kind)) ?_
  refine s_lt t_cmp ?_
  refine sp (.bool (decide (v.kind = 5))) ?_
  refine sp (.bool (decide (v.kind = 5))) ?_
  refine s_fork 11 (decide (v.kind = 5)) (fun c5 => ?_) (fun c5 => ?_)
  ·
   have p6 := of_decide_eq_true c5
   refine s_skip ?_
   refine s_skip ?_
   refine s_skip ?_
   refine sp (.bool true) ?_
   refine sp (.bool true) ?_
   refine s_skip ?_
   refine s_skip ?_
   refine s_skip ?_
   refine sp (.bool true) ?_
   refine sp (.bool true) ?_
   refine s_nt ?_
   refine k_ret ?_
   refine xs_fin [.bool true] [] (SI.tmp 2 SI.nil) (fun _ h => h.re [] [0]) ⟨congrArg Value.bool ?_, rfl⟩
   unfold isRef; simp [c2, c5, p4, p6]
  ·
   have p7 := of_decide_eq_false c5
   refine sp (pB g1 0) ?_
   refine s_lt (t_load 0 (.int .i64 v.kind)) ?_
   refine s_lt t_cmp ?_
   refine sp (.bool (decide (v.kind = 7))) ?_
   refine sp (.bool (decide (v.kind = 7))) ?_
   refine s_fork 16 (decide (v.kind = 7)) (fun c8 => ?_) (fun c8 => ?_)
   ·
    have p9 := of_decide_eq_true c8
    refine s_skip ?_
    refine s_skip ?_
    refine s_skip ?_
    refine sp (.bool true) ?_
    refine sp (.bool true) ?_
    refine s_nt ?_
    refine k_ret ?_
    refine xs_fin [.bool true] [] (SI.tmp 2 SI.nil) (fun _ h => h.re [] [0]) ⟨congrArg Value.bool ?_, rfl⟩
    unfold isRef; simp [c2, c5, c8, p4, p7, p9]
   ·
    have p10 := of_decide_eq_false c8
    refine sp (pB g1 0) ?_
    refine s_lt (t_load 0 (.int .i64 v.kind)) ?_
    refine s_lt t_cmp ?_
    refine sp (.bool (decide (v.kind = 8))) ?_
    refine sp (.bool (decide (v.kind = 8))) ?_
    refine s_nt ?_
    refine k_ret ?_
    refine xs_fin [.bool (decide (v.kind = 8))] [] (SI.tmp 2 SI.nil) (fun _ h => h.re [] [0]) ⟨congrArg Value.bool ?_, rfl⟩
    unfold isRef; simp [c2, c5, c8, p4, p7, p10]
theorem rden_s {Z : Zone} {F : List Asr} {b : Nat} {st : Hst} (hl : st.objs.length ≤ 1000000) (v : Vl) : SF Try.prog 109 #[.pointer (some ⟨b, 0, none⟩), v.v] Z (rhA b st :: F) fun r Bs => r = .bool (denB st v) ∧ Bs = rhA b st :: F := by
 refine sf_enter Try.func109 46 [(0, pB b 0), (1, .agg #[.int .i64 v.kind, .int .i64 v.p, .int .i64 v.q, .string v.str, .int .i64 v.ref])] (fun w0 => ?_)
 refine k_fact (fun H h => rh_inv (h.re [0] [])) (fun hi0 => ?_)
 refine k_sr ?_
 refine s_box #[.int .i64 v.kind, .int .i64 v.p, .int .i64 v.q, .string v.str, .int .i64 v.ref] (fun g1 => ?_)
 refine sp (.bool false) ?_
 refine s_nt ?_
 refine k_seq ?_
 refine k_draw ?_
 refine sp (pB b 0) ?_
 refine sp (.bool true) ?_
 refine sp (.bool true) ?_
 refine sp (pB g1 0) ?_
 refine s_lt (t_load 0 (.int .i64 v.kind)) ?_
 refine s_lt t_cmp ?_
 refine sp (.bool (decide (v.kind ≠ 0))) ?_
 refine sp (.bool (decide (v.kind ≠ 0))) ?_
 refine s_fork 12 (decide (v.kind ≠ 0)) (fun c2 => ?_) (fun c2 => ?_)
 ·
  have p3 := of_decide_eq_true c2
  refine sp (pB g1 4) ?_
  refine s_lt (t_load 0 (.int .i64 v.ref)) ?_
  refine s_lt t_cmp ?_
  refine sp (.bool (decide ((1 : Int) ≤ v.ref))) ?_
  refine sp (.bool (decide ((1 : Int) ≤ v.ref))) ?_
  refine s_fork 17 (decide ((1 : Int) ≤ v.ref)) (fun c4 => ?_) (fun c4 => ?_)
  ·
   have p5 := of_decide_eq_true c4
   refine sp (pB g1 4) ?_
   refine s_lt (t_load 0 (.int .i64 v.ref)) ?_
   refine sp (pB b 0) ?_
   refine sp (pB b 0) ?_
   refine sp (pB b 0) ?_
   refine s_mem3 (fun H h => rh_open (h.re [1] [])) (fun v6 tv7 L8 hw => ?_)
   obtain ⟨hi9, hL10⟩ := hw
   have hln11 := rx_len hL10
   have htl12 := hi9.tch
   refine s_lt (t_load 0 v6) ?_
   refine s_fact (fun H h => ((Acc.own (T := RxT) (L := L8) 1 rfl) H h).form) (fun hf13 => ?_)
   refine s_lt (t_len RxT_ok Try.underlying96 (.own 1)) ?_
   refine s_lt t_cmp ?_
   refine sp (.bool (decide (v.ref ≤ (L8.length : Int)))) ?_
   refine sp (.bool (decide (v.ref ≤ (L8.length : Int)))) ?_
   refine s_fork 27 (decide (v.ref ≤ (L8.length : Int))) (fun c14 => ?_) (fun c14 => ?_)
   ·
    have p15 := of_decide_eq_true c14
    refine sp (pB b 0) ?_
    refine sp (pB b 0) ?_
    refine sp (pB b 0) ?_
    refine s_lt (t_load 0 v6) ?_
    refine sp (pB g1 4) ?_
    refine s_lt (t_load 4 (.int .i64 v.ref)) ?_
    refine s_lt (t_sub v.ref 1 (by (try simp only [lnm]); omega)) ?_
    refine s_lt (t_index RxT_ok Try.underlying96 (.own 1) (v.ref - 1) (((v.ref - 1)).toNat) (by omega) (by (try simp only [lnm]); omega) (by omega)) ?_
    refine sp (.pointer (some (elemAt RxT.size v6 (((v.ref - 1)).toNat)))) ?_
    rcases rx_cases hL10 (by omega : 1 ≤ v.ref) (by omega) with ⟨tp16, uv17, rv18, hy19, hg20⟩ | ⟨o21, tp22, uv23, rv24, hy25, hg26⟩
    ·
     refine s_lt (t_loadF 0 RxT_ok (.own 1) hy19) ?_
     refine sp (pB g1 0) ?_
     refine s_lt (t_load 4 (.int .i64 v.kind)) ?_
     refine s_lt t_cmp ?_
     refine sp (.bool (decide ((0 : Int) = v.kind))) ?_
     refine sp (.bool (decide ((0 : Int) = v.kind))) ?_
     refine s_fork 42 (decide ((0 : Int) = v.kind)) (fun c27 => ?_) (fun c27 => ?_)
     ·
      have p28 := of_decide_eq_true c27
      refine s_lt (t_loadA 4 #[.int .i64 v.kind, .int .i64 v.p, .int .i64 v.q, .string v.str, .int .i64 v.ref]) ?_
      refine s_vcall (fun _ h => rref_s v) ?_
      rintro _ rfl
      refine sp (.bool (isRef v.kind)) ?_
      refine sp (.bool (isRef v.kind)) ?_
      refine s_nil ?_
      refine x_dynS (fun _ h => by obtain ⟨_, _, e⟩ := hf13; subst e; kernel_rfl) ?_
      refine xs_then ?_
      refine k_ret ?_
      refine xs_mem (fun _ h => rh_shut (st := st) (n := (st.count : Int)) (T := st.tch) ⟨⟨⟨hi9, hL10⟩, rfl⟩, rfl⟩ (h.re [0, 0, 0, 0] [])) ?_
      refine xs_fin [.bool (isRef v.kind)] (rhA b st :: F) (SI.tmp 4 SI.nil) (fun _ h => h.re [0] [1]) ⟨congrArg Value.bool ?_, rfl⟩
      exfalso; omega
     ·
      have p29 := of_decide_eq_false c27
      refine s_skip ?_
      refine s_skip ?_
      refine sp (.bool false) ?_
      refine sp (.bool false) ?_
      refine s_nil ?_
      refine x_dynS (fun _ h => by obtain ⟨_, _, e⟩ := hf13; subst e; kernel_rfl) ?_
      refine xs_then ?_
      refine k_ret ?_
      refine xs_mem (fun _ h => rh_shut (st := st) (n := (st.count : Int)) (T := st.tch) ⟨⟨⟨hi9, hL10⟩, rfl⟩, rfl⟩ (h.re [0, 0, 0, 0] [])) ?_
      refine xs_fin [.bool false] (rhA b st :: F) (SI.tmp 4 SI.nil) (fun _ h => h.re [0] [1]) ⟨congrArg Value.bool ?_, rfl⟩
      exact (den_none hg20).symm
    ·
     refine s_lt (t_loadF 0 RxT_ok (.own 1) hy25) ?_
     refine sp (pB g1 0) ?_
     refine s_lt (t_load 4 (.int .i64 v.kind)) ?_
     refine s_lt t_cmp ?_
     refine sp (.bool (decide (o21.kind = v.kind))) ?_
     refine sp (.bool (decide (o21.kind = v.kind))) ?_
     refine s_fork 42 (decide (o21.kind = v.kind)) (fun c30 => ?_) (fun c30 => ?_)
     ·
      have p31 := of_decide_eq_true c30
      refine s_lt (t_loadA 4 #[.int .i64 v.kind, .int .i64 v.p, .int .i64 v.q, .string v.str, .int .i64 v.ref]) ?_
      refine s_vcall (fun _ h => rref_s v) ?_
      rintro _ rfl
      refine sp (.bool (isRef v.kind)) ?_
      refine sp (.bool (isRef v.kind)) ?_
      refine s_nil ?_
      refine x_dynS (fun _ h => by obtain ⟨_, _, e⟩ := hf13; subst e; kernel_rfl) ?_
      refine xs_then ?_
      refine k_ret ?_
      refine xs_mem (fun _ h => rh_shut (st := st) (n := (st.count : Int)) (T := st.tch) ⟨⟨⟨hi9, hL10⟩, rfl⟩, rfl⟩ (h.re [0, 0, 0, 0] [])) ?_
      refine xs_fin [.bool (isRef v.kind)] (rhA b st :: F) (SI.tmp 4 SI.nil) (fun _ h => h.re [0] [1]) ⟨congrArg Value.bool ?_, rfl⟩
      exact den_yes hi0 hg26 (by omega)
     ·
      have p32 := of_decide_eq_false c30
      refine s_skip ?_
      refine s_skip ?_
      refine sp (.bool false) ?_
      refine sp (.bool false) ?_
      refine s_nil ?_
      refine x_dynS (fun _ h => by obtain ⟨_, _, e⟩ := hf13; subst e; kernel_rfl) ?_
      refine xs_then ?_
      refine k_ret ?_
      refine xs_mem (fun _ h => rh_shut (st := st) (n := (st.count : Int)) (T := st.tch) ⟨⟨⟨hi9, hL10⟩, rfl⟩, rfl⟩ (h.re [0, 0, 0, 0] [])) ?_
      refine xs_fin [.bool false] (rhA b st :: F) (SI.tmp 4 SI.nil) (fun _ h => h.re [0] [1]) ⟨congrArg Value.bool ?_, rfl⟩
      exact (den_kind hg26 (by omega)).symm
   ·
    have p33 := of_decide_eq_false c14
    refine s_skip ?_
    refine s_skip ?_
    refine s_skip ?_
    refine s_skip ?_
    refine s_skip ?_
    refine s_skip ?_
    refine s_skip ?_
    refine s_skip ?_
    refine s_skip ?_
    refine s_skip ?_
    refine s_skip ?_
    refine s_skip ?_
    refine s_skip ?_
    refine sp (.bool false) ?_
    refine sp (.bool false) ?_
    refine s_skip ?_
    refine s_skip ?_
    refine sp (.bool false) ?_
    refine sp (.bool false) ?_
    refine s_nil ?_
    refine x_dynS (fun _ h => by obtain ⟨_, _, e⟩ := hf13; subst e; kernel_rfl) ?_
    refine xs_then ?_
    refine k_ret ?_
    refine xs_mem (fun _ h => rh_shut (st := st) (n := (st.count : Int)) (T := st.tch) ⟨⟨⟨hi9, hL10⟩, rfl⟩, rfl⟩ (h.re [0, 0, 0, 0] [])) ?_
    refine xs_fin [.bool false] (rhA b st :: F) (SI.tmp 4 SI.nil) (fun _ h => h.re [0] [1]) ⟨congrArg Value.bool ?_, rfl⟩
    first | exact (den_zero hi0 (by omega)).symm | exact (den_none (get_low (by omega))).symm | exact (den_none (get_high (by omega))).symm
  ·
   have p34 := of_decide_eq_false c4
   refine s_skip ?_
   refine s_skip ?_
   refine s_skip ?_
   refine s_skip ?_
   refine s_skip ?_
   refine s_skip ?_
   refine s_skip ?_
   refine s_skip ?_
   refine sp (.bool false) ?_
   refine sp (.bool false) ?_
   refine s_skip ?_
   refine s_skip ?_
   refine s_skip ?_
   refine s_skip ?_
   refine s_skip ?_
   refine s_skip ?_
   refine s_skip ?_
   refine s_skip ?_
   refine s_skip ?_
   refine s_skip ?_
   refine s_skip ?_
   refine s_skip ?_
   refine s_skip ?_
   refine sp (.bool false) ?_
   refine sp (.bool false) ?_
   refine s_skip ?_
   refine s_skip ?_
   refine sp (.bool false) ?_
   refine sp (.bool false) ?_
   refine s_nil ?_
   refine x_dynS (fun _ h => by kernel_rfl) ?_
   refine xs_then ?_
   refine k_ret ?_
   refine xs_fin [.bool false] (rhA b st :: F) (SI.tmp 4 SI.nil) (fun _ h => h.re [1] [1]) ⟨congrArg Value.bool ?_, rfl⟩
   first | exact (den_zero hi0 (by omega)).symm | exact (den_none (get_low (by omega))).symm | exact (den_none (get_high (by omega))).symm
 ·
  have p35 := Decidable.not_not.1 (of_decide_eq_false c2)
  refine s_skip ?_
  refine s_skip ?_
  refine s_skip ?_
  refine sp (.bool false) ?_
  refine sp (.bool false) ?_
  refine s_skip ?_
  refine s_skip ?_
  refine s_skip ?_
  refine s_skip ?_
  refine s_skip ?_
  refine s_skip ?_
  refine s_skip ?_
  refine s_skip ?_
  refine sp (.bool false) ?_
  refine sp (.bool false) ?_
  refine s_skip ?_
  refine s_skip ?_
  refine s_skip ?_
  refine s_skip ?_
  refine s_skip ?_
  refine s_skip ?_
  refine s_skip ?_
  refine s_skip ?_
  refine s_skip ?_
  refine s_skip ?_
  refine s_skip ?_
  refine s_skip ?_
  refine s_skip ?_
  refine sp (.bool false) ?_
  refine sp (.bool false) ?_
  refine s_skip ?_
  refine s_skip ?_
  refine sp (.bool false) ?_
  refine sp (.bool false) ?_
  refine s_nil ?_
  refine x_dynS (fun _ h => by kernel_rfl) ?_
  refine xs_then ?_
  refine k_ret ?_
  refine xs_fin [.bool false] (rhA b st :: F) (SI.tmp 4 SI.nil) (fun _ h => h.re [1] [1]) ⟨congrArg Value.bool ?_, rfl⟩
  first | exact (den_zero hi0 (by omega)).symm | exact (den_none (get_low (by omega))).symm | exact (den_none (get_high (by omega))).symm
theorem ris_s {Z : Zone} {F : List Asr} {b : Nat} {st : Hst} (hl : st.objs.length ≤ 1000000) (v : Vl) (k : Int) : SF Try.prog 89 #[.pointer (some ⟨b, 0, none⟩), v.v, .int .i64 k] Z (rhA b st :: F) fun r Bs => r = .bool (denB st v && decide (v.kind = k)) ∧ Bs = rhA b st :: F := by
 refine sf_enter Try.func89 16 [(0, pB b 0), (1, .agg #[.int .i64 v.kind, .int .i64 v.p, .int .i64 v.q, .string v.str, .int .i64 v.ref]), (2, .int .i64 k)] (fun w0 => ?_)
 refine k_sr ?_
 refine s_box #[.int .i64 v.kind, .int .i64 v.p, .int .i64 v.q, .string v.str, .int .i64 v.ref] (fun g1 => ?_)
 refine sp (.bool false) ?_
 refine s_nt ?_
 refine k_cut (ι := Unit) (fun _ => True) (fun _ => [(6, .bool ((denB st v) && (decide (v.kind = k))))]) (fun _ => blkA g1 #[.int .i64 v.kind, .int .i64 v.p, .int .i64 v.q, .string v.str, .int .i64 v.ref] 26 :: rhA b st :: F) ?_ (fun _ _ => ?_)
 ·
  refine k_reg ?_
  refine sp (pB b 0) ?_
  refine s_lt (t_loadA 0 #[.int .i64 v.kind, .int .i64 v.p, .int .i64 v.q, .string v.str, .int .i64 v.ref]) ?_
  refine s_call [1] (rden_s (st := st) (by omega) v) ?_
  rintro _ _ ⟨rfl, rfl⟩
  refine sp (.bool (denB st v)) ?_
  refine s_fork 10 (denB st v) (fun c2 => ?_) (fun c2 => ?_)
  ·
   refine sp (pB g1 0) ?_
   refine s_lt (t_load 1 (.int .i64 v.kind)) ?_
   refine sp (.int .i64 k) ?_
   refine s_lt t_cmp ?_
   refine sp (.bool (decide (v.kind = k))) ?_
   refine sp (.bool (decide (v.kind = k))) ?_
   refine s_nil ?_
   exact xs_cut () trivial (sub_of rfl ⟨⟨rfl, show Value.bool (decide (v.kind = k)) = Value.bool ((denB st v) && (decide (v.kind = k))) by first | (simp only [c2, bls]; done) | simp [c2]⟩, trivial⟩) (fun _ h => h.re [1, 0] [])
  ·
   refine s_skip ?_
   refine s_skip ?_
   refine s_skip ?_
   refine s_skip ?_
   refine sp (.bool false) ?_
   refine sp (.bool false) ?_
   refine s_nil ?_
   exact xs_cut () trivial (sub_of rfl ⟨⟨rfl, show Value.bool false = Value.bool ((denB st v) && (decide (v.kind = k))) by first | (simp only [c2, bls]; done) | simp [c2]⟩, trivial⟩) (fun _ h => h.re [1, 0] [])
 ·
  refine k_ret ?_
  exact xs_fin [.bool ((denB st v) && (decide (v.kind = k)))] (rhA b st :: F) (SI.tmp 6 SI.nil) (fun _ h => h.re [1] [1]) ⟨rfl, rfl⟩
theorem rtab_s {Z : Zone} {F : List Asr} {b : Nat} {st : Hst} (hl : st.objs.length ≤ 1000000) (v : Vl) : SF Try.prog 71 #[.pointer (some ⟨b, 0, none⟩), v.v] Z (rhA b st :: F) fun r Bs => r = .int .i64 (hgetE st v) ∧ Bs = rhA b st :: F := by
 refine sf_enter Try.func71 11 [(0, pB b 0), (1, .agg #[.int .i64 v.kind, .int .i64 v.p, .int .i64 v.q, .string v.str, .int .i64 v.ref])] (fun w0 => ?_)
 refine k_sr ?_
 refine s_box #[.int .i64 v.kind, .int .i64 v.p, .int .i64 v.q, .string v.str, .int .i64 v.ref] (fun g1 => ?_)
 refine sp (.int .i64 0) ?_
 refine s_nt ?_
 refine k_seq ?_
 refine k_sr ?_
 refine sp (pB b 0) ?_
 refine sp (.bool false) ?_
 refine s_nt ?_
 refine k_false ?_
 refine k_st ?_
 refine k_seq ?_
 refine k_sr ?_
 refine sp (pB b 0) ?_
 refine s_lt (t_loadA 0 #[.int .i64 v.kind, .int .i64 v.p, .int .i64 v.q, .string v.str, .int .i64 v.ref]) ?_
 refine s_call [1] (ris_s (st := st) (by omega) v 4) ?_
 rintro u2 _ ⟨e3, rfl⟩
 rcases is_cases st v 4 with ⟨hb4, hn5⟩ | ⟨o6, hb7, hf8, ho9, hk10, hv11⟩
 ·
  rw [hb4] at e3; subst e3
  refine sp (.bool true) ?_
  refine s_nt ?_
  refine k_true ?_
  refine k_sr ?_
  refine sp (.int .i64 8) ?_
  refine s_nt ?_
  refine k_ret ?_
  refine xs_ret ?_
  refine xs_fin [.int .i64 8] (rhA b st :: F) (SI.tmp 4 SI.nil) (fun _ h => h.re [0] [1]) ⟨congrArg (Value.int .i64) ?_, rfl⟩
  exact (tab_of_is hb4).symm
 ·
  rw [hb7] at e3; subst e3
  have hgm12 := get_mem ho9
  refine sp (.bool false) ?_
  refine s_nt ?_
  refine k_false ?_
  refine k_st ?_
  refine k_sr ?_
  refine sp (.int .i64 0) ?_
  refine s_nt ?_
  refine k_ret ?_
  refine xs_fin [.int .i64 0] (rhA b st :: F) (SI.tmp 4 SI.nil) (fun _ h => h.re [0] [1]) ⟨congrArg (Value.int .i64) ?_, rfl⟩
  exact (tab_of_is2 hf8 hk10 hv11).symm
theorem rhget_s {Z : Zone} {F : List Asr} {b : Nat} {st : Hst} {n : Nat} (hsm : HSm n st) (hn : n ≤ 300) (t k : Vl) : SF Try.prog 25 #[.pointer (some ⟨b, 0, none⟩), t.v, k.v] Z (rhA b st :: F) fun r Bs => r = pairV (hgetV st t k) (hgetE st t) ∧ Bs = rhA b st :: F := by
 refine sf_enter Try.func25 28 [(0, pB b 0), (1, .agg #[.int .i64 t.kind, .int .i64 t.p, .int .i64 t.q, .string t.str, .int .i64 t.ref]), (2, .agg #[.int .i64 k.kind, .int .i64 k.p, .int .i64 k.q, .string k.str, .int .i64 k.ref])] (fun w0 => ?_)
 have hlen0 := hsm.len
 refine k_fact (fun H h => rh_inv (h.re [0] [])) (fun hi0 => ?_)
 refine k_sr ?_
 refine s_box #[.int .i64 t.kind, .int .i64 t.p, .int .i64 t.q, .string t.str, .int .i64 t.ref] (fun g1 => ?_)
 refine s_box #[.int .i64 k.kind, .int .i64 k.p, .int .i64 k.q, .string k.str, .int .i64 k.ref] (fun g2 => ?_)
 refine s_alloc (.agg #[.int .i64 0, .int .i64 0, .int .i64 0, .string ByteArray.empty, .int .i64 0]) #[.int .i64 0, .int .i64 0, .int .i64 0, .string ByteArray.empty, .int .i64 0] (fun g3 => ?_)
 refine sp (.int .i64 0) ?_
 refine s_nr ?_
 refine sp (pB b 0) ?_
 refine s_lt (t_loadA 2 #[.int .i64 t.kind, .int .i64 t.p, .int .i64 t.q, .string t.str, .int .i64 t.ref]) ?_
 refine s_call [3] (rtab_s (st := st) (by omega) t) ?_
 rintro u4 _ ⟨e5, rfl⟩
 rcases tabE_cases st t with ⟨ht6, he7⟩ | ⟨o8, ht9, ho10, hk11, hv12, he13⟩
 ·
  rw [he7] at e5; subst e5
  refine sp (.int .i64 8) ?_
  refine s_nt ?_
  refine k_seq ?_
  refine k_sr ?_
  refine sp (.int .i64 8) ?_
  refine s_lt (t_cmp (c := true)) ?_
  refine s_nt ?_
  refine k_true ?_
  refine k_sr ?_
  refine s_lt (t_kern (.agg #[.int .i64 0, .int .i64 0, .int .i64 0, .string ByteArray.empty, .int .i64 0])) ?_
  refine sp (.int .i64 8) ?_
  refine s_store 1 #[.int .i64 0, .int .i64 0, .int .i64 0, .string ByteArray.empty, .int .i64 0] ?_
  refine sp (.int .i64 8) ?_
  refine s_nt ?_
  refine k_ret ?_
  refine xs_ret ?_
  refine xs_fin [.agg #[.int .i64 0, .int .i64 0, .int .i64 0, .string ByteArray.empty, .int .i64 0], .int .i64 8] (rhA b st :: F) (SI.agg 6 26 1 (SI.tmp 7 SI.nil)) (fun _ h => h.re [0] [1, 1, 1]) ⟨?_, rfl⟩
  rw [hgetV_none ht6, hgetE_none ht6]; rfl
 ·
  rw [he13] at e5; subst e5
  have hgm14 := get_mem ho10
  refine sp (.int .i64 0) ?_
  refine s_nt ?_
  refine k_seq ?_
  refine k_sr ?_
  refine sp (.int .i64 0) ?_
  refine s_lt (t_cmp (c := false)) ?_
  refine s_nt ?_
  refine k_false ?_
  refine k_st ?_
  refine k_seq ?_
  refine k_draw ?_
  refine sp (pB b 0) ?_
  refine sp (pB b 0) ?_
  refine sp (pB b 0) ?_
  refine s_mem3 (fun H h => rh_open (h.re [0] [])) (fun v15 tv16 L17 hw => ?_)
  obtain ⟨hi18, hL19⟩ := hw
  have hln20 := rx_len hL19
  have htl21 := hi18.tch
  refine s_lt (t_load 0 v15) ?_
  refine sp (pB g1 4) ?_
  refine s_lt (t_load 6 (.int .i64 t.ref)) ?_
  refine s_lt (t_sub t.ref 1 (by (try simp only [lnm]); omega)) ?_
  refine s_lt (t_index RxT_ok Try.underlying96 (.own 1) (t.ref - 1) (((t.ref - 1)).toNat) (by omega) (by (try simp only [lnm]); omega) (by omega)) ?_
  refine sp (.pointer (some ((elemAt RxT.size v15 (((t.ref - 1)).toNat)).add 3))) ?_
  obtain ⟨tp22, uv23, rv24, hy25⟩ := rx_get hL19 ho10
  refine s_lt (Lt.to (v' := ptrV tp22) (t_loadF 3 RxT_ok (.own 1) hy25) (tabV_tab hk11)) ?_
  refine s_lt (t_loadA 5 #[.int .i64 k.kind, .int .i64 k.p, .int .i64 k.q, .string k.str, .int .i64 k.ref]) ?_
  refine s_mem (fun _ h => rall_out hy25 (h.re [3] [])) ?_
  refine s_mem (fun _ h => rtO_open hk11 (h.re [2] [])) ?_
  obtain ⟨hl26, hl262, _⟩ := hsm.obs o8 (get_mem ho10).1
  have hl263 : n * (n + 1) ≤ 300 * 301 := Nat.mul_le_mul (by omega) (by omega)
  refine s_call [0] (rtget_s (L := o8.tab.list) (S := o8.tab.rest) (by (try simp only [lnm]); omega) (by (try simp only [lnm]); omega) k) ?_
  rintro _ _ ⟨rfl, rfl⟩
  refine s_store 7 #[.int .i64 ((tget ⟨o8.tab.list, o8.tab.rest⟩ k).kind), .int .i64 ((tget ⟨o8.tab.list, o8.tab.rest⟩ k).p), .int .i64 ((tget ⟨o8.tab.list, o8.tab.rest⟩ k).q), .string ((tget ⟨o8.tab.list, o8.tab.rest⟩ k).str), .int .i64 ((tget ⟨o8.tab.list, o8.tab.rest⟩ k).ref)] ?_
  refine sp (.int .i64 0) ?_
  refine s_nil ?_
  refine x_dynS (fun _ h => by kernel_rfl) ?_
  refine xs_then ?_
  refine k_ret ?_
  refine xs_mem (fun _ h => rtO_shut (o := o8) (T := o8.tab) hk11 (h.re [0] [])) ?_
  refine xs_mem (fun _ h => rall_in (o' := { o8 with tab := o8.tab }) (uv' := uv23) (rv' := rv24) hy25 (h.re [1, 1, 0, 0] [])) ?_
  refine xs_mem (fun _ h => rall_same hy25 h) ?_
  refine xs_mem (fun _ h => rh_shut (st := st) (n := (st.count : Int)) (T := st.tch) ⟨⟨⟨hi18, hL19⟩, rfl⟩, rfl⟩ (h.re [1, 1, 1, 0] [])) ?_
  refine xs_fin [.agg #[.int .i64 ((tget ⟨o8.tab.list, o8.tab.rest⟩ k).kind), .int .i64 ((tget ⟨o8.tab.list, o8.tab.rest⟩ k).p), .int .i64 ((tget ⟨o8.tab.list, o8.tab.rest⟩ k).q), .string ((tget ⟨o8.tab.list, o8.tab.rest⟩ k).str), .int .i64 ((tget ⟨o8.tab.list, o8.tab.rest⟩ k).ref)], .int .i64 0] (rhA b st :: F) (SI.agg 6 26 1 (SI.tmp 7 SI.nil)) (fun _ h => h.re [0] [1, 1, 1]) ⟨?_, rfl⟩
  rw [hgetV_some ht9, hgetE_some ht9]; rfl
theorem relem_s {Z : Zone} (v : Vl) : SF Try.prog 86 #[v.v] Z [] fun r Bs => r = .int .i64 (elemE v) ∧ Bs = [] := by
 refine sf_enter Try.func86 15 [(0, .agg #[.int .i64 v.kind, .int .i64 v.p, .int .i64 v.q, .string v.str, .int .i64 v.ref])] (fun w0 => ?_)
 refine k_sr ?_
 refine s_box #[.int .i64 v.kind, .int .i64 v.p, .int .i64 v.q, .string v.str, .int .i64 v.ref] (fun g1 => ?_)
 refine sp (.int .i64 0) ?_
 refine s_nt ?_
 refine k_seq ?_
 refine k_sr ?_
 refine sp (pB g1 0) ?_
 refine s_lt (t_load 0 (.int .i64 v.kind)) ?_
 refine s_lt t_cmp ?_
 refine sp (.bool (decide (v.kind = 3))) ?_
 refine s_fork 6 (decide (v.kind = 3)) (fun c2 => ?_) (fun c2 => ?_)
 ·
  have p3 := of_decide_eq_true c2
  refine sp (pB g1 3) ?_
  refine s_lt (t_load 0 (.string v.str)) ?_
  refine s_lt (t_kern (.int .i64 (v.str.size : Int))) ?_
  refine s_lt t_cmp ?_
  refine sp (.bool (decide ((4096 : Int) < (v.str.size : Int)))) ?_
  refine s_nt ?_
  refine k_cond (decide ((4096 : Int) < (v.str.size : Int))) (fun c4 => ?_) (fun c4 => ?_)
  ·
   have p5 := of_decide_eq_true c4
   refine k_sr ?_
   refine sp (.int .i64 14) ?_
   refine s_nt ?_
   refine k_ret ?_
   refine xs_ret ?_
   refine xs_fin [.int .i64 14] [] (SI.tmp 2 SI.nil) (fun _ h => h.re [] [0]) ⟨congrArg (Value.int .i64) ?_, rfl⟩
   unfold elemE; simp [c2, c4, p3, p5]
  ·
   have p6 := of_decide_eq_false c4
   refine k_st ?_
   refine k_seq ?_
   refine k_sr ?_
   refine s_lt (t_loadA 0 #[.int .i64 v.kind, .int .i64 v.p, .int .i64 v.q, .string v.str, .int .i64 v.ref]) ?_
   refine s_vcall (fun _ h => rvalid_s v) ?_
   rintro _ rfl
   refine sp (.bool (!(validB v))) ?_
   refine s_nt ?_
   refine k_cond (!(validB v)) (fun c7 => ?_) (fun c7 => ?_)
   ·
    have c8 := not_t c7
    refine k_sr ?_
    refine sp (.int .i64 2) ?_
    refine s_nt ?_
    refine k_ret ?_
    refine xs_ret ?_
    refine xs_fin [.int .i64 2] [] (SI.tmp 2 SI.nil) (fun _ h => h.re [] [0]) ⟨congrArg (Value.int .i64) ?_, rfl⟩
    unfold elemE; simp [c2, c4, c7, p3, p6, c8]
   ·
    have c9 := not_f c7
    refine k_st ?_
    refine k_sr ?_
    refine sp (.int .i64 0) ?_
    refine s_nt ?_
    refine k_ret ?_
    refine xs_fin [.int .i64 0] [] (SI.tmp 2 SI.nil) (fun _ h => h.re [] [0]) ⟨congrArg (Value.int .i64) ?_, rfl⟩
    unfold elemE; simp [c2, c4, c7, p3, p6, c9]
 ·
  have p10 := of_decide_eq_false c2
  refine s_skip ?_
  refine s_skip ?_
  refine s_skip ?_
  refine s_skip ?_
  refine sp (.bool false) ?_
  refine s_nt ?_
  refine k_false ?_
  refine k_st ?_
  refine k_seq ?_
  refine k_sr ?_
  refine s_lt (t_loadA 0 #[.int .i64 v.kind, .int .i64 v.p, .int .i64 v.q, .string v.str, .int .i64 v.ref]) ?_
  refine s_vcall (fun _ h => rvalid_s v) ?_
  rintro _ rfl
  refine sp (.bool (!(validB v))) ?_
  refine s_nt ?_
  refine k_cond (!(validB v)) (fun c11 => ?_) (fun c11 => ?_)
  ·
   have c12 := not_t c11
   refine k_sr ?_
   refine sp (.int .i64 2) ?_
   refine s_nt ?_
   refine k_ret ?_
   refine xs_ret ?_
   refine xs_fin [.int .i64 2] [] (SI.tmp 2 SI.nil) (fun _ h => h.re [] [0]) ⟨congrArg (Value.int .i64) ?_, rfl⟩
   unfold elemE; simp [c2, c11, p10, c12]
  ·
   have c13 := not_f c11
   refine k_st ?_
   refine k_sr ?_
   refine sp (.int .i64 0) ?_
   refine s_nt ?_
   refine k_ret ?_
   refine xs_fin [.int .i64 0] [] (SI.tmp 2 SI.nil) (fun _ h => h.re [] [0]) ⟨congrArg (Value.int .i64) ?_, rfl⟩
   unfold elemE; simp [c2, c11, p10, c13]
theorem rtouch_s {Z : Zone} {F : List Asr} {b : Nat} {vv tv : Value} {m : Int} {T : List Bool} (v : Vl) (h1 : 1 ≤ v.ref) (h2 : v.ref ≤ (T.length : Int)) (hl : T.length ≤ 1000000) (e : Int) : SF Try.prog 87 #[.pointer (some ⟨b, 0, none⟩), v.v, .int .i64 e] Z (blkA b #[vv, .int .i64 m, tv] 99 :: own bTy tv T :: F) fun r Bs => r = .int .i64 e ∧ Bs = (if e = 0 then blkA b #[vv, .int .i64 m, tv] 99 :: own bTy tv (T.set ((v.ref - 1)).toNat true) :: F else blkA b #[vv, .int .i64 m, tv] 99 :: own bTy tv T :: F) := by
 refine sf_enter Try.func87 18 [(0, pB b 0), (1, .agg #[.int .i64 v.kind, .int .i64 v.p, .int .i64 v.q, .string v.str, .int .i64 v.ref]), (2, .int .i64 e)] (fun w0 => ?_)
 refine k_sr ?_
 refine s_box #[.int .i64 v.kind, .int .i64 v.p, .int .i64 v.q, .string v.str, .int .i64 v.ref] (fun g1 => ?_)
 refine sp (.int .i64 0) ?_
 refine s_nt ?_
 refine k_seq ?_
 refine k_sr ?_
 refine sp (.int .i64 e) ?_
 refine s_lt t_cmp ?_
 refine s_nt ?_
 refine k_cond (decide (e = 0)) (fun c2 => ?_) (fun c2 => ?_)
 ·
  have p3 := of_decide_eq_true c2
  refine k_draw ?_
  refine sp (pB b 0) ?_
  refine sp (pB b 0) ?_
  refine sp (pB b 2) ?_
  refine s_lt (t_load 1 tv) ?_
  refine sp (pB g1 4) ?_
  refine s_lt (t_load 0 (.int .i64 v.ref)) ?_
  refine s_lt (t_sub v.ref 1 (by (try simp only [lnm]); omega)) ?_
  refine s_lt (t_index bTy_ok Try.underlying97 (.own 2) (v.ref - 1) (((v.ref - 1)).toNat) (by omega) (by (try simp only [lnm]); omega) (by omega)) ?_
  obtain ⟨y4, hy5⟩ : ∃ y, T[((v.ref - 1)).toNat]? = some y := ⟨_, List.getElem?_eq_getElem (by (try simp only [lnm]); omega)⟩
  refine s_storeE 2 0 true bTy_ok hy5 ?_
  refine s_nil ?_
  refine x_dynS (fun _ h => by kernel_rfl) ?_
  refine xs_then ?_
  refine k_sr ?_
  refine sp (.int .i64 e) ?_
  refine sp (.int .i64 e) ?_
  refine s_nt ?_
  refine k_ret ?_
  rw [if_pos (of_decide_eq_true c2)]
  exact xs_fin [.int .i64 e] (blkA b #[vv, .int .i64 m, tv] 99 :: own bTy tv (T.set (((v.ref - 1)).toNat) true) :: F) (SI.tmp 6 SI.nil) (fun _ h => h.re [1, 1] [2]) ⟨rfl, rfl⟩
 ·
  have p6 := of_decide_eq_false c2
  refine k_st ?_
  refine k_sr ?_
  refine sp (.int .i64 e) ?_
  refine sp (.int .i64 e) ?_
  refine s_nt ?_
  refine k_ret ?_
  rw [if_neg (of_decide_eq_false c2)]
  exact xs_fin [.int .i64 e] (blkA b #[vv, .int .i64 m, tv] 99 :: own bTy tv T :: F) (SI.tmp 6 SI.nil) (fun _ h => h.re [1, 1] [2]) ⟨rfl, rfl⟩
theorem rhset_s {Z : Zone} {F : List Asr} {b : Nat} {st : Hst} {n : Nat} (hsm : HSm n st) (hn : n ≤ 300) (t k x : Vl) : SF Try.prog 44 #[.pointer (some ⟨b, 0, none⟩), t.v, k.v, x.v] Z (rhA b st :: F) fun r Bs => r = .int .i64 (hsetE st t k x) ∧ Bs = rhA b (hset st t k x) :: F := by
 refine sf_enter Try.func44 45 [(0, pB b 0), (1, .agg #[.int .i64 t.kind, .int .i64 t.p, .int .i64 t.q, .string t.str, .int .i64 t.ref]), (2, .agg #[.int .i64 k.kind, .int .i64 k.p, .int .i64 k.q, .string k.str, .int .i64 k.ref]), (3, .agg #[.int .i64 x.kind, .int .i64 x.p, .int .i64 x.q, .string x.str, .int .i64 x.ref])] (fun w0 => ?_)
 have hlen0 := hsm.len
 refine k_fact (fun H h => rh_inv (h.re [0] [])) (fun hi0 => ?_)
 refine k_sr ?_
 refine s_box #[.int .i64 t.kind, .int .i64 t.p, .int .i64 t.q, .string t.str, .int .i64 t.ref] (fun g1 => ?_)
 refine s_box #[.int .i64 k.kind, .int .i64 k.p, .int .i64 k.q, .string k.str, .int .i64 k.ref] (fun g2 => ?_)
 refine s_box #[.int .i64 x.kind, .int .i64 x.p, .int .i64 x.q, .string x.str, .int .i64 x.ref] (fun g3 => ?_)
 refine sp (.int .i64 0) ?_
 refine s_nr ?_
 refine sp (pB b 0) ?_
 refine s_lt (t_loadA 2 #[.int .i64 t.kind, .int .i64 t.p, .int .i64 t.q, .string t.str, .int .i64 t.ref]) ?_
 refine s_call [3] (rtab_s (st := st) (by omega) t) ?_
 rintro u4 _ ⟨e5, rfl⟩
 rcases tabE_cases st t with ⟨ht6, he7⟩ | ⟨o8, ht9, ho10, hk11, hv12, he13⟩
 ·
  rw [he7] at e5; subst e5
  refine sp (.int .i64 8) ?_
  refine s_nt ?_
  refine k_seq ?_
  refine k_sr ?_
  refine sp (.int .i64 8) ?_
  refine s_lt (t_cmp (c := true)) ?_
  refine s_nt ?_
  refine k_true ?_
  refine k_sr ?_
  refine sp (.int .i64 8) ?_
  refine sp (.int .i64 8) ?_
  refine s_nt ?_
  refine k_ret ?_
  refine xs_ret ?_
  have hp := hset_none (k := k) (v := x) ht6
  refine xs_fin [.int .i64 8] (rhA b st :: F) (SI.tmp 8 SI.nil) (fun _ h => h.re [0] [1, 1, 1]) ⟨?_, ?_⟩
  · rw [hp.2]; exact congrArg (Value.int .i64) (by first | rfl | exact tsetE_ok hk hv0)
  · rw [hp.1]
 ·
  rw [he13] at e5; subst e5
  have hgm14 := get_mem ho10
  refine sp (.int .i64 0) ?_
  refine s_nt ?_
  refine k_seq ?_
  refine k_sr ?_
  refine sp (.int .i64 0) ?_
  refine s_lt (t_cmp (c := false)) ?_
  refine s_nt ?_
  refine k_false ?_
  refine k_st ?_
  refine k_seq ?_
  refine k_cut (ι := Unit) (fun _ => True) (fun _ => [(0, pB b 0), (5, pB g1 0), (6, pB g2 0), (7, pB g3 0), (23, .bool ((decide (k.kind = 0)) || (!(validB k))))]) (fun _ => rhA b st :: blkA g3 #[.int .i64 x.kind, .int .i64 x.p, .int .i64 x.q, .string x.str, .int .i64 x.ref] 26 :: blkA g2 #[.int .i64 k.kind, .int .i64 k.p, .int .i64 k.q, .string k.str, .int .i64 k.ref] 26 :: blkA g1 #[.int .i64 t.kind, .int .i64 t.p, .int .i64 t.q, .string t.str, .int .i64 t.ref] 26 :: F) ?_ (fun _ _ => ?_)
  ·
   refine k_reg ?_
   refine sp (pB g2 0) ?_
   refine s_lt (t_load 2 (.int .i64 k.kind)) ?_
   refine s_lt t_cmp ?_
   refine sp (.bool (decide (k.kind = 0))) ?_
   refine s_fork 19 (decide (k.kind = 0)) (fun c15 => ?_) (fun c15 => ?_)
   ·
    have p16 := of_decide_eq_true c15
    refine s_skip ?_
    refine s_skip ?_
    refine s_skip ?_
    refine sp (.bool true) ?_
    refine s_nil ?_
    exact xs_cut () trivial (sub_of rfl ⟨⟨rfl, rfl⟩, ⟨⟨rfl, rfl⟩, ⟨⟨rfl, rfl⟩, ⟨⟨rfl, rfl⟩, ⟨⟨rfl, show Value.bool true = Value.bool ((decide (k.kind = 0)) || (!(validB k))) by first | (simp only [c15, bls]; done) | simp [c15]⟩, trivial⟩⟩⟩⟩⟩) (fun _ h => h.re [0, 0, 0, 0] [])
   ·
    have p17 := of_decide_eq_false c15
    refine s_lt (t_loadA 2 #[.int .i64 k.kind, .int .i64 k.p, .int .i64 k.q, .string k.str, .int .i64 k.ref]) ?_
    refine s_vcall (fun _ h => rvalid_s k) ?_
    rintro _ rfl
    refine sp (.bool (!(validB k))) ?_
    refine sp (.bool (!(validB k))) ?_
    refine s_nil ?_
    exact xs_cut () trivial (sub_of rfl ⟨⟨rfl, rfl⟩, ⟨⟨rfl, rfl⟩, ⟨⟨rfl, rfl⟩, ⟨⟨rfl, rfl⟩, ⟨⟨rfl, show Value.bool (!(validB k)) = Value.bool ((decide (k.kind = 0)) || (!(validB k))) by first | (simp only [c15, bls]; done) | simp [c15]⟩, trivial⟩⟩⟩⟩⟩) (fun _ h => h.re [0, 0, 0, 0] [])
  ·
   refine k_cond ((decide (k.kind = 0)) || (!(validB k))) (fun c18 => ?_) (fun c18 => ?_)
   ·
    have p19 := c18
    simp only [Bool.and_eq_true, Bool.or_eq_true, Bool.and_eq_false_iff, Bool.or_eq_false_iff, Bool.not_eq_true', Bool.not_eq_false', decide_eq_true_eq, decide_eq_false_iff_not] at p19
    refine k_sr ?_
    refine sp (.int .i64 13) ?_
    refine s_nt ?_
    refine k_ret ?_
    refine xs_ret ?_
    have hk : okKey k = false := okKey_bad (by first | exact p19 | exact .inl p19 | exact .inr p19)
    have hp := hset_key (v := x) ht9 hk
    refine xs_fin [.int .i64 13] (rhA b st :: F) (SI.tmp 8 SI.nil) (fun _ h => h.re [0] [1, 1, 1]) ⟨?_, ?_⟩
    · rw [hp.2]; exact congrArg (Value.int .i64) (by first | rfl | exact tsetE_ok hk hv0)
    · rw [hp.1]
   ·
    obtain ⟨c20, c21⟩ := or_f c18
    have p22 := of_decide_eq_false c20
    have c23 := not_f c21
    refine k_st ?_
    refine k_sr ?_
    refine s_lt (t_loadA 1 #[.int .i64 x.kind, .int .i64 x.p, .int .i64 x.q, .string x.str, .int .i64 x.ref]) ?_
    refine s_vcall (fun _ h => relem_s x) ?_
    rintro _ rfl
    refine sp (.int .i64 (elemE x)) ?_
    refine s_nt ?_
    refine k_seq ?_
    refine k_sr ?_
    refine sp (.int .i64 (elemE x)) ?_
    refine s_lt t_cmp ?_
    refine s_nt ?_
    refine k_cond (decide ((elemE x) ≠ 0)) (fun c24 => ?_) (fun c24 => ?_)
    ·
     have p25 := of_decide_eq_true c24
     refine k_sr ?_
     refine sp (.int .i64 (elemE x)) ?_
     refine sp (.int .i64 (elemE x)) ?_
     refine s_nt ?_
     refine k_ret ?_
     refine xs_ret ?_
     have hk := okKey_good c20 c23
     have hp := hset_elem (v := x) ht9 hk (of_decide_eq_true c24)
     refine xs_fin [.int .i64 (elemE x)] (rhA b st :: F) (SI.tmp 8 SI.nil) (fun _ h => h.re [0] [1, 1, 1]) ⟨?_, ?_⟩
     · rw [hp.2]; exact congrArg (Value.int .i64) (by first | rfl | exact tsetE_ok hk hv0)
     · rw [hp.1]
    ·
     have p26 := Decidable.not_not.1 (of_decide_eq_false c24)
     refine k_st ?_
     refine k_seq ?_
     refine k_mem3 (fun H h => rh_open (h.re [0] [])) (fun v27 tv28 L29 hw => ?_)
     obtain ⟨hi30, hL31⟩ := hw
     have hln32 := rx_len hL31
     have htl33 := hi30.tch
     refine k_held [blkA b #[v27, .int .i64 (st.count : Int), tv28] 99, own RxT v27 L29, blkA g3 #[.int .i64 x.kind, .int .i64 x.p, .int .i64 x.q, .string x.str, .int .i64 x.ref] 26, blkA g2 #[.int .i64 k.kind, .int .i64 k.p, .int .i64 k.q, .string k.str, .int .i64 k.ref] 26, blkA g1 #[.int .i64 t.kind, .int .i64 t.p, .int .i64 t.q, .string t.str, .int .i64 t.ref] 26] ?_
     refine hp_ 0 [0, 0, 2, 2, 2] (pB b 0) ?_
     refine h_l 1 rfl [0, 0, 2, 2, 2] (fun _ => (t_loadA 4 #[.int .i64 t.kind, .int .i64 t.p, .int .i64 t.q, .string t.str, .int .i64 t.ref])) ?_
     refine hp_ 2 [0, 0, 2, 2, 2] (pB b 0) ?_
     refine hp_ 3 [0, 0, 2, 2, 2] (pB b 0) ?_
     refine hp_ 4 [0, 0, 2, 2, 2] (pB b 0) ?_
     refine h_l 5 rfl [0, 0, 2, 2, 2] (fun _ => (t_load 0 v27)) ?_
     refine hp_ 6 [0, 0, 2, 2, 2] (pB g1 4) ?_
     refine h_l 7 rfl [0, 0, 2, 2, 2] (fun _ => (t_load 4 (.int .i64 t.ref))) ?_
     refine h_l 8 rfl [0, 0, 2, 2, 2] (fun _ => (t_sub t.ref 1 (by (try simp only [lnm]); omega))) ?_
     refine h_l 9 rfl [0, 0, 2, 2, 2] (fun _ => (t_index RxT_ok Try.underlying96 (.own 1) (t.ref - 1) (((t.ref - 1)).toNat) (by omega) (by (try simp only [lnm]); omega) (by omega))) ?_
     refine hp_ 10 [0, 0, 2, 2, 2] (.pointer (some ((elemAt RxT.size v27 (((t.ref - 1)).toNat)).add 3))) ?_
     obtain ⟨tp34, uv35, rv36, hy37⟩ := rx_get hL31 ho10
     refine h_l 11 rfl [0, 0, 2, 2, 2] (fun _ => (Lt.to (v' := ptrV tp34) (t_loadF 3 RxT_ok (.own 1) hy37) (tabV_tab hk11))) ?_
     refine h_l 12 rfl [0, 0, 2, 2, 2] (fun _ => (t_loadA 3 #[.int .i64 k.kind, .int .i64 k.p, .int .i64 k.q, .string k.str, .int .i64 k.ref])) ?_
     refine h_l 13 rfl [0, 0, 2, 2, 2] (fun _ => (t_loadA 2 #[.int .i64 x.kind, .int .i64 x.p, .int .i64 x.q, .string x.str, .int .i64 x.ref])) ?_
     refine h_stepS 14 ?_
     refine s_mem (fun _ h => rall_out hy37 (h.re [3] [])) ?_
     refine s_mem (fun _ h => rtO_open hk11 (h.re [2] [])) ?_
     obtain ⟨hl38, hl382, _⟩ := hsm.obs o8 (get_mem ho10).1
     have hl383 : n * (n + 1) ≤ 300 * 301 := Nat.mul_le_mul (by omega) (by omega)
     refine s_call [0] (rtset_s (L := o8.tab.list) (S := o8.tab.rest) (hi30.obs o8 (get_mem ho10).1).tab (by (try simp only [lnm]); omega) (by (try simp only [lnm]); omega) k x) ?_
     rintro _ _ ⟨rfl, rfl⟩
     refine s_nil (xs_held [4, 4, 5, 5, 5] ?_)
     refine h_stepS 15 ?_
     have hk := okKey_good c20 c23
     have he0 : elemE x = 0 := Decidable.not_not.1 (of_decide_eq_false c24)
     have hv0 := elem_valid he0
     refine s_call [4, 5] (rtouch_s (vv := v27) (m := (st.count : Int)) (T := st.tch) t (by omega) (by omega) (by omega) (tsetE k x)) ?_
     rw [if_pos (tsetE_ok hk hv0)]
     rintro _ _ ⟨rfl, rfl⟩
     refine s_nil (xs_held [0, 5, 5, 5, 5] ?_)
     refine hp_ 16 [0, 5, 5, 5, 5] (.int .i64 (tsetE k x)) ?_
     refine h_doneS ?_
     refine xs_then ?_
     refine k_ret ?_
     refine xs_mem (fun _ h => rtO_shut (o := o8) (T := (tset ⟨o8.tab.list, o8.tab.rest⟩ k x)) hk11 (h.re [2] [])) ?_
     refine xs_mem (fun _ h => rall_in (o' := { o8 with tab := (tset ⟨o8.tab.list, o8.tab.rest⟩ k x) }) (uv' := uv35) (rv' := rv36) hy37 (h.re [3, 3, 0, 2] [])) ?_
     refine xs_mem (fun _ h => own_set (y := ⟨some { o8 with tab := (tset ⟨o8.tab.list, o8.tab.rest⟩ k x) }, tp34, uv35, rv36⟩) hy37 rfl (h.re [3] [])) ?_
     have hob39 := hi30.obs o8 (get_mem ho10).1
     refine xs_mem (fun _ h => rh_shut (st := ((st.put t.ref { o8 with tab := (tset ⟨o8.tab.list, o8.tab.rest⟩ k x) }).touch t.ref)) (n := (st.count : Int)) (T := (st.tch.set ((t.ref - 1)).toNat true)) ⟨⟨⟨touch_inv (put_inv (o := { o8 with tab := (tset ⟨o8.tab.list, o8.tab.rest⟩ k x) }) hi30 ⟨hob39.kind, (tset_inv hob39.tab _ _), hob39.mt⟩) t.ref, rx_set hL31 ho10 rfl⟩, (show (st.count : Int) = ((Hst.count (st.put t.ref { o8 with tab := (tset ⟨o8.tab.list, o8.tab.rest⟩ k x) }) : Nat) : Int) by rw [count_put ho10])⟩, by show _ = List.set _ _ _; congr 1; omega⟩ (h.re [2, 0, 1, 0] [])) ?_
     have hp := hset_ok ht9 ho10 hk he0
     refine xs_fin [.int .i64 (tsetE k x)] (rhA b ((st.put t.ref { o8 with tab := (tset ⟨o8.tab.list, o8.tab.rest⟩ k x) }).touch t.ref) :: F) (SI.tmp 8 SI.nil) (fun _ h => h.re [0] [1, 1, 1]) ⟨?_, ?_⟩
     · rw [hp.2]; exact congrArg (Value.int .i64) (by first | rfl | exact tsetE_ok hk hv0)
     · rw [hp.1]
theorem hmeta_no {st : Hst} (hi : HInv st) {v : Vl} (h4 : hfind st v = none ∨ v.kind ≠ 4) (h8 : hfind st v = none ∨ v.kind ≠ 8) : hmeta st v = zVl := by
  unfold hmeta
  cases hf : hfind st v with
  | none => rfl
  | some o =>
    obtain ⟨h1, h2⟩ := hfind_some hf
    rw [hf] at h4 h8
    simp at h4 h8
    exact (hi.obs o (get_mem h1).1).mt (by omega) (by omega)
theorem rhmeta_s {Z : Zone} {F : List Asr} {b : Nat} {st : Hst} (hl : st.objs.length ≤ 1000000) (v : Vl) : SF Try.prog 48 #[.pointer (some ⟨b, 0, none⟩), v.v] Z (rhA b st :: F) fun r Bs => r = (hmeta st v).v ∧ Bs = rhA b st :: F := by
 refine sf_enter Try.func48 24 [(0, pB b 0), (1, .agg #[.int .i64 v.kind, .int .i64 v.p, .int .i64 v.q, .string v.str, .int .i64 v.ref])] (fun w0 => ?_)
 refine k_fact (fun H h => rh_inv (h.re [0] [])) (fun hi0 => ?_)
 refine k_sr ?_
 refine s_box #[.int .i64 v.kind, .int .i64 v.p, .int .i64 v.q, .string v.str, .int .i64 v.ref] (fun g1 => ?_)
 refine s_alloc (.agg #[.int .i64 0, .int .i64 0, .int .i64 0, .string ByteArray.empty, .int .i64 0]) #[.int .i64 0, .int .i64 0, .int .i64 0, .string ByteArray.empty, .int .i64 0] (fun g2 => ?_)
 refine s_nt ?_
 refine k_seq ?_
 refine k_sr ?_
 refine sp (pB b 0) ?_
 refine s_lt (t_loadA 1 #[.int .i64 v.kind, .int .i64 v.p, .int .i64 v.q, .string v.str, .int .i64 v.ref]) ?_
 refine s_call [2] (ris_s (st := st) (by omega) v 4) ?_
 rintro u3 _ ⟨e4, rfl⟩
 rcases is_cases st v 4 with ⟨hb5, hn6⟩ | ⟨o7, hb8, hf9, ho10, hk11, hv12⟩
 ·
  rw [hb5] at e4; subst e4
  refine sp (.bool false) ?_
  refine sp (pB b 0) ?_
  refine s_lt (t_loadA 2 #[.int .i64 v.kind, .int .i64 v.p, .int .i64 v.q, .string v.str, .int .i64 v.ref]) ?_
  refine s_call [0] (ris_s (st := st) (by omega) v 8) ?_
  rintro u13 _ ⟨e14, rfl⟩
  rcases is_cases st v 8 with ⟨hb15, hn16⟩ | ⟨o17, hb18, hf19, ho20, hk21, hv22⟩
  ·
   rw [hb15] at e14; subst e14
   refine sp (.bool false) ?_
   refine s_nt ?_
   refine k_false ?_
   refine k_st ?_
   refine k_sr ?_
   refine s_lt (t_kern (.agg #[.int .i64 0, .int .i64 0, .int .i64 0, .string ByteArray.empty, .int .i64 0])) ?_
   refine s_store 1 #[.int .i64 0, .int .i64 0, .int .i64 0, .string ByteArray.empty, .int .i64 0] ?_
   refine s_nt ?_
   refine k_ret ?_
   refine xs_fin [.agg #[.int .i64 0, .int .i64 0, .int .i64 0, .string ByteArray.empty, .int .i64 0]] (rhA b st :: F) (SI.agg 4 26 1 SI.nil) (fun _ h => h.re [0] [1, 1]) ⟨?_, rfl⟩
   rw [hmeta_no hi0 hn6 hn16]; rfl
  ·
   rw [hb18] at e14; subst e14
   have hgm23 := get_mem ho20
   refine sp (.bool true) ?_
   refine s_nt ?_
   refine k_true ?_
   refine k_seq ?_
   refine k_draw ?_
   refine sp (pB b 0) ?_
   refine sp (pB b 0) ?_
   refine sp (pB b 0) ?_
   refine s_mem3 (fun H h => rh_open (h.re [0] [])) (fun v24 tv25 L26 hw => ?_)
   obtain ⟨hi27, hL28⟩ := hw
   have hln29 := rx_len hL28
   have htl30 := hi27.tch
   refine s_lt (t_load 0 v24) ?_
   refine sp (pB g1 4) ?_
   refine s_lt (t_load 5 (.int .i64 v.ref)) ?_
   refine s_lt (t_sub v.ref 1 (by (try simp only [lnm]); omega)) ?_
   refine s_lt (t_index RxT_ok Try.underlying96 (.own 1) (v.ref - 1) (((v.ref - 1)).toNat) (by omega) (by (try simp only [lnm]); omega) (by omega)) ?_
   refine sp (.pointer (some ((elemAt RxT.size v24 (((v.ref - 1)).toNat)).add 4))) ?_
   obtain ⟨tp31, uv32, rv33, hy34⟩ := rx_get hL28 ho20
   refine s_lt (t_loadG 4 #[.int .i64 o17.mt.kind, .int .i64 o17.mt.p, .int .i64 o17.mt.q, .string o17.mt.str, .int .i64 o17.mt.ref] RxT_ok (.own 1) hy34) ?_
   refine s_store 4 #[.int .i64 o17.mt.kind, .int .i64 o17.mt.p, .int .i64 o17.mt.q, .string o17.mt.str, .int .i64 o17.mt.ref] ?_
   refine s_nil ?_
   refine x_dynS (fun _ h => by kernel_rfl) ?_
   refine xs_then ?_
   refine k_ret ?_
   refine xs_ret ?_
   refine xs_mem (fun _ h => rh_shut (st := st) (n := (st.count : Int)) (T := st.tch) ⟨⟨⟨hi27, hL28⟩, rfl⟩, rfl⟩ (h.re [0, 0, 0, 0] [])) ?_
   refine xs_fin [.agg #[.int .i64 o17.mt.kind, .int .i64 o17.mt.p, .int .i64 o17.mt.q, .string o17.mt.str, .int .i64 o17.mt.ref]] (rhA b st :: F) (SI.agg 4 26 1 SI.nil) (fun _ h => h.re [0] [1, 1]) ⟨?_, rfl⟩
   unfold hmeta; rw [hf19]; rfl
 ·
  rw [hb8] at e4; subst e4
  have hgm35 := get_mem ho10
  refine sp (.bool true) ?_
  refine s_skip ?_
  refine s_skip ?_
  refine s_skip ?_
  refine sp (.bool true) ?_
  refine s_nt ?_
  refine k_true ?_
  refine k_seq ?_
  refine k_draw ?_
  refine sp (pB b 0) ?_
  refine sp (pB b 0) ?_
  refine sp (pB b 0) ?_
  refine s_mem3 (fun H h => rh_open (h.re [0] [])) (fun v36 tv37 L38 hw => ?_)
  obtain ⟨hi39, hL40⟩ := hw
  have hln41 := rx_len hL40
  have htl42 := hi39.tch
  refine s_lt (t_load 0 v36) ?_
  refine sp (pB g1 4) ?_
  refine s_lt (t_load 5 (.int .i64 v.ref)) ?_
  refine s_lt (t_sub v.ref 1 (by (try simp only [lnm]); omega)) ?_
  refine s_lt (t_index RxT_ok Try.underlying96 (.own 1) (v.ref - 1) (((v.ref - 1)).toNat) (by omega) (by (try simp only [lnm]); omega) (by omega)) ?_
  refine sp (.pointer (some ((elemAt RxT.size v36 (((v.ref - 1)).toNat)).add 4))) ?_
  obtain ⟨tp43, uv44, rv45, hy46⟩ := rx_get hL40 ho10
  refine s_lt (t_loadG 4 #[.int .i64 o7.mt.kind, .int .i64 o7.mt.p, .int .i64 o7.mt.q, .string o7.mt.str, .int .i64 o7.mt.ref] RxT_ok (.own 1) hy46) ?_
  refine s_store 4 #[.int .i64 o7.mt.kind, .int .i64 o7.mt.p, .int .i64 o7.mt.q, .string o7.mt.str, .int .i64 o7.mt.ref] ?_
  refine s_nil ?_
  refine x_dynS (fun _ h => by kernel_rfl) ?_
  refine xs_then ?_
  refine k_ret ?_
  refine xs_ret ?_
  refine xs_mem (fun _ h => rh_shut (st := st) (n := (st.count : Int)) (T := st.tch) ⟨⟨⟨hi39, hL40⟩, rfl⟩, rfl⟩ (h.re [0, 0, 0, 0] [])) ?_
  refine xs_fin [.agg #[.int .i64 o7.mt.kind, .int .i64 o7.mt.p, .int .i64 o7.mt.q, .string o7.mt.str, .int .i64 o7.mt.ref]] (rhA b st :: F) (SI.agg 4 26 1 SI.nil) (fun _ h => h.re [0] [1, 1]) ⟨?_, rfl⟩
  unfold hmeta; rw [hf9]; rfl
theorem hmetaOk_no {st : Hst} {v m : Vl} (h4 : hfind st v = none ∨ v.kind ≠ 4) (h8 : hfind st v = none ∨ v.kind ≠ 8) : hmetaOk st v m = false := by
  unfold hmetaOk
  cases hf : hfind st v with
  | none => rfl
  | some o =>
    obtain ⟨h1, h2⟩ := hfind_some hf
    rw [hf] at h4 h8
    simp at h4 h8
    simp [h2, h4, h8]
theorem hmetaOk_zero {st : Hst} {v m : Vl} {o : Hob} (hf : hfind st v = some o) (hk : o.kind = 4 ∨ o.kind = 8) (hz : m = zVl) : hmetaOk st v m = true := by
  unfold hmetaOk; rw [hf]; rcases hk with h | h <;> simp [h, hz]
theorem hmetaOk_tab {st : Hst} {v m : Vl} {o : Hob} {T : Tb} (hf : hfind st v = some o) (hk : o.kind = 4 ∨ o.kind = 8) (ht : htab st m = some T) : hmetaOk st v m = true := by
  unfold hmetaOk; rw [hf]; rcases hk with h | h <;> simp [h, ht]
theorem hmetaOk_not {st : Hst} {v m : Vl} {o : Hob} (hf : hfind st v = some o) (hz : m ≠ zVl) (hm : hfind st m = none ∨ m.kind ≠ 4) : hmetaOk st v m = false := by
  unfold hmetaOk; rw [hf]
  have ht : htab st m = none := by
    rcases hm with h | h
    · exact htab_none h
    · cases hx : hfind st m with
      | none => exact htab_none hx
      | some x => exact htab_not hx (by rw [(hfind_some hx).2]; exact h)
  simp [hz, ht]
theorem rhsetmeta_s {Z : Zone} {F : List Asr} {b : Nat} {st : Hst} (hl : st.objs.length ≤ 1000000) (v m : Vl) : SF Try.prog 45 #[.pointer (some ⟨b, 0, none⟩), v.v, m.v] Z (rhA b st :: F) fun r Bs => r = .int .i64 (hsetMetaE st v m) ∧ Bs = rhA b (hsetMeta st v m) :: F := by
 refine sf_enter Try.func45 43 [(0, pB b 0), (1, .agg #[.int .i64 v.kind, .int .i64 v.p, .int .i64 v.q, .string v.str, .int .i64 v.ref]), (2, .agg #[.int .i64 m.kind, .int .i64 m.p, .int .i64 m.q, .string m.str, .int .i64 m.ref])] (fun w0 => ?_)
 refine k_fact (fun H h => rh_inv (h.re [0] [])) (fun hi0 => ?_)
 refine k_sr ?_
 refine s_box #[.int .i64 v.kind, .int .i64 v.p, .int .i64 v.q, .string v.str, .int .i64 v.ref] (fun g1 => ?_)
 refine s_box #[.int .i64 m.kind, .int .i64 m.p, .int .i64 m.q, .string m.str, .int .i64 m.ref] (fun g2 => ?_)
 refine sp (.int .i64 0) ?_
 refine s_nt ?_
 refine k_seq ?_
 refine k_sr ?_
 refine sp (pB b 0) ?_
 refine sp (.bool false) ?_
 refine s_nt ?_
 refine k_false ?_
 refine k_st ?_
 refine k_seq ?_
 refine k_sr ?_
 refine sp (pB b 0) ?_
 refine s_lt (t_loadA 1 #[.int .i64 v.kind, .int .i64 v.p, .int .i64 v.q, .string v.str, .int .i64 v.ref]) ?_
 refine s_call [2] (ris_s (st := st) (by omega) v 4) ?_
 rintro u3 _ ⟨e4, rfl⟩
 rcases is_cases st v 4 with ⟨hb5, hn6⟩ | ⟨o7, hb8, hf9, ho10, hk11, hv12⟩
 ·
  rw [hb5] at e4; subst e4
  refine sp (.bool true) ?_
  refine sp (.bool true) ?_
  refine sp (pB b 0) ?_
  refine s_lt (t_loadA 2 #[.int .i64 v.kind, .int .i64 v.p, .int .i64 v.q, .string v.str, .int .i64 v.ref]) ?_
  refine s_call [0] (ris_s (st := st) (by omega) v 8) ?_
  rintro u13 _ ⟨e14, rfl⟩
  rcases is_cases st v 8 with ⟨hb15, hn16⟩ | ⟨o17, hb18, hf19, ho20, hk21, hv22⟩
  ·
   rw [hb15] at e14; subst e14
   refine sp (.bool true) ?_
   refine sp (.bool true) ?_
   refine sp (.bool true) ?_
   refine s_skip ?_
   refine s_skip ?_
   refine s_skip ?_
   refine s_skip ?_
   refine s_skip ?_
   refine s_skip ?_
   refine s_skip ?_
   refine s_skip ?_
   refine s_skip ?_
   refine sp (.bool true) ?_
   refine s_nt ?_
   refine k_true ?_
   refine k_sr ?_
   refine sp (.int .i64 8) ?_
   refine s_nt ?_
   refine k_ret ?_
   refine xs_ret ?_
   have hb : hmetaOk st v m = false := hmetaOk_no hn6 hn16
   refine xs_fin [.int .i64 8] (rhA b st :: F) (SI.tmp 6 SI.nil) (fun _ h => h.re [0] [1, 1]) ⟨?_, ?_⟩
   · unfold hsetMetaE; rw [hb]; rfl
   · unfold hsetMeta; rw [hb]; rfl
  ·
   rw [hb18] at e14; subst e14
   have hgm23 := get_mem ho20
   refine sp (.bool false) ?_
   refine sp (.bool false) ?_
   refine sp (.bool false) ?_
   refine s_lt (t_loadA 1 #[.int .i64 m.kind, .int .i64 m.p, .int .i64 m.q, .string m.str, .int .i64 m.ref]) ?_
   refine s_lt (t_kern (.agg #[.int .i64 0, .int .i64 0, .int .i64 0, .string ByteArray.empty, .int .i64 0])) ?_
   refine s_lt (t_eqS (fun w => (eqVlT m zVl w).2)) ?_
   refine sp (.bool (!(decide (m = zVl)))) ?_
   refine s_fork 23 (!(decide (m = zVl))) (fun c24 => ?_) (fun c24 => ?_)
   ·
    have c25 := not_t c24
    have p26 := of_decide_eq_false c25
    refine sp (pB b 0) ?_
    refine s_lt (t_loadA 1 #[.int .i64 m.kind, .int .i64 m.p, .int .i64 m.q, .string m.str, .int .i64 m.ref]) ?_
    refine s_call [0] (ris_s (st := st) (by omega) m 4) ?_
    rintro u27 _ ⟨e28, rfl⟩
    rcases is_cases st m 4 with ⟨hb29, hn30⟩ | ⟨o31, hb32, hf33, ho34, hk35, hv36⟩
    ·
     rw [hb29] at e28; subst e28
     refine sp (.bool true) ?_
     refine sp (.bool true) ?_
     refine sp (.bool true) ?_
     refine s_nt ?_
     refine k_true ?_
     refine k_sr ?_
     refine sp (.int .i64 8) ?_
     refine s_nt ?_
     refine k_ret ?_
     refine xs_ret ?_
     have hb : hmetaOk st v m = false := hmetaOk_not hf19 (of_decide_eq_false c25) hn30
     refine xs_fin [.int .i64 8] (rhA b st :: F) (SI.tmp 6 SI.nil) (fun _ h => h.re [0] [1, 1]) ⟨?_, ?_⟩
     · unfold hsetMetaE; rw [hb]; rfl
     · unfold hsetMeta; rw [hb]; rfl
    ·
     rw [hb32] at e28; subst e28
     have hgm37 := get_mem ho34
     refine sp (.bool false) ?_
     refine sp (.bool false) ?_
     refine sp (.bool false) ?_
     refine s_nt ?_
     refine k_false ?_
     refine k_st ?_
     refine k_seq ?_
     refine k_draw ?_
     refine sp (pB b 0) ?_
     refine sp (pB b 0) ?_
     refine sp (pB b 0) ?_
     refine s_mem3 (fun H h => rh_open (h.re [0] [])) (fun v38 tv39 L40 hw => ?_)
     obtain ⟨hi41, hL42⟩ := hw
     have hln43 := rx_len hL42
     have htl44 := hi41.tch
     refine s_lt (t_load 0 v38) ?_
     refine sp (pB g1 4) ?_
     refine s_lt (t_load 5 (.int .i64 v.ref)) ?_
     refine s_lt (t_sub v.ref 1 (by (try simp only [lnm]); omega)) ?_
     refine s_lt (t_loadA 4 #[.int .i64 m.kind, .int .i64 m.p, .int .i64 m.q, .string m.str, .int .i64 m.ref]) ?_
     refine s_lt (t_index RxT_ok Try.underlying96 (.own 1) (v.ref - 1) (((v.ref - 1)).toNat) (by omega) (by (try simp only [lnm]); omega) (by omega)) ?_
     refine sp (.pointer (some ((elemAt RxT.size v38 (((v.ref - 1)).toNat)).add 4))) ?_
     obtain ⟨tp45, uv46, rv47, hy48⟩ := rx_get hL42 ho20
     refine s_storeE 1 4 (⟨some { o17 with mt := m }, tp45, uv46, rv47⟩ : Rx) RxT_ok hy48 ?_
     refine s_mem (fun _ h => rall_in (o' := { o17 with mt := m }) (uv' := uv46) (rv' := rv47) hy48 (rall_out (o := o17) hy48 (h.re [3] []))) ?_
     have hob49 := hi41.obs o17 (get_mem ho20).1
     refine s_nil ?_
     refine x_dynS (fun _ h => by kernel_rfl) ?_
     refine xs_then ?_
     refine k_sr ?_
     refine sp (pB b 0) ?_
     refine s_lt (t_loadA 5 #[.int .i64 v.kind, .int .i64 v.p, .int .i64 v.q, .string v.str, .int .i64 v.ref]) ?_
     refine s_call [1, 2] (rtouch_s (vv := v38) (m := (st.count : Int)) (T := st.tch) v (by omega) (by omega) (by omega) 0) ?_
     rw [if_pos (rfl)]
     rintro _ _ ⟨rfl, rfl⟩
     refine sp (.int .i64 0) ?_
     refine s_nt ?_
     refine k_ret ?_
     refine xs_mem (fun _ h => rh_shut (st := ((st.put v.ref { o17 with mt := m }).touch v.ref)) (n := (st.count : Int)) (T := (st.tch.set ((v.ref - 1)).toNat true)) ⟨⟨⟨touch_inv (put_inv (o := { o17 with mt := m }) hi41 ⟨hob49.kind, hob49.tab, (fun a b => by exfalso; have a1 : o17.kind ≠ 4 := a; have b1 : o17.kind ≠ 8 := b; omega)⟩) v.ref, rx_set hL42 ho20 rfl⟩, (show (st.count : Int) = ((Hst.count (st.put v.ref { o17 with mt := m }) : Nat) : Int) by rw [count_put ho20])⟩, by show _ = List.set _ _ _; congr 1; omega⟩ (h.re [0, 2, 0, 0] [])) ?_
     have hb : hmetaOk st v m = true := hmetaOk_tab hf19 (.inr (by omega)) (htab_is hf33 (by omega))
     refine xs_fin [.int .i64 0] (rhA b ((st.put v.ref { o17 with mt := m }).touch v.ref) :: F) (SI.tmp 6 SI.nil) (fun _ h => h.re [0] [1, 1]) ⟨?_, ?_⟩
     · unfold hsetMetaE; rw [hb]; rfl
     · unfold hsetMeta; rw [hb]; unfold Hst.setMt; rw [ho20]; rfl
   ·
    have c50 := not_f c24
    have p51 := of_decide_eq_true c50
    refine s_skip ?_
    refine s_skip ?_
    refine s_skip ?_
    refine s_skip ?_
    refine sp (.bool false) ?_
    refine sp (.bool false) ?_
    refine s_nt ?_
    refine k_false ?_
    refine k_st ?_
    refine k_seq ?_
    refine k_draw ?_
    refine sp (pB b 0) ?_
    refine sp (pB b 0) ?_
    refine sp (pB b 0) ?_
    refine s_mem3 (fun H h => rh_open (h.re [0] [])) (fun v52 tv53 L54 hw => ?_)
    obtain ⟨hi55, hL56⟩ := hw
    have hln57 := rx_len hL56
    have htl58 := hi55.tch
    refine s_lt (t_load 0 v52) ?_
    refine sp (pB g1 4) ?_
    refine s_lt (t_load 5 (.int .i64 v.ref)) ?_
    refine s_lt (t_sub v.ref 1 (by (try simp only [lnm]); omega)) ?_
    refine s_lt (t_loadA 4 #[.int .i64 m.kind, .int .i64 m.p, .int .i64 m.q, .string m.str, .int .i64 m.ref]) ?_
    refine s_lt (t_index RxT_ok Try.underlying96 (.own 1) (v.ref - 1) (((v.ref - 1)).toNat) (by omega) (by (try simp only [lnm]); omega) (by omega)) ?_
    refine sp (.pointer (some ((elemAt RxT.size v52 (((v.ref - 1)).toNat)).add 4))) ?_
    obtain ⟨tp59, uv60, rv61, hy62⟩ := rx_get hL56 ho20
    refine s_storeE 1 4 (⟨some { o17 with mt := m }, tp59, uv60, rv61⟩ : Rx) RxT_ok hy62 ?_
    refine s_mem (fun _ h => rall_in (o' := { o17 with mt := m }) (uv' := uv60) (rv' := rv61) hy62 (rall_out (o := o17) hy62 (h.re [3] []))) ?_
    have hob63 := hi55.obs o17 (get_mem ho20).1
    refine s_nil ?_
    refine x_dynS (fun _ h => by kernel_rfl) ?_
    refine xs_then ?_
    refine k_sr ?_
    refine sp (pB b 0) ?_
    refine s_lt (t_loadA 5 #[.int .i64 v.kind, .int .i64 v.p, .int .i64 v.q, .string v.str, .int .i64 v.ref]) ?_
    refine s_call [1, 2] (rtouch_s (vv := v52) (m := (st.count : Int)) (T := st.tch) v (by omega) (by omega) (by omega) 0) ?_
    rw [if_pos (rfl)]
    rintro _ _ ⟨rfl, rfl⟩
    refine sp (.int .i64 0) ?_
    refine s_nt ?_
    refine k_ret ?_
    refine xs_mem (fun _ h => rh_shut (st := ((st.put v.ref { o17 with mt := m }).touch v.ref)) (n := (st.count : Int)) (T := (st.tch.set ((v.ref - 1)).toNat true)) ⟨⟨⟨touch_inv (put_inv (o := { o17 with mt := m }) hi55 ⟨hob63.kind, hob63.tab, (fun a b => by exfalso; have a1 : o17.kind ≠ 4 := a; have b1 : o17.kind ≠ 8 := b; omega)⟩) v.ref, rx_set hL56 ho20 rfl⟩, (show (st.count : Int) = ((Hst.count (st.put v.ref { o17 with mt := m }) : Nat) : Int) by rw [count_put ho20])⟩, by show _ = List.set _ _ _; congr 1; omega⟩ (h.re [0, 2, 0, 0] [])) ?_
    have hb : hmetaOk st v m = true := hmetaOk_zero hf19 (.inr (by omega)) (of_decide_eq_true c50)
    refine xs_fin [.int .i64 0] (rhA b ((st.put v.ref { o17 with mt := m }).touch v.ref) :: F) (SI.tmp 6 SI.nil) (fun _ h => h.re [0] [1, 1]) ⟨?_, ?_⟩
    · unfold hsetMetaE; rw [hb]; rfl
    · unfold hsetMeta; rw [hb]; unfold Hst.setMt; rw [ho20]; rfl
 ·
  rw [hb8] at e4; subst e4
  have hgm64 := get_mem ho10
  refine sp (.bool false) ?_
  refine sp (.bool false) ?_
  refine s_skip ?_
  refine s_skip ?_
  refine s_skip ?_
  refine s_skip ?_
  refine sp (.bool false) ?_
  refine sp (.bool false) ?_
  refine s_lt (t_loadA 1 #[.int .i64 m.kind, .int .i64 m.p, .int .i64 m.q, .string m.str, .int .i64 m.ref]) ?_
  refine s_lt (t_kern (.agg #[.int .i64 0, .int .i64 0, .int .i64 0, .string ByteArray.empty, .int .i64 0])) ?_
  refine s_lt (t_eqS (fun w => (eqVlT m zVl w).2)) ?_
  refine sp (.bool (!(decide (m = zVl)))) ?_
  refine s_fork 23 (!(decide (m = zVl))) (fun c65 => ?_) (fun c65 => ?_)
  ·
   have c66 := not_t c65
   have p67 := of_decide_eq_false c66
   refine sp (pB b 0) ?_
   refine s_lt (t_loadA 1 #[.int .i64 m.kind, .int .i64 m.p, .int .i64 m.q, .string m.str, .int .i64 m.ref]) ?_
   refine s_call [0] (ris_s (st := st) (by omega) m 4) ?_
   rintro u68 _ ⟨e69, rfl⟩
   rcases is_cases st m 4 with ⟨hb70, hn71⟩ | ⟨o72, hb73, hf74, ho75, hk76, hv77⟩
   ·
    rw [hb70] at e69; subst e69
    refine sp (.bool true) ?_
    refine sp (.bool true) ?_
    refine sp (.bool true) ?_
    refine s_nt ?_
    refine k_true ?_
    refine k_sr ?_
    refine sp (.int .i64 8) ?_
    refine s_nt ?_
    refine k_ret ?_
    refine xs_ret ?_
    have hb : hmetaOk st v m = false := hmetaOk_not hf9 (of_decide_eq_false c66) hn71
    refine xs_fin [.int .i64 8] (rhA b st :: F) (SI.tmp 6 SI.nil) (fun _ h => h.re [0] [1, 1]) ⟨?_, ?_⟩
    · unfold hsetMetaE; rw [hb]; rfl
    · unfold hsetMeta; rw [hb]; rfl
   ·
    rw [hb73] at e69; subst e69
    have hgm78 := get_mem ho75
    refine sp (.bool false) ?_
    refine sp (.bool false) ?_
    refine sp (.bool false) ?_
    refine s_nt ?_
    refine k_false ?_
    refine k_st ?_
    refine k_seq ?_
    refine k_draw ?_
    refine sp (pB b 0) ?_
    refine sp (pB b 0) ?_
    refine sp (pB b 0) ?_
    refine s_mem3 (fun H h => rh_open (h.re [0] [])) (fun v79 tv80 L81 hw => ?_)
    obtain ⟨hi82, hL83⟩ := hw
    have hln84 := rx_len hL83
    have htl85 := hi82.tch
    refine s_lt (t_load 0 v79) ?_
    refine sp (pB g1 4) ?_
    refine s_lt (t_load 5 (.int .i64 v.ref)) ?_
    refine s_lt (t_sub v.ref 1 (by (try simp only [lnm]); omega)) ?_
    refine s_lt (t_loadA 4 #[.int .i64 m.kind, .int .i64 m.p, .int .i64 m.q, .string m.str, .int .i64 m.ref]) ?_
    refine s_lt (t_index RxT_ok Try.underlying96 (.own 1) (v.ref - 1) (((v.ref - 1)).toNat) (by omega) (by (try simp only [lnm]); omega) (by omega)) ?_
    refine sp (.pointer (some ((elemAt RxT.size v79 (((v.ref - 1)).toNat)).add 4))) ?_
    obtain ⟨tp86, uv87, rv88, hy89⟩ := rx_get hL83 ho10
    refine s_storeE 1 4 (⟨some { o7 with mt := m }, tp86, uv87, rv88⟩ : Rx) RxT_ok hy89 ?_
    refine s_mem (fun _ h => rall_in (o' := { o7 with mt := m }) (uv' := uv87) (rv' := rv88) hy89 (rall_out (o := o7) hy89 (h.re [3] []))) ?_
    have hob90 := hi82.obs o7 (get_mem ho10).1
    refine s_nil ?_
    refine x_dynS (fun _ h => by kernel_rfl) ?_
    refine xs_then ?_
    refine k_sr ?_
    refine sp (pB b 0) ?_
    refine s_lt (t_loadA 5 #[.int .i64 v.kind, .int .i64 v.p, .int .i64 v.q, .string v.str, .int .i64 v.ref]) ?_
    refine s_call [1, 2] (rtouch_s (vv := v79) (m := (st.count : Int)) (T := st.tch) v (by omega) (by omega) (by omega) 0) ?_
    rw [if_pos (rfl)]
    rintro _ _ ⟨rfl, rfl⟩
    refine sp (.int .i64 0) ?_
    refine s_nt ?_
    refine k_ret ?_
    refine xs_mem (fun _ h => rh_shut (st := ((st.put v.ref { o7 with mt := m }).touch v.ref)) (n := (st.count : Int)) (T := (st.tch.set ((v.ref - 1)).toNat true)) ⟨⟨⟨touch_inv (put_inv (o := { o7 with mt := m }) hi82 ⟨hob90.kind, hob90.tab, (fun a b => by exfalso; have a1 : o7.kind ≠ 4 := a; have b1 : o7.kind ≠ 8 := b; omega)⟩) v.ref, rx_set hL83 ho10 rfl⟩, (show (st.count : Int) = ((Hst.count (st.put v.ref { o7 with mt := m }) : Nat) : Int) by rw [count_put ho10])⟩, by show _ = List.set _ _ _; congr 1; omega⟩ (h.re [0, 2, 0, 0] [])) ?_
    have hb : hmetaOk st v m = true := hmetaOk_tab hf9 (.inl (by omega)) (htab_is hf74 (by omega))
    refine xs_fin [.int .i64 0] (rhA b ((st.put v.ref { o7 with mt := m }).touch v.ref) :: F) (SI.tmp 6 SI.nil) (fun _ h => h.re [0] [1, 1]) ⟨?_, ?_⟩
    · unfold hsetMetaE; rw [hb]; rfl
    · unfold hsetMeta; rw [hb]; unfold Hst.setMt; rw [ho10]; rfl
  ·
   have c91 := not_f c65
   have p92 := of_decide_eq_true c91
   refine s_skip ?_
   refine s_skip ?_
   refine s_skip ?_
   refine s_skip ?_
   refine sp (.bool false) ?_
   refine sp (.bool false) ?_
   refine s_nt ?_
   refine k_false ?_
   refine k_st ?_
   refine k_seq ?_
   refine k_draw ?_
   refine sp (pB b 0) ?_
   refine sp (pB b 0) ?_
   refine sp (pB b 0) ?_
   refine s_mem3 (fun H h => rh_open (h.re [0] [])) (fun v93 tv94 L95 hw => ?_)
   obtain ⟨hi96, hL97⟩ := hw
   have hln98 := rx_len hL97
   have htl99 := hi96.tch
   refine s_lt (t_load 0 v93) ?_
   refine sp (pB g1 4) ?_
   refine s_lt (t_load 5 (.int .i64 v.ref)) ?_
   refine s_lt (t_sub v.ref 1 (by (try simp only [lnm]); omega)) ?_
   refine s_lt (t_loadA 4 #[.int .i64 m.kind, .int .i64 m.p, .int .i64 m.q, .string m.str, .int .i64 m.ref]) ?_
   refine s_lt (t_index RxT_ok Try.underlying96 (.own 1) (v.ref - 1) (((v.ref - 1)).toNat) (by omega) (by (try simp only [lnm]); omega) (by omega)) ?_
   refine sp (.pointer (some ((elemAt RxT.size v93 (((v.ref - 1)).toNat)).add 4))) ?_
   obtain ⟨tp100, uv101, rv102, hy103⟩ := rx_get hL97 ho10
   refine s_storeE 1 4 (⟨some { o7 with mt := m }, tp100, uv101, rv102⟩ : Rx) RxT_ok hy103 ?_
   refine s_mem (fun _ h => rall_in (o' := { o7 with mt := m }) (uv' := uv101) (rv' := rv102) hy103 (rall_out (o := o7) hy103 (h.re [3] []))) ?_
   have hob104 := hi96.obs o7 (get_mem ho10).1
   refine s_nil ?_
   refine x_dynS (fun _ h => by kernel_rfl) ?_
   refine xs_then ?_
   refine k_sr ?_
   refine sp (pB b 0) ?_
   refine s_lt (t_loadA 5 #[.int .i64 v.kind, .int .i64 v.p, .int .i64 v.q, .string v.str, .int .i64 v.ref]) ?_
   refine s_call [1, 2] (rtouch_s (vv := v93) (m := (st.count : Int)) (T := st.tch) v (by omega) (by omega) (by omega) 0) ?_
   rw [if_pos (rfl)]
   rintro _ _ ⟨rfl, rfl⟩
   refine sp (.int .i64 0) ?_
   refine s_nt ?_
   refine k_ret ?_
   refine xs_mem (fun _ h => rh_shut (st := ((st.put v.ref { o7 with mt := m }).touch v.ref)) (n := (st.count : Int)) (T := (st.tch.set ((v.ref - 1)).toNat true)) ⟨⟨⟨touch_inv (put_inv (o := { o7 with mt := m }) hi96 ⟨hob104.kind, hob104.tab, (fun a b => by exfalso; have a1 : o7.kind ≠ 4 := a; have b1 : o7.kind ≠ 8 := b; omega)⟩) v.ref, rx_set hL97 ho10 rfl⟩, (show (st.count : Int) = ((Hst.count (st.put v.ref { o7 with mt := m }) : Nat) : Int) by rw [count_put ho10])⟩, by show _ = List.set _ _ _; congr 1; omega⟩ (h.re [0, 2, 0, 0] [])) ?_
   have hb : hmetaOk st v m = true := hmetaOk_zero hf9 (.inl (by omega)) (of_decide_eq_true c91)
   refine xs_fin [.int .i64 0] (rhA b ((st.put v.ref { o7 with mt := m }).touch v.ref) :: F) (SI.tmp 6 SI.nil) (fun _ h => h.re [0] [1, 1]) ⟨?_, ?_⟩
   · unfold hsetMetaE; rw [hb]; rfl
   · unfold hsetMeta; rw [hb]; unfold Hst.setMt; rw [ho10]; rfl
theorem nilSv : (⟨none, 0, 0⟩ : Sv).v = .slice none 0 0 := rfl
theorem hmake_eq {st : Hst} {o : Hob} (hf : st.count < 65536) : hmake st o = ⟨st.objs ++ [some o], st.tch ++ [true]⟩ := by unfold hmake; rw [if_neg (by omega)]
theorem radd_s {Z : Zone} {F : List Asr} {b : Nat} {st : Hst} {o : Hob} {tp : Nat} {uv rv : Sv} (hob : ObInv o) (hl : st.objs.length ≤ 1000000) : SF Try.prog 84 #[.pointer (some ⟨b, 0, none⟩), Rx.v ⟨some o, tp, uv, rv⟩] Z (rhA b st :: roP ⟨some o, tp, uv, rv⟩ :: F) fun r Bs => r = pairV (hmakeV st o.kind) (hmakeE st) ∧ Bs = rhA b (hmake st o) :: F := by
 refine sf_enter Try.func84 47 [(0, pB b 0), (1, .agg #[.int .i64 o.kind, .int .i64 o.tag, .string o.name, (tabV (0, tp) o), .int .i64 o.mt.kind, .int .i64 o.mt.p, .int .i64 o.mt.q, .string o.mt.str, .int .i64 o.mt.ref, uv.v, rv.v])] (fun w0 => ?_)
 refine k_sr ?_
 refine s_box #[.int .i64 o.kind, .int .i64 o.tag, .string o.name, (tabV (0, tp) o), .int .i64 o.mt.kind, .int .i64 o.mt.p, .int .i64 o.mt.q, .string o.mt.str, .int .i64 o.mt.ref, uv.v, rv.v] (fun g1 => ?_)
 refine s_alloc (.agg #[.int .i64 0, .int .i64 0, .int .i64 0, .string ByteArray.empty, .int .i64 0]) #[.int .i64 0, .int .i64 0, .int .i64 0, .string ByteArray.empty, .int .i64 0] (fun g2 => ?_)
 refine sp (.int .i64 0) ?_
 refine s_nt ?_
 refine k_seq ?_
 refine k_sr ?_
 refine sp (pB b 0) ?_
 refine sp (pB b 0) ?_
 refine sp (pB b 1) ?_
 refine s_mem3 (fun H h => rh_open (h.re [2] [])) (fun v3 tv4 L5 hw => ?_)
 obtain ⟨hi6, hL7⟩ := hw
 have hln8 := rx_len hL7
 have htl9 := hi6.tch
 refine s_lt (t_load 0 (.int .i64 (st.count : Int))) ?_
 refine s_lt t_cmp ?_
 refine s_nt ?_
 refine k_cond (decide ((65536 : Int) ≤ (st.count : Int))) (fun c10 => ?_) (fun c10 => ?_)
 ·
  have p11 := of_decide_eq_true c10
  refine k_sr ?_
  refine s_lt (t_kern (.agg #[.int .i64 0, .int .i64 0, .int .i64 0, .string ByteArray.empty, .int .i64 0])) ?_
  refine s_store 4 #[.int .i64 0, .int .i64 0, .int .i64 0, .string ByteArray.empty, .int .i64 0] ?_
  refine sp (.int .i64 17) ?_
  refine s_nt ?_
  refine k_ret ?_
  refine xs_ret ?_
  refine xs_mem (fun _ h => rh_shut (st := st) (n := (st.count : Int)) (T := st.tch) ⟨⟨⟨hi6, hL7⟩, rfl⟩, rfl⟩ (h.re [0, 0, 0, 0] [])) ?_
  have hf : 65536 ≤ st.count := by omega
  refine xs_fin [.agg #[.int .i64 0, .int .i64 0, .int .i64 0, .string ByteArray.empty, .int .i64 0], .int .i64 17] (rhA b st :: F) (SI.agg 4 26 1 (SI.tmp 5 SI.nil)) (fun _ h => h.re [0] [1, 1, 1]) ⟨?_, ?_⟩
  · rw [(hmakeV_full hf).1, (hmakeV_full (k := 0) hf).2]; rfl
  · rw [hmake_full hf]
 ·
  have p12 := of_decide_eq_false c10
  refine k_st ?_
  refine k_seq ?_
  refine k_draw ?_
  refine sp (pB b 0) ?_
  refine sp (pB b 0) ?_
  refine sp (pB b 0) ?_
  refine sp (pB b 0) ?_
  refine s_lt (t_load 0 v3) ?_
  refine s_lt (t_loadA 5 #[.int .i64 o.kind, .int .i64 o.tag, .string o.name, (tabV (0, tp) o), .int .i64 o.mt.kind, .int .i64 o.mt.p, .int .i64 o.mt.q, .string o.mt.str, .int .i64 o.mt.ref, uv.v, rv.v]) ?_
  refine s_buildSlice (e := 95) [(0, .agg #[.int .i64 o.kind, .int .i64 o.tag, .string o.name, (tabV (0, tp) o), .int .i64 o.mt.kind, .int .i64 o.mt.p, .int .i64 o.mt.q, .string o.mt.str, .int .i64 o.mt.ref, uv.v, rv.v])] #[.int .i64 o.kind, .int .i64 o.tag, .string o.name, (tabV (0, tp) o), .int .i64 o.mt.kind, .int .i64 o.mt.p, .int .i64 o.mt.q, .string o.mt.str, .int .i64 o.mt.ref, uv.v, rv.v] (fun g13 => ?_) (hb := by kernel_rfl)
  refine s_append (L := L5) 2 RxT_ok Try.underlying96 (.lit 0 RxT_ok [(⟨some o, tp, uv, rv⟩ : Rx)]) (by show _ * 136 ≤ _; (try simp only [lnm]); omega) (by (try simp only [lnm]); omega) (fun v14 => ?_)
  refine sp (pB b 0) ?_
  refine sp (pB b 0) ?_
  refine s_fact (fun H h => ((Acc.own (T := RxT) (L := (L5 ++ [(⟨some o, tp, uv, rv⟩ : Rx)])) 2 rfl) H h).form) (fun hf15 => ?_)
  refine s_store (u := v14) (m := 1) 1 #[v14, .int .i64 (st.count : Int), tv4] ?_ (hm := by (obtain ⟨_, _, e⟩ := hf15; rw [e]; rfl)) (h1 := by (obtain ⟨_, _, e⟩ := hf15; rw [e]; rfl)) (ha' := by (obtain ⟨_, _, e⟩ := hf15; rw [e]; rfl))
  refine s_nil ?_
  refine x_dynS (fun _ h => by kernel_rfl) ?_
  refine xs_then ?_
  refine k_sr ?_
  refine sp (pB b 0) ?_
  refine sp (pB b 0) ?_
  refine sp (pB b 0) ?_
  refine sp (pB b 2) ?_
  refine s_lt (t_load 1 tv4) ?_
  refine s_buildSlice (e := 4) [(0, .bool true)] #[.bool true] (fun g16 => ?_) (hb := by kernel_rfl)
  refine s_append (L := st.tch) 4 bTy_ok Try.underlying97 (.lit 0 bTy_ok [true]) (by show _ * 1 ≤ _; (try simp only [lnm]); omega) (by (try simp only [lnm]); omega) (fun v17 => ?_)
  refine sp (pB b 0) ?_
  refine sp (pB b 2) ?_
  refine s_fact (fun H h => ((Acc.own (T := bTy) (L := (st.tch ++ [true])) 4 rfl) H h).form) (fun hf18 => ?_)
  refine s_store (u := v17) (m := 1) 2 #[v14, .int .i64 (st.count : Int), v17] ?_ (hm := by (obtain ⟨_, _, e⟩ := hf18; rw [e]; rfl)) (h1 := by (obtain ⟨_, _, e⟩ := hf18; rw [e]; rfl)) (ha' := by (obtain ⟨_, _, e⟩ := hf18; rw [e]; rfl))
  refine s_nr ?_
  refine sp (pB b 0) ?_
  refine sp (pB b 0) ?_
  refine sp (pB b 0) ?_
  refine sp (pB b 1) ?_
  refine s_lt (t_load 2 (.int .i64 (st.count : Int))) ?_
  refine s_lt (t_add (st.count : Int) 1 (by (try simp only [lnm]); omega)) ?_
  refine sp (pB b 0) ?_
  refine sp (pB b 1) ?_
  refine s_store 2 #[v14, .int .i64 ((st.count : Int) + 1), v17] ?_
  refine s_nt ?_
  refine k_seq ?_
  refine k_draw ?_
  refine sp (pB g1 0) ?_
  refine s_lt (t_load 7 (.int .i64 o.kind)) ?_
  refine sp (pB b 0) ?_
  refine sp (pB b 0) ?_
  refine sp (pB b 0) ?_
  refine s_lt (t_load 2 v14) ?_
  refine s_lt (t_len RxT_ok Try.underlying96 (.own 3)) ?_
  refine s_lt (t_kern (.agg #[.int .i64 o.kind, .int .i64 0, .int .i64 0, .string ByteArray.empty, .int .i64 ((L5 ++ [(⟨some o, tp, uv, rv⟩ : Rx)]).length : Int)])) ?_
  refine s_store 6 #[.int .i64 o.kind, .int .i64 0, .int .i64 0, .string ByteArray.empty, .int .i64 ((L5 ++ [(⟨some o, tp, uv, rv⟩ : Rx)]).length : Int)] ?_
  refine sp (.int .i64 0) ?_
  refine s_nil ?_
  refine x_dynS (fun _ h => by obtain ⟨_, _, e⟩ := hf15; subst e; kernel_rfl) ?_
  refine xs_then ?_
  refine k_ret ?_
  have hf : st.count < 65536 := by omega
  refine xs_mem (fun _ h => rall_add (h.re [8, 5] [])) ?_
  refine xs_mem (fun _ h => rh_shut (st := (hmake st o)) (n := ((st.count : Int) + 1)) (T := (st.tch ++ [true])) ⟨⟨⟨hmake_inv hi6 hob, by rw [hmake_eq hf]; exact rx_snoc (x := ⟨some o, tp, uv, rv⟩) hL7 rfl _⟩, by rw [hmake_eq hf, count_snoc]; rfl⟩, by rw [hmake_eq hf]⟩ (h.re [3, 3, 3, 0] [])) ?_
  refine xs_fin [.agg #[.int .i64 o.kind, .int .i64 0, .int .i64 0, .string ByteArray.empty, .int .i64 ((L5 ++ [(⟨some o, tp, uv, rv⟩ : Rx)]).length : Int)], .int .i64 0] (rhA b (hmake st o) :: F) (SI.agg 4 26 3 (SI.tmp 5 SI.nil)) (fun _ h => h.re [0] [1, 1, 1, 1]) ⟨?_, rfl⟩
  rw [(hmakeV_ok hf).1, (hmakeV_ok (k := 0) hf).2]; exact congrArg (fun v : Vl => pairV v 0) (congrArg (refV o.kind) (by have h5 := rx_len hL7; rw [List.length_append, h5]; rfl))
theorem rhnewtable_s {Z : Zone} {F : List Asr} {b : Nat} {st : Hst} (hl : st.objs.length ≤ 1000000) : SF Try.prog 39 #[.pointer (some ⟨b, 0, none⟩)] Z (rhA b st :: F) fun r Bs => r = pairV (hmakeV st 4) (hmakeE st) ∧ Bs = rhA b (hmake st (newO 4 0 ByteArray.empty [])) :: F := by
 refine sf_enter Try.func39 13 [(0, pB b 0)] (fun w0 => ?_)
 refine k_sr ?_
 refine s_alloc (.agg #[.int .i64 0, .int .i64 0, .int .i64 0, .string ByteArray.empty, .int .i64 0]) #[.int .i64 0, .int .i64 0, .int .i64 0, .string ByteArray.empty, .int .i64 0] (fun g1 => ?_)
 refine sp (.int .i64 0) ?_
 refine s_nt ?_
 refine k_seq ?_
 refine k_sr ?_
 refine sp (pB b 0) ?_
 refine sp (.bool false) ?_
 refine s_nt ?_
 refine k_false ?_
 refine k_st ?_
 refine k_sr ?_
 refine sp (pB b 0) ?_
 refine s_pcall (fun _ h => rtnew_s) ?_
 rintro _ _ ⟨tg2, rfl, rfl⟩
 refine s_lt (t_kern (.agg #[.int .i64 4, .int .i64 0, .string ByteArray.empty, pB tg2 0, .int .i64 0, .int .i64 0, .int .i64 0, .string ByteArray.empty, .int .i64 0, (.slice none 0 0), (.slice none 0 0)])) ?_
 refine s_mem (fun _ h => Holds.nilS (T := VlT) h) ?_
 refine s_mem (fun _ h => Holds.nilS (T := VlT) h) ?_
 refine s_mem (fun _ h => rtO_shut (tp := tg2) (o := (newO 4 0 ByteArray.empty [])) (T := noTb) rfl (h.re [2] [])) ?_
 refine s_mem (fun _ h => show Holds _ (roP ⟨some (newO 4 0 ByteArray.empty []), tg2, ⟨none, 0, 0⟩, ⟨none, 0, 0⟩⟩ :: _) _ from Holds.star_in (L := [own VlT (Sv.v ⟨none, 0, 0⟩) (usr (newO 4 0 ByteArray.empty [])), own VlT (Sv.v ⟨none, 0, 0⟩) (rfs (newO 4 0 ByteArray.empty [])), rtO tg2 (newO 4 0 ByteArray.empty [])]) (h.re [2, 1, 0] [])) ?_
 refine s_call [2, 0] (radd_s (st := st) (o := (newO 4 0 ByteArray.empty [])) (tp := tg2) (uv := ⟨none, 0, 0⟩) (rv := ⟨none, 0, 0⟩) (newO_inv _ _ _ (by decide)) (by omega)) ?_
 rintro _ _ ⟨rfl, rfl⟩
 refine sp (.agg #[.int .i64 ((hmakeV st 4).kind), .int .i64 ((hmakeV st 4).p), .int .i64 ((hmakeV st 4).q), .string ((hmakeV st 4).str), .int .i64 ((hmakeV st 4).ref)]) ?_
 refine sp (.int .i64 (hmakeE st)) ?_
 refine s_store 1 #[.int .i64 ((hmakeV st 4).kind), .int .i64 ((hmakeV st 4).p), .int .i64 ((hmakeV st 4).q), .string ((hmakeV st 4).str), .int .i64 ((hmakeV st 4).ref)] ?_
 refine sp (.int .i64 (hmakeE st)) ?_
 refine s_nt ?_
 refine k_ret ?_
 exact xs_fin [.agg #[.int .i64 ((hmakeV st 4).kind), .int .i64 ((hmakeV st 4).p), .int .i64 ((hmakeV st 4).q), .string ((hmakeV st 4).str), .int .i64 ((hmakeV st 4).ref)], .int .i64 (hmakeE st)] (rhA b (hmake st (newO 4 0 ByteArray.empty [])) :: F) (SI.agg 2 26 1 (SI.tmp 3 SI.nil)) (fun _ h => h.re [0] [1]) ⟨rfl, rfl⟩
theorem rhnewfunc_s {Z : Zone} {F : List Asr} {b : Nat} {st : Hst} (hl : st.objs.length ≤ 1000000) (tag : Int) : SF Try.prog 43 #[.pointer (some ⟨b, 0, none⟩), .int .i64 tag] Z (rhA b st :: F) fun r Bs => r = pairV (hmakeV st 5) (hmakeE st) ∧ Bs = rhA b (hmake st (newO 5 tag ByteArray.empty [])) :: F := by
 refine sf_enter Try.func43 15 [(0, pB b 0), (1, .int .i64 tag)] (fun w0 => ?_)
 refine k_sr ?_
 refine s_alloc (.agg #[.int .i64 0, .int .i64 0, .int .i64 0, .string ByteArray.empty, .int .i64 0]) #[.int .i64 0, .int .i64 0, .int .i64 0, .string ByteArray.empty, .int .i64 0] (fun g1 => ?_)
 refine sp (.int .i64 0) ?_
 refine s_nt ?_
 refine k_seq ?_
 refine k_sr ?_
 refine sp (pB b 0) ?_
 refine sp (.bool false) ?_
 refine s_nt ?_
 refine k_false ?_
 refine k_st ?_
 refine k_sr ?_
 refine sp (pB b 0) ?_
 refine sp (.int .i64 tag) ?_
 refine s_lt (t_kern (.agg #[.int .i64 5, .int .i64 tag, .string ByteArray.empty, .pointer none, .int .i64 0, .int .i64 0, .int .i64 0, .string ByteArray.empty, .int .i64 0, (.slice none 0 0), (.slice none 0 0)])) ?_
 refine s_mem (fun _ h => Holds.nilS (T := VlT) h) ?_
 refine s_mem (fun _ h => Holds.nilS (T := VlT) h) ?_
 refine s_mem (fun _ h => rtO_none (tp := 0) (o := (newO 5 tag ByteArray.empty [])) (show (5 : Int) ≠ 4 by decide) h) ?_
 refine s_mem (fun _ h => show Holds _ (roP ⟨some (newO 5 tag ByteArray.empty []), 0, ⟨none, 0, 0⟩, ⟨none, 0, 0⟩⟩ :: _) _ from Holds.star_in (L := [own VlT (Sv.v ⟨none, 0, 0⟩) (usr (newO 5 tag ByteArray.empty [])), own VlT (Sv.v ⟨none, 0, 0⟩) (rfs (newO 5 tag ByteArray.empty [])), rtO 0 (newO 5 tag ByteArray.empty [])]) (h.re [2, 1, 0] [])) ?_
 refine s_call [2, 0] (radd_s (st := st) (o := (newO 5 tag ByteArray.empty [])) (tp := 0) (uv := ⟨none, 0, 0⟩) (rv := ⟨none, 0, 0⟩) (newO_inv _ _ _ (by decide)) (by omega)) ?_
 rintro _ _ ⟨rfl, rfl⟩
 refine sp (.agg #[.int .i64 ((hmakeV st 5).kind), .int .i64 ((hmakeV st 5).p), .int .i64 ((hmakeV st 5).q), .string ((hmakeV st 5).str), .int .i64 ((hmakeV st 5).ref)]) ?_
 refine sp (.int .i64 (hmakeE st)) ?_
 refine s_store 1 #[.int .i64 ((hmakeV st 5).kind), .int .i64 ((hmakeV st 5).p), .int .i64 ((hmakeV st 5).q), .string ((hmakeV st 5).str), .int .i64 ((hmakeV st 5).ref)] ?_
 refine sp (.int .i64 (hmakeE st)) ?_
 refine s_nt ?_
 refine k_ret ?_
 exact xs_fin [.agg #[.int .i64 ((hmakeV st 5).kind), .int .i64 ((hmakeV st 5).p), .int .i64 ((hmakeV st 5).q), .string ((hmakeV st 5).str), .int .i64 ((hmakeV st 5).ref)], .int .i64 (hmakeE st)] (rhA b (hmake st (newO 5 tag ByteArray.empty [])) :: F) (SI.agg 4 26 1 (SI.tmp 5 SI.nil)) (fun _ h => h.re [0] [1]) ⟨rfl, rfl⟩
theorem rhnewdata_s {Z : Zone} {F : List Asr} {b : Nat} {st : Hst} (hl : st.objs.length ≤ 1000000) (name : ByteArray) : SF Try.prog 41 #[.pointer (some ⟨b, 0, none⟩), .string name] Z (rhA b st :: F) fun r Bs => r = pairV (hdataV st name) (hdataE st name) ∧ Bs = rhA b (hdata st name) :: F := by
 refine sf_enter Try.func41 31 [(0, pB b 0), (1, .string name)] (fun w0 => ?_)
 refine k_sr ?_
 refine s_alloc (.agg #[.int .i64 0, .int .i64 0, .int .i64 0, .string ByteArray.empty, .int .i64 0]) #[.int .i64 0, .int .i64 0, .int .i64 0, .string ByteArray.empty, .int .i64 0] (fun g1 => ?_)
 refine sp (.int .i64 0) ?_
 refine s_nt ?_
 refine k_seq ?_
 refine k_sr ?_
 refine sp (pB b 0) ?_
 refine sp (.bool false) ?_
 refine s_nt ?_
 refine k_false ?_
 refine k_st ?_
 refine k_seq ?_
 refine k_sr ?_
 refine sp (.string name) ?_
 refine s_lt (t_kern (.int .i64 (name.size : Int))) ?_
 refine s_lt t_cmp ?_
 refine s_nt ?_
 refine k_cond (decide ((40 : Int) < (name.size : Int))) (fun c2 => ?_) (fun c2 => ?_)
 ·
  have p3 := of_decide_eq_true c2
  refine k_sr ?_
  refine s_lt (t_kern (.agg #[.int .i64 0, .int .i64 0, .int .i64 0, .string ByteArray.empty, .int .i64 0])) ?_
  refine s_store 0 #[.int .i64 0, .int .i64 0, .int .i64 0, .string ByteArray.empty, .int .i64 0] ?_
  refine sp (.int .i64 14) ?_
  refine s_nt ?_
  refine k_ret ?_
  refine xs_ret ?_
  have hp := of_decide_eq_true c2
  refine xs_fin [.agg #[.int .i64 0, .int .i64 0, .int .i64 0, .string ByteArray.empty, .int .i64 0], .int .i64 14] (rhA b st :: F) (SI.agg 4 26 0 (SI.tmp 5 SI.nil)) (fun _ h => h.re [1] [1]) ⟨?_, ?_⟩
  · unfold hdataV hdataE; rw [if_pos hp, if_pos hp]; rfl
  · unfold hdata; rw [if_pos hp]
 ·
  have p4 := of_decide_eq_false c2
  refine k_st ?_
  refine k_sr ?_
  refine s_buildSlice (e := 26) [] #[] (fun g5 => ?_) (hb := by kernel_rfl)
  refine sp (.slice (some ⟨g5, 0, none⟩) 0 0) ?_
  refine s_nt ?_
  refine k_seq ?_
  refine k_sr ?_
  refine sp (.int .i64 0) ?_
  refine s_nt ?_
  refine k_block ?_
  refine k_mem (fun _ h => Holds.slice 0 h VlT_ok []) ?_
  refine k_mem (Bs := own VlT (.slice (some ⟨g5, 0, none⟩) 0 0) (List.replicate 0 zVl) :: blkA g1 #[.int .i64 0, .int .i64 0, .int .i64 0, .string ByteArray.empty, .int .i64 0] 26 :: rhA b st :: F) (fun _ h => h) ?_
  refine k_loop (ι := Value × Nat) (fun (lx, i) => i ≤ 16) (fun (lx, i) => [(0, pB b 0), (1, .string name), (4, pB g1 0), (6, lx), (7, .int .i64 (i : Int))]) (fun (lx, i) => own VlT lx (List.replicate i zVl) :: blkA g1 #[.int .i64 0, .int .i64 0, .int .i64 0, .string ByteArray.empty, .int .i64 0] 26 :: rhA b st :: F) (fun (lx, i) => 16 - i) ((.slice (some ⟨g5, 0, none⟩) 0 0), 0) (Nat.zero_le _) (sub_of rfl ⟨⟨rfl, rfl⟩, ⟨⟨rfl, rfl⟩, ⟨⟨rfl, rfl⟩, ⟨⟨rfl, rfl⟩, ⟨⟨rfl, rfl⟩, trivial⟩⟩⟩⟩⟩) (fun _ h => h.re [0, 0, 0] []) ?_
  rintro ⟨lx, i⟩ hi6
  replace hi6 : i ≤ 16 := hi6
  show SK _ _ _ _ _ [(0, .pointer (some ⟨b, 0, none⟩)), (1, .string name), (4, .pointer (some ⟨g1, 0, none⟩)), (6, lx), (7, .int .i64 (i : Int))] _ (own VlT lx (List.replicate i zVl) :: blkA g1 #[.int .i64 0, .int .i64 0, .int .i64 0, .string ByteArray.empty, .int .i64 0] 26 :: rhA b st :: F)
  refine k_seq ?_
  refine k_sr ?_
  refine sp (.int .i64 (i : Int)) ?_
  refine s_lt t_cmp ?_
  refine s_nt ?_
  refine k_cond (decide ((i : Int) < 16)) (fun c7 => ?_) (fun c7 => ?_)
  ·
   have p8 := of_decide_eq_true c7
   refine k_st ?_
   refine k_seq ?_
   refine k_block ?_
   refine k_reg ?_
   refine sp lx ?_
   refine s_lt (t_kern (.agg #[.int .i64 0, .int .i64 0, .int .i64 0, .string ByteArray.empty, .int .i64 0])) ?_
   refine s_buildSlice (e := 26) [(0, .agg #[.int .i64 0, .int .i64 0, .int .i64 0, .string ByteArray.empty, .int .i64 0])] #[.int .i64 0, .int .i64 0, .int .i64 0, .string ByteArray.empty, .int .i64 0] (fun g9 => ?_) (hb := by kernel_rfl)
   refine s_append (L := (List.replicate i zVl)) 1 VlT_ok Try.underlying33 (.lit 0 VlT_ok [zVl]) (by show _ * 48 ≤ _; (try simp only [lnm]); omega) (by (try simp only [lnm]); omega) (fun v10 => ?_)
   refine sp v10 ?_
   refine s_nil ?_
   refine xs_block ?_
   refine xs_then ?_
   refine k_reg ?_
   refine sp (.int .i64 (i : Int)) ?_
   refine s_lt (t_add (i : Int) 1 (by (try simp only [lnm]); omega)) ?_
   refine sp (.int .i64 ((i : Int) + 1)) ?_
   refine s_nil ?_
   rw [show List.replicate i zVl ++ [zVl] = List.replicate (i + 1) zVl from List.replicate_succ'.symm]
   exact xs_round (v10, i + 1) (by show 16 - (i + 1) < 16 - i; omega) (by show i + 1 ≤ 16; omega) (sub_of rfl ⟨⟨rfl, rfl⟩, ⟨⟨rfl, rfl⟩, ⟨⟨rfl, rfl⟩, ⟨⟨rfl, rfl⟩, ⟨⟨rfl, rfl⟩, trivial⟩⟩⟩⟩⟩) (fun _ h => h.re [1, 1, 1] [3])
  ·
   have p11 := of_decide_eq_false c7
   refine k_exit ?_
   obtain rfl : i = 16 := by omega
   refine xs_exit ?_
   refine xs_exit ?_
   refine xs_here ?_
   refine xs_then ?_
   refine k_sr ?_
   refine sp (pB b 0) ?_
   refine sp (.string name) ?_
   refine sp lx ?_
   refine s_fact (fun H h => ((Acc.own (T := VlT) (L := (List.replicate 16 zVl)) 0 rfl) H h).form) (fun hf12 => ?_)
   refine s_lt (show Lt _ _ _ _ _ (.agg #[.int .i64 8, .int .i64 0, .string name, .pointer none, .int .i64 0, .int .i64 0, .int .i64 0, .string ByteArray.empty, .int .i64 0, lx, (.slice none 0 0)]) from by obtain ⟨_, _, e⟩ := hf12; rw [e]; clear e; exact t_kern _) ?_
   refine s_fact (fun H h => ((Acc.own (T := VlT) (L := (List.replicate 16 zVl)) 0 rfl) H h).form) (fun hfm => ?_)
   obtain ⟨p13, cp14, hev⟩ := hfm
   subst hev
   refine s_mem (fun _ h => Holds.nilS (T := VlT) h) ?_
   refine s_mem (fun _ h => rtO_none (tp := 0) (o := (newO 8 0 name (List.replicate 16 zVl))) (show (8 : Int) ≠ 4 by decide) h) ?_
   refine s_mem (fun _ h => show Holds _ (roP ⟨some (newO 8 0 name (List.replicate 16 zVl)), 0, ⟨p13, (List.replicate 16 zVl).length, cp14⟩, ⟨none, 0, 0⟩⟩ :: _) _ from Holds.star_in (L := [own VlT (Sv.v ⟨p13, (List.replicate 16 zVl).length, cp14⟩) (usr (newO 8 0 name (List.replicate 16 zVl))), own VlT (Sv.v ⟨none, 0, 0⟩) (rfs (newO 8 0 name (List.replicate 16 zVl))), rtO 0 (newO 8 0 name (List.replicate 16 zVl))]) (h.re [2, 1, 0] [])) ?_
   refine s_call [2, 0] (radd_s (st := st) (o := (newO 8 0 name (List.replicate 16 zVl))) (tp := 0) (uv := ⟨p13, (List.replicate 16 zVl).length, cp14⟩) (rv := ⟨none, 0, 0⟩) (newO_inv _ _ _ (by decide)) (by omega)) ?_
   rintro _ _ ⟨rfl, rfl⟩
   refine sp (.agg #[.int .i64 ((hmakeV st 8).kind), .int .i64 ((hmakeV st 8).p), .int .i64 ((hmakeV st 8).q), .string ((hmakeV st 8).str), .int .i64 ((hmakeV st 8).ref)]) ?_
   refine sp (.int .i64 (hmakeE st)) ?_
   refine s_store 1 #[.int .i64 ((hmakeV st 8).kind), .int .i64 ((hmakeV st 8).p), .int .i64 ((hmakeV st 8).q), .string ((hmakeV st 8).str), .int .i64 ((hmakeV st 8).ref)] ?_
   refine sp (.int .i64 (hmakeE st)) ?_
   refine s_nt ?_
   refine k_ret ?_
   have hp := of_decide_eq_false c2
   refine xs_fin [.agg #[.int .i64 ((hmakeV st 8).kind), .int .i64 ((hmakeV st 8).p), .int .i64 ((hmakeV st 8).q), .string ((hmakeV st 8).str), .int .i64 ((hmakeV st 8).ref)], .int .i64 (hmakeE st)] (rhA b (hmake st (newO 8 0 name (List.replicate 16 zVl))) :: F) (SI.agg 4 26 1 (SI.tmp 5 SI.nil)) (fun _ h => h.re [0] [1]) ⟨?_, ?_⟩
   · unfold hdataV hdataE; rw [if_neg hp, if_neg hp]; rfl
   · unfold hdata; rw [if_neg hp] <;> rfl
theorem rhnew_s {Z : Zone} : SF Try.prog 38 #[] Z [] fun r Bs => ∃ b, r = .pointer (some ⟨b, 0, none⟩) ∧ Bs = [rhA b hp0] := by
 refine sf_enter Try.func38 3 [] (fun w0 => ?_)
 refine k_sr ?_
 refine sp (.pointer none) ?_
 refine s_nr ?_
 refine s_lt (t_kern (.agg #[(.slice none 0 0), .int .i64 0, (.slice none 0 0)])) ?_
 refine s_box #[(.slice none 0 0), .int .i64 0, (.slice none 0 0)] (fun g1 => ?_)
 refine sp (pB g1 0) ?_
 refine s_nt ?_
 refine k_ret ?_
 refine xs_fin [pB g1 0] [rhA g1 hp0] (SI.tmp 0 SI.nil) (fun _ h => rh_shut (b := g1) (st := hp0) (L := []) (T := []) (v := .slice none 0 0) (tv := .slice none 0 0) ⟨⟨⟨HInv.nil, rfl⟩, rfl⟩, rfl⟩ ((Holds.nilS (T := RxT) (Holds.nilS (T := bTy) (Holds.star_nil h))).re [3, 0, 0, 0] [])) ⟨g1, rfl, rfl⟩
end Go.Proofs.Ytplkkhpokodbmaa
